import Derived.Test.YtjbnffadfohofaaProg
import Derived.Below
import Derived.Deep.Draws
import Derived.Deep.AppendLies
import Derived.Maps.AppendAt
import Derived.OwnWalk
import Derived.Laws.BytesArg
import Derived.Laws.MakeOwn
import Derived.Laws.OwnMore
import Derived.Deep.OwnRows
import Derived.Tactics
import Derived.Lib.ConvBytes
import Derived.Laws.Slices
import Derived.WalkKit
import Derived.KernelRfl
import Derived.RowKit3
import Derived.Deep.LoopGhost
import Derived.Deep.QuietTactic
import Derived.BigQuiet
import Derived.WideLaws
import Derived.Deep.DeepCutAuto
import Derived.Deep.CutBlock
import Derived.Deep.RegionHeld3
import Derived.Laws.Rows
import Derived.Lib.AppendStr
import Derived.ArgAppend
import Derived.Laws.IdiomCopy
import Derived.OrdersHeld
import Derived.Laws.BitsLemmas
import Derived.RowKit
import Derived.Test.YtjbnffadfohofaaWWords
import Derived.Test.YtjbnffadfohofaaWLast
import Derived.Test.YtjbnffadfohofaaWTab
import Derived.Test.YtjbnffadfohofaaWFour
import Derived.Test.YtjbnffadfohofaaWQPut
import Derived.Test.YtjbnffadfohofaaWApart
import Derived.Test.YtjbnffadfohofaaWArr
import Derived.Test.YtjbnffadfohofaaWZeros
import Derived.Test.YtjbnffadfohofaaWFoot
import Derived.Test.YtjbnffadfohofaaWKept
import Derived.Test.YtjbnffadfohofaaWShare
import Derived.Test.YtjbnffadfohofaaWN
import Derived.Test.YtjbnffadfohofaaWFootNe
import Derived.Test.YtjbnffadfohofaaWAt
import Derived.Test.YtjbnffadfohofaaWEqStruct
import Derived.Test.YtjbnffadfohofaaWRepsOne
import Derived.Test.YtjbnffadfohofaaWInv
import Derived.Test.YtjbnffadfohofaaWInvWords
import Derived.Test.YtjbnffadfohofaaWGuard
import Derived.Test.YtjbnffadfohofaaWNEv
import Derived.Test.YtjbnffadfohofaaWMore
import Derived.Lib.SlBytesConst
import Derived.Lib.SmallJoins
import Derived.Deep.Upon
import Derived.Lib.Bytes
import GoSem.Claim
import Derived.Outline
import Derived.Stop.BytesEq
-- MERGED YtjbnffadfohofaaPBase
section
-- Written by wip/myprint.py of this session, over the kit's print.py: a Lean function for each Go function, and the proof that the code comes to it.
namespace Go.Proofs.Ytjbnffadfohofaa.P
open Go.RowKit Go.Proofs.YtjbnffadfohofaaW.PrintWords Go.Proofs.YtjbnffadfohofaaW.PrintLast Go.Proofs.YtjbnffadfohofaaW.PrintMore
attribute [local go_sem] max2_int min2_int max_two min_two max_three min_three max_four min_four   -- for this text's walks alone
set_option linter.unusedVariables false
set_option linter.unusedSimpArgs false



def errW : Option Int → Value
  | none => .nilIface
  | some c => .iface 0 (.int .i64 c)
theorem errW_none : errW none = .nilIface := rfl
theorem errW_some (c : Int) : errW (some c) = .iface 0 (.int .i64 c) := rfl

theorem V_string {P : Program} {w : World} {base e : Nat} {ok : Nat → Prop} {src dst e2 : TypeId} {v : Value} {xs : List Int} (hs : P.underlying src = some (.slice e2)) (he : P.underlying e2 = some (.int .u8)) (hd : P.underlying dst = some .string) (h : Kd.V (Kd.int .u8) e w base ok v xs) : (convert src dst v).run P w = .ok (.string (strOfNums xs)) w := by
  obtain ⟨A, c, rfl, _, hF⟩ := h
  exact Kd.C_string hs he hd (Kd.F_now hF)
theorem info4 : (Try.prog.info? 4).map (fun i => (i.zero, i.size, i.bytes)) = some (some (.bool false), 1, 1) := by kernel_rfl
theorem info9 : (Try.prog.info? 9).map (fun i => (i.zero, i.size, i.bytes)) = some (some (.string ⟨#[]⟩), 1, 16) := by kernel_rfl
theorem info44 : (Try.prog.info? 44).map (fun i => (i.zero, i.size, i.bytes)) = some (some (.agg #[(.int .i64 0), (.int .i64 0), (.int .i64 0)]), 3, 24) := by kernel_rfl
theorem info49 : (Try.prog.info? 49).map (fun i => (i.zero, i.size, i.bytes)) = some (some (.agg #[(.int .i64 0), (.string ⟨#[]⟩), (.int .i64 0)]), 3, 32) := by kernel_rfl
theorem info70 : (Try.prog.info? 70).map (fun i => (i.zero, i.size, i.bytes)) = some (some (.int .i64 0), 1, 8) := by kernel_rfl
-- the values' own types
/-! #### struct type 49 -/
structure S49 where
  f0 : Int
  f1 : ByteArray
  f2 : Int
def z49 : S49 := ⟨(0 : Int), (⟨#[]⟩ : ByteArray), (0 : Int)⟩
def k49 : Kd S49 := Kd.iso (Kd.pair (Kd.int .i64) (Kd.pair Kd.string (Kd.int .i64))) (fun x : S49 => (x.f0, x.f1, x.f2))
theorem k49_open {w : World} {x : S49} {cs : List Value} (h : k49.K w x cs) : cs = [.int .i64 x.f0, .string x.f1, .int .i64 x.f2] := by
  obtain ⟨_, _, rfl, rfl, ⟨_, _, rfl, rfl, rfl⟩⟩ := h
  exact rfl
theorem k49_openM {w : World} {base : Nat} {ok : Nat → Prop} {x : S49} {cs : List Value} (h : k49.M w base ok x cs) : cs = [.int .i64 x.f0, .string x.f1, .int .i64 x.f2] := by
  obtain ⟨_, _, rfl, rfl, ⟨_, _, rfl, rfl, rfl⟩⟩ := h
  exact rfl
theorem k49_mk (w : World) (x : S49)  : k49.K w x [.int .i64 x.f0, .string x.f1, .int .i64 x.f2] := ⟨[.int .i64 x.f0], [.string x.f1, .int .i64 x.f2], rfl, rfl, ⟨[.string x.f1], [.int .i64 x.f2], rfl, rfl, rfl⟩⟩
theorem k49_mkM (w : World) (base : Nat) (ok : Nat → Prop) (x : S49)  : k49.M w base ok x [.int .i64 x.f0, .string x.f1, .int .i64 x.f2] := ⟨[.int .i64 x.f0], [.string x.f1, .int .i64 x.f2], rfl, rfl, ⟨[.string x.f1], [.int .i64 x.f2], rfl, rfl, rfl⟩⟩
theorem k49_mkF (W : World) (ok : Nat → Prop) (x : S49) : Kd.FK k49 W ok x [.int .i64 x.f0, .string x.f1, .int .i64 x.f2] := fun W2 _ => k49_mk W2 x
def rd_T49 (xs : List S49) (i : Int) : S49 := xs.getD i.toNat z49
theorem at_T49 {w : World} {A : Option Addr} {n : Nat} {xs : List S49} (h : Kd.C k49 w A n xs) (i : Int) (h0 : 0 ≤ i) (h1 : i < n) : ∃ ad , A = some ad ∧ w.cell? (ad.add (i.toNat * 3)) = some (.int .i64 (rd_T49 xs i).f0) ∧ w.cell? ⟨(ad.add (i.toNat * 3)).block, (ad.add (i.toNat * 3)).off + 1, none⟩ = some (.string (rd_T49 xs i).f1) ∧ w.cell? ⟨(ad.add (i.toNat * 3)).block, (ad.add (i.toNat * 3)).off + 2, none⟩ = some (.int .i64 (rd_T49 xs i).f2) := by
  obtain ⟨ad, c, e, _, hK, hc0⟩ := Kd.C_get h z49 i h0 h1
  have hc : ∀ j u, c[j]? = some u → w.cell? (ad.add (i.toNat * 3 + j)) = some u := hc0
  obtain rfl := k49_open hK
  exact ⟨ad, e, hc 0 _ rfl, by rw [← add_field _ _ 1 (by omega)]; exact hc 1 _ rfl, by rw [← add_field _ _ 2 (by omega)]; exact hc 2 _ rfl⟩

def rd_L3 (xs : List (List S49)) (i : Int) : (List S49) := xs.getD i.toNat ([] : List S49)
theorem at_L3 {w : World} {A : Option Addr} {n : Nat} {xs : List (List S49)} (h : Kd.C (Kd.slice 49 k49) w A n xs) (i : Int) (h0 : 0 ≤ i) (h1 : i < n) : ∃ ad A0 c0, A = some ad ∧ w.cell? (ad.add i.toNat) = some (.slice A0 (rd_L3 xs i).length c0) ∧ (rd_L3 xs i).length ≤ c0 ∧ k49.C w A0 (rd_L3 xs i).length (rd_L3 xs i) := by
  obtain ⟨ad, c, e, _, hK, hc0⟩ := Kd.C_get h ([] : List S49) i h0 h1
  have hc : ∀ j u, c[j]? = some u → w.cell? (ad.add (i.toNat * 1 + j)) = some u := hc0
  obtain ⟨A0, c0, rfl, l0, g0⟩ := hK
  exact ⟨ad, A0, c0, e, by have hq := hc 0 _ rfl; rwa [Nat.mul_one, Nat.add_zero] at hq, l0, g0⟩

/-! #### struct type 42 -/
structure S42 where
  f0 : Int
  f1 : Int
def z42 : S42 := ⟨(0 : Int), (0 : Int)⟩
def k42 : Kd S42 := Kd.iso (Kd.pair (Kd.int .i64) (Kd.int .i64)) (fun x : S42 => (x.f0, x.f1))
theorem k42_open {w : World} {x : S42} {cs : List Value} (h : k42.K w x cs) : cs = [.int .i64 x.f0, .int .i64 x.f1] := by
  obtain ⟨_, _, rfl, rfl, rfl⟩ := h
  exact rfl
theorem k42_openM {w : World} {base : Nat} {ok : Nat → Prop} {x : S42} {cs : List Value} (h : k42.M w base ok x cs) : cs = [.int .i64 x.f0, .int .i64 x.f1] := by
  obtain ⟨_, _, rfl, rfl, rfl⟩ := h
  exact rfl
theorem k42_mk (w : World) (x : S42)  : k42.K w x [.int .i64 x.f0, .int .i64 x.f1] := ⟨[.int .i64 x.f0], [.int .i64 x.f1], rfl, rfl, rfl⟩
theorem k42_mkM (w : World) (base : Nat) (ok : Nat → Prop) (x : S42)  : k42.M w base ok x [.int .i64 x.f0, .int .i64 x.f1] := ⟨[.int .i64 x.f0], [.int .i64 x.f1], rfl, rfl, rfl⟩
theorem k42_mkF (W : World) (ok : Nat → Prop) (x : S42) : Kd.FK k42 W ok x [.int .i64 x.f0, .int .i64 x.f1] := fun W2 _ => k42_mk W2 x
def rd_T42 (xs : List S42) (i : Int) : S42 := xs.getD i.toNat z42
theorem at_T42 {w : World} {A : Option Addr} {n : Nat} {xs : List S42} (h : Kd.C k42 w A n xs) (i : Int) (h0 : 0 ≤ i) (h1 : i < n) : ∃ ad , A = some ad ∧ w.cell? (ad.add (i.toNat * 2)) = some (.int .i64 (rd_T42 xs i).f0) ∧ w.cell? ⟨(ad.add (i.toNat * 2)).block, (ad.add (i.toNat * 2)).off + 1, none⟩ = some (.int .i64 (rd_T42 xs i).f1) := by
  obtain ⟨ad, c, e, _, hK, hc0⟩ := Kd.C_get h z42 i h0 h1
  have hc : ∀ j u, c[j]? = some u → w.cell? (ad.add (i.toNat * 2 + j)) = some u := hc0
  obtain rfl := k42_open hK
  exact ⟨ad, e, hc 0 _ rfl, by rw [← add_field _ _ 1 (by omega)]; exact hc 1 _ rfl⟩

/-! #### struct type 44 -/
structure S44 where
  f0 : S42
  f1 : Int
def z44 : S44 := ⟨z42, (0 : Int)⟩
def k44 : Kd S44 := Kd.iso (Kd.pair k42 (Kd.int .i64)) (fun x : S44 => (x.f0, x.f1))
theorem k44_open {w : World} {x : S44} {cs : List Value} (h : k44.K w x cs) : cs = [.int .i64 x.f0.f0, .int .i64 x.f0.f1, .int .i64 x.f1] := by
  obtain ⟨_, _, rfl, s0, rfl⟩ := h
  obtain rfl := k42_open s0
  exact rfl
theorem k44_openM {w : World} {base : Nat} {ok : Nat → Prop} {x : S44} {cs : List Value} (h : k44.M w base ok x cs) : cs = [.int .i64 x.f0.f0, .int .i64 x.f0.f1, .int .i64 x.f1] := by
  obtain ⟨_, _, rfl, s0, rfl⟩ := h
  obtain rfl := k42_openM s0
  exact rfl
theorem k44_mk (w : World) (x : S44)  : k44.K w x [.int .i64 x.f0.f0, .int .i64 x.f0.f1, .int .i64 x.f1] := ⟨[.int .i64 x.f0.f0, .int .i64 x.f0.f1], [.int .i64 x.f1], rfl, (k42_mk w x.f0 ), rfl⟩
theorem k44_mkM (w : World) (base : Nat) (ok : Nat → Prop) (x : S44)  : k44.M w base ok x [.int .i64 x.f0.f0, .int .i64 x.f0.f1, .int .i64 x.f1] := ⟨[.int .i64 x.f0.f0, .int .i64 x.f0.f1], [.int .i64 x.f1], rfl, (k42_mkM w base ok x.f0 ), rfl⟩
theorem k44_mkF (W : World) (ok : Nat → Prop) (x : S44) : Kd.FK k44 W ok x [.int .i64 x.f0.f0, .int .i64 x.f0.f1, .int .i64 x.f1] := fun W2 _ => k44_mk W2 x
def rd_T44 (xs : List S44) (i : Int) : S44 := xs.getD i.toNat z44
theorem at_T44 {w : World} {A : Option Addr} {n : Nat} {xs : List S44} (h : Kd.C k44 w A n xs) (i : Int) (h0 : 0 ≤ i) (h1 : i < n) : ∃ ad , A = some ad ∧ w.cell? (ad.add (i.toNat * 3)) = some (.int .i64 (rd_T44 xs i).f0.f0) ∧ w.cell? ⟨(ad.add (i.toNat * 3)).block, (ad.add (i.toNat * 3)).off + 1, none⟩ = some (.int .i64 (rd_T44 xs i).f0.f1) ∧ w.cell? ⟨(ad.add (i.toNat * 3)).block, (ad.add (i.toNat * 3)).off + 2, none⟩ = some (.int .i64 (rd_T44 xs i).f1) := by
  obtain ⟨ad, c, e, _, hK, hc0⟩ := Kd.C_get h z44 i h0 h1
  have hc : ∀ j u, c[j]? = some u → w.cell? (ad.add (i.toNat * 3 + j)) = some u := hc0
  obtain rfl := k44_open hK
  exact ⟨ad, e, hc 0 _ rfl, by rw [← add_field _ _ 1 (by omega)]; exact hc 1 _ rfl, by rw [← add_field _ _ 2 (by omega)]; exact hc 2 _ rfl⟩

end Go.Proofs.Ytjbnffadfohofaa.P
end
-- MERGED YtjbnffadfohofaaOwn
section
/- Small words of this session's own, beside the print's: rows that lie in a block that is known whole. -/
namespace Go.Proofs.Ytjbnffadfohofaa.Own
open Go.RowKit Go.Proofs.YtjbnffadfohofaaW.PrintWords Go.Proofs.YtjbnffadfohofaaW.PrintLast Go.Proofs.YtjbnffadfohofaaW.PrintMore

/-- A row whose elements' cells lie in a block that is known. -/
theorem C_of_block {α : Type} (d : Kd α) {W : World} {g : Nat} {C : Array Value} {t : TypeId} {fr : Nat × Nat} {xs : List α} {inner : List Value} (h : W.heap[g]? = some (.cells C t fr))
    (hr : Reps (d.K W) d.sz xs inner) (hC : ∀ (j : Nat) (u : Value), inner[j]? = some u → C[j]? = some u) (hm : xs.length ≤ 9223372036854775807) : Kd.C d W (some ⟨g, 0, none⟩) xs.length xs := by
  refine ⟨rfl, hm, fun _ => ⟨_, rfl, fun j p hj => ?_⟩⟩
  refine ⟨(inner.drop (j * d.sz)).take d.sz, ?_, hr.2 j p hj, fun i u hu => ?_⟩
  · exact d.K_len (hr.2 j p hj)
  · have hl : i < d.sz := by
      have := (List.getElem?_eq_some_iff.1 hu).1
      rw [List.length_take] at this
      omega
    rw [List.getElem?_take_of_lt hl, List.getElem?_drop] at hu
    rw [add_plain, World.cell?, h]
    simp only []
    exact hC _ _ hu

theorem reps_nums (k : IntKind) (W : World) (xs : List Int) : Reps ((Kd.int k).K W) (Kd.int k).sz xs (nums k xs) := by
  refine ⟨by rw [nums_length]; exact (Nat.mul_one _).symm, fun j p hj => ?_⟩
  show ((nums k xs).drop (j * 1)).take 1 = [.int k p]
  rw [Nat.mul_one]
  have h1 : (nums k xs)[j]? = some (.int k p) := by simp [nums, hj]
  obtain ⟨hl, he⟩ := List.getElem?_eq_some_iff.1 h1
  rw [List.drop_eq_getElem_cons hl, he]
  rfl

theorem C_of_nums (k : IntKind) {W : World} {g : Nat} {C : Array Value} {t : TypeId} {fr : Nat × Nat} (xs : List Int) (h : W.heap[g]? = some (.cells C t fr)) (hC : ∀ (j : Nat) (u : Value), (nums k xs)[j]? = some u → C[j]? = some u)
    (hm : xs.length ≤ 9223372036854775807) : Kd.C (Kd.int k) W (some ⟨g, 0, none⟩) xs.length xs := C_of_block (Kd.int k) h (reps_nums k W xs) hC hm

theorem C_of_lit (k : IntKind) {W : World} {g : Nat} {C : Array Value} {t : TypeId} {fr : Nat × Nat} (xs : List Int) (h : W.heap[g]? = some (.cells C t fr)) (hC : C.toList = nums k xs)
    (hm : xs.length ≤ 9223372036854775807) : Kd.C (Kd.int k) W (some ⟨g, 0, none⟩) xs.length xs := C_of_nums k xs h (fun j u hu => by rw [← hC, Array.getElem?_toList] at hu; exact hu) hm

theorem nums_at {k : IntKind} {xs : List Int} {j : Nat} {u : Value} (h : (nums k xs)[j]? = some u) : ∃ x, xs[j]? = some x ∧ u = .int k x := by
  rw [nums, List.getElem?_map] at h
  cases e : xs[j]? with
  | none => rw [e] at h; cases h
  | some x => rw [e] at h; exact ⟨x, rfl, (Option.some.inj h).symm⟩
/-- The cells of a row of numbers that is read. -/
theorem C_cells {k : IntKind} {w : World} {A : Option Addr} {n : Nat} {xs : List Int} (h : Kd.C (Kd.int k) w A n xs) (b : Addr) (hb : A = some b) (j : Nat) (u : Value) (hu : (nums k xs)[j]? = some u) : w.cell? (b.add j) = some u := by
  obtain ⟨x, hx, rfl⟩ := nums_at hu
  have hl := (List.getElem?_eq_some_iff.1 hx).1
  obtain ⟨ad, e, hc⟩ := h.2.2 (by rw [← h.1]; omega)
  rw [hb] at e
  obtain rfl := Option.some.inj e
  obtain ⟨c, _, hr, hcell⟩ := hc j x hx
  have hc1 : c = [.int k x] := hr
  subst hc1
  have := hcell 0 _ rfl
  rwa [show j * (Kd.int k).sz + 0 = j from Nat.mul_one j] at this
theorem C_none {k : IntKind} {w : World} {A : Option Addr} {n : Nat} {xs : List Int} (h : Kd.C (Kd.int k) w A n xs) (hA : A = none) : n = 0 := by
  rcases Nat.eq_zero_or_pos n with e | e
  · exact e
  · obtain ⟨ad, e2, _⟩ := h.2.2 e
    rw [hA] at e2; cases e2

theorem C_take {α : Type} {d : Kd α} {w : World} {A : Option Addr} {n : Nat} {xs : List α} (h : Kd.C d w A n xs) (m : Nat) (hm : m ≤ n) : Kd.C d w A m (xs.take m) := by
  refine ⟨by rw [List.length_take, h.1]; omega, by have := h.2.1; omega, fun hp => ?_⟩
  obtain ⟨ad, e, hc⟩ := h.2.2 (by omega)
  refine ⟨ad, e, fun j p hj => hc j p ?_⟩
  have hl : j < m := by
    have := (List.getElem?_eq_some_iff.1 hj).1
    rw [List.length_take] at this
    omega
  rwa [List.getElem?_take_of_lt hl] at hj
/-- An append of numbers to a slice that is full ('b[:len(b):len(b)]'): the answer lies in new memory. -/
theorem append_full {P : Program} {w : World} {ops : Array Oper} {rest : List Oper} {o : Oper} {a : Act} {Q : Exit → Act → World → Prop} (k : IntKind)
    (hg : o.guard = none) (s x : Operand) (t e : TypeId) (bytes : Nat) (hop : o.op = Op.call { callee := Callee.builtin Builtin.append, args := #[s, x], argTypes := #[t, t] })
    (h1 : P.underlying t = some (.slice e)) (hi : (P.info? e).map (fun i => (i.zero, i.size, i.bytes)) = some (some (.int k 0), 1, bytes))
    (A : Option Addr) (n : Nat) (xs : List Int) (hs : a.eval s = .slice A n n) (hx : Kd.C (Kd.int k) w A n xs)
    (A2 : Option Addr) (m c2 : Nat) (ys : List Int) (he2 : a.eval x = .slice A2 m c2) (hy : Kd.C (Kd.int k) w A2 m ys) (hm : 0 < m)
    (b1 : n + m ≤ maxLen) (b2 : (n + m) * bytes ≤ 140737488355328)
    (hK : ∀ v' w', Kd.R (Kd.int k) e w' w.heap.size (fun _ => True) v' (xs ++ ys) → Below w.heap.size w w' → wpList P ops Q rest (a.put o.dst v') w') :
    wpList P ops Q (o :: rest) a w := by
  obtain ⟨i0, hi0, hz0, hz1, hz2⟩ := info_parts hi
  obtain ⟨ad, hA2, _⟩ := hy.2.2 hm
  subst hA2
  refine wpList_append_grows w hg s x t hop e i0 (.int k 0) 1 bytes h1 hi0 hz0 hz1 hz2 rfl (by decide) A n n (nums k xs) hs (fun hA => ⟨C_none hx hA, C_none hx hA⟩) (by rw [nums_length, hx.1]; omega)
    (fun b hb j u hu => C_cells hx b hb j u hu) ad m c2 (nums k ys) he2 (by rw [nums_length, hy.1]; omega) (fun j u hu => C_cells hy ad rfl j u hu)
    (fun u hu => by
      rw [nums, List.mem_map] at hu
      obtain ⟨z, _, rfl⟩ := hu
      rfl) (by omega) b1 b2 ?_
  intro v' w' ho hgr
  refine hK v' w' (Kd.R_of_own ?_ (fun _ _ => trivial)) ((Below.refl _ w).grown hgr (Nat.le_refl _) (fun k e => by cases e))
  have e1 : (xs ++ ys).length = n + m := by rw [List.length_append, hx.1, hy.1]
  have e2 : encs (Value.int k) (xs ++ ys) = nums k xs ++ nums k ys := by rw [encs_append]; rfl
  rw [e1, e2]
  exact ho

theorem below_after {B n : Nat} {w W w' : World} (h : Below B w W) (hb : Below n W w') (hn : W.heap.size = n) (hB : B ≤ n) : Below B w w' := by
  subst hn; exact below_then h hB hb

theorem heap_new (W : World) (o : Obj) : (W.alloc o).heap[W.heap.size]? = some o := heap_alloc_new W o
theorem heap_old (W : World) (o : Obj) (k : Nat) (h : k < W.heap.size) : (W.alloc o).heap[k]? = W.heap[k]? := Below.heap_alloc W o k h
theorem heap_new_drewN (W : World) (n : Nat) (o : Obj) : ((W.drewN n).alloc o).heap[W.heap.size]? = some o := heap_alloc_new (W.drewN n) o

/-! A slice of bytes that is read: what it reads as; it may lie anywhere, and is never written. -/
def Sl (w : World) (v : Value) (xs : List Int) : Prop := ∃ A c, v = .slice A xs.length c ∧ xs.length ≤ c ∧ Kd.C (Kd.int .u8) w A xs.length xs
theorem Sl.below {w w' : World} {v : Value} {xs : List Int} (h : Sl w v xs) (hb : Below w.heap.size w w') : Sl w' v xs := by
  obtain ⟨A, c, e, hc, hC⟩ := h
  exact ⟨A, c, e, hc, Kd.C_below hC hb⟩
theorem Sl.drew {w : World} {v : Value} {xs : List Int} (h : Sl w v xs) : Sl w.drew v xs := h.below (below_drew1 (Below.refl _ _))
theorem Sl.drewN {w : World} {v : Value} {xs : List Int} (h : Sl w v xs) (n : Nat) : Sl (w.drewN n) v xs := h.below (pw_below_drewN (Below.refl _ _) n)
theorem Sl.alloc {w : World} {v : Value} {xs : List Int} (h : Sl w v xs) (o : Obj) : Sl (w.alloc o) v xs := h.below (below_alloc (Below.refl _ _) o)
theorem Sl.of_R {w : World} {e base : Nat} {ok : Nat → Prop} {v : Value} {xs : List Int} (h : Kd.R (Kd.int .u8) e w base ok v xs) : Sl w v xs := Kd.R_reads h
theorem Sl.of_V {w : World} {e base : Nat} {ok : Nat → Prop} {v : Value} {xs : List Int} (h : Kd.V (Kd.int .u8) e w base ok v xs) : Sl w v xs := by
  obtain ⟨A, c, rfl, hc, hF⟩ := h
  exact ⟨A, c, rfl, hc, Kd.F_now hF⟩
theorem Sl.to_V {w : World} {e base : Nat} {v : Value} {xs : List Int} (h : Sl w v xs) : Kd.V (Kd.int .u8) e w base (fun k_ => k_ < w.heap.size) v xs := by
  obtain ⟨A, c, rfl, hc, hC⟩ := h
  refine Kd.V_mk hc (fun W' hW => ?_)
  refine ⟨hC.1, hC.2.1, fun hp => ?_⟩
  obtain ⟨ad, e, hr⟩ := hC.2.2 hp
  refine ⟨ad, e, fun j p hj => ?_⟩
  obtain ⟨c, h1, h2, h3⟩ := hr j p hj
  refine ⟨c, h1, h2, fun i u hu => ?_⟩
  have hlt := World.block_lt_of_cell? w _ (h3 i u hu)
  exact (World.cell?_of_block (hW _ hlt hlt)).trans (h3 i u hu)
theorem Sl.nil (w : World) : Sl w (.slice none 0 0) [] := ⟨none, 0, rfl, Nat.le_refl _, Kd.C_nil _ _⟩
theorem Sl.mk {w : World} {A : Option Addr} {c : Nat} {xs : List Int} (h : Kd.C (Kd.int .u8) w A xs.length xs) (hc : xs.length ≤ c) : Sl w (.slice A xs.length c) xs := ⟨A, c, rfl, hc, h⟩
theorem Sl.string {P : Program} {w : World} {src dst e : TypeId} {v : Value} {xs : List Int} (hs : P.underlying src = some (.slice e)) (he : P.underlying e = some (.int .u8)) (hd : P.underlying dst = some .string)
    (h : Sl w v xs) : (convert src dst v).run P w = .ok (.string (strOfNums xs)) w := by
  obtain ⟨A, c, rfl, _, hC⟩ := h
  exact Kd.C_string hs he hd hC
theorem below_of_drawn {w w' : World} (h : Drawn0 w w') : Below w.heap.size w w' := h.below


/-- An append of bytes to a slice that is full, as what the operation comes to. -/
theorem exec_app {P : Program} {w : World} {f : Operand → Value} {o : Oper} {s x : Operand} {t e : TypeId} {bytes : Nat} (hop : o.op = Op.call { callee := Callee.builtin Builtin.append, args := #[s, x], argTypes := #[t, t] })
    (h1 : P.underlying t = some (.slice e)) (hi : (P.info? e).map (fun i => (i.zero, i.size, i.bytes)) = some (some (.int .u8 0), 1, bytes))
    {A : Option Addr} {n : Nat} {xs : List Int} (hs : f s = .slice A n n) (hx : Kd.C (Kd.int .u8) w A n xs) {v : Value} {ys : List Int} (he : f x = v) (hy : Sl w v ys)
    (b1 : n + ys.length ≤ maxLen) (b2 : (n + ys.length) * bytes ≤ 140737488355328) :
    ∃ v' w', (execOp f o).run P w = .ok (.value v') w' ∧ Sl w' v' (xs ++ ys) ∧ Below w.heap.size w w' := by
  obtain ⟨i0, hi0, hz0, hz1, hz2⟩ := info_parts hi
  obtain ⟨A2, c2, rfl, hc2, hC2⟩ := hy
  have hxl : xs.length = n := hx.1
  rcases Nat.eq_zero_or_pos ys.length with h0 | hm
  · obtain rfl : ys = [] := List.eq_nil_of_length_eq_zero h0
    have hsrc : Src P i0.size t (.slice A2 ([] : List Int).length c2) 0 [] w := by
      cases A2 with
      | none => exact Src.ofNil _ h1 c2
      | some ad => exact Src.ofSlice _ h1 ad 0 c2 [] (by simp) (fun j u hj => by cases j <;> cases hj) (fun u hu => by cases hu)
    have hrun := run_append_nothing (P := P) w t t o.type e i0 h1 hi0 A n n (Nat.le_refl _) _ hsrc
    refine ⟨.slice A n n, w, ?_, ?_, Below.refl _ _⟩
    · have hrun' : (Builtin.append_ #[t, t] o.type #[Value.slice A n n, Value.slice A2 0 c2]).run P w = .ok (.slice A n n) w := hrun
      simp [execOp, hop, resolve, invoke, builtin, hs, he, hrun', Result.andThen]
    · rw [List.append_nil]
      subst hxl
      exact ⟨A, xs.length, rfl, Nat.le_refl _, hx⟩
  · obtain ⟨ad, hA2, _⟩ := hC2.2.2 hm
    subst hA2
    have hC : ∀ j u, (nums .u8 ys)[j]? = some u → w.cell? (ad.add j) = some u := fun j u hu => C_cells hC2 ad rfl j u hu
    have one : ∀ u ∈ nums .u8 ys, u.oneCell' = true := fun u hu => by
      rw [nums, List.mem_map] at hu
      obtain ⟨z, _, rfl⟩ := hu
      rfl
    have fin : ∀ v' w', w'.ownsRow w.heap.size e 1 v' (n + ys.length) (nums .u8 xs ++ nums .u8 ys) → Sl w' v' (xs ++ ys) := by
      intro v' w' ho
      refine Sl.of_R (e := e) (base := w.heap.size) (ok := fun _ => True) (Kd.R_of_own ?_ (fun _ _ => trivial))
      have e1 : (xs ++ ys).length = n + ys.length := by rw [List.length_append, hxl]
      have e2 : encs (Value.int .u8) (xs ++ ys) = nums .u8 xs ++ nums .u8 ys := by rw [encs_append]; rfl
      rw [e1, e2]
      exact ho
    cases A with
    | some b =>
      obtain ⟨v', w', hrun, r1, r2⟩ := run_append_arg_grows (P := P) w t o.type e i0 (.int .u8 0) 1 bytes h1 hi0 hz0 hz1 hz2 rfl (by decide) b n n (nums .u8 xs) (by rw [nums_length, hxl]; omega) (fun j u hu => C_cells hx b rfl j u hu) ad ys.length c2 (nums .u8 ys) (by rw [nums_length]; omega) hC (by omega) b1 b2
      refine ⟨v', w', ?_, fin v' w' r1, (Below.refl _ w).grown r2 (Nat.le_refl _) (fun k e => by cases e)⟩
      simp [execOp, hop, resolve, invoke, builtin, hs, he, hrun, Result.andThen]
    | none =>
      obtain rfl : n = 0 := C_none hx rfl
      obtain rfl : xs = [] := List.eq_nil_of_length_eq_zero hxl
      obtain ⟨v', w', hrun, r1, r2, _⟩ := run_append_own (P := P) w w.heap.size t o.type e i0 (.int .u8 0) 1 bytes h1 hi0 hz0 hz1 hz2 rfl (by decide) (.slice none 0 0) 0 [] (World.ownsRow_nil w _ e 1) ad ys.length c2 (nums .u8 ys) (by rw [nums_length]; omega) hC one b1 b2 (Nat.le_refl _)
      refine ⟨v', w', ?_, fin v' w' r1, (Below.refl _ w).grown r2 (Nat.le_refl _) (fun k e => by cases e)⟩
      simp [execOp, hop, resolve, invoke, builtin, hs, he, hrun, Result.andThen]
theorem Sl.toC {w : World} {A : Option Addr} {n c : Nat} {xs : List Int} (h : Sl w (.slice A n c) xs) : n = xs.length ∧ n ≤ c ∧ Kd.C (Kd.int .u8) w A n xs := by
  obtain ⟨A', c', e, hc, hC⟩ := h
  injection e with e1 e2 e3
  subst e1; subst e2; subst e3
  exact ⟨rfl, hc, hC⟩
/-- The same in a region that draws its order. -/
theorem value_app {P : Program} {oi : Oper} {ops : Array Oper} {Q : Exit → Act → World → Prop} {N : Option Tmp} {a : Act} {w : World} {K : Act → World → Prop} {s x : Operand} {t e : TypeId} {bytes : Nat} (hw : Region.wanted oi (yielded ops a.tmps) = true) (hN : oi.dst = N)
    (hop : oi.op = Op.call { callee := Callee.builtin Builtin.append, args := #[s, x], argTypes := #[t, t] })
    (h1 : P.underlying t = some (.slice e)) (hi : (P.info? e).map (fun i => (i.zero, i.size, i.bytes)) = some (some (.int .u8 0), 1, bytes))
    {A : Option Addr} {n c : Nat} {xs : List Int} (hs : a.eval s = .slice A n n) (hx : Sl w (.slice A n c) xs) {v : Value} {ys : List Int} (he : a.eval x = v) (hy : Sl w v ys)
    (b1 : n + ys.length ≤ maxLen) (b2 : (n + ys.length) * bytes ≤ 140737488355328)
    (h : ∀ v' w', Sl w' v' (xs ++ ys) → Below w.heap.size w w' → K (a.put N v') w') : if Region.wanted oi (yielded ops a.tmps) = true then Oper.wp P oi a w K Q else K (a.put N undef) w := by
  obtain ⟨v', w', hr, h1', h2⟩ := exec_app (o := oi) (f := a.eval) hop h1 hi hs hx.toC.2.2 he hy b1 b2
  exact value_ hw hN hr (h v' w' h1' h2)
end Go.Proofs.Ytjbnffadfohofaa.Own
end
-- MERGED YtjbnffadfohofaaByt
section
/- Lists of bytes as numbers: when two texts made of them are the same; a byte's bits. -/
namespace Go.Proofs.Ytjbnffadfohofaa.Byt
open Go.RowKit

/-- Each is a byte's number. -/
def Ok (l : List Int) : Prop := ∀ x ∈ l, 0 ≤ x ∧ x ≤ 255

theorem ok_nil : Ok [] := fun _ h => by cases h
theorem ok_cons {x : Int} {l : List Int} (h : 0 ≤ x ∧ x ≤ 255) (hl : Ok l) : Ok (x :: l) := fun y hy => by
  rcases List.mem_cons.1 hy with rfl | hy
  · exact h
  · exact hl y hy
theorem ok_append {l m : List Int} (hl : Ok l) (hm : Ok m) : Ok (l ++ m) := fun y hy => by
  rcases List.mem_append.1 hy with hy | hy
  · exact hl y hy
  · exact hm y hy
theorem ok_take {l : List Int} (h : Ok l) (n : Nat) : Ok (l.take n) := fun x hx => h x (List.mem_of_mem_take hx)
theorem ok_drop {l : List Int} (h : Ok l) (n : Nat) : Ok (l.drop n) := fun x hx => h x (List.mem_of_mem_drop hx)
theorem ok_set {l : List Int} (h : Ok l) (n : Nat) {x : Int} (hx : 0 ≤ x ∧ x ≤ 255) : Ok (l.set n x) := fun y hy => by
  rcases List.mem_or_eq_of_mem_set hy with hy | rfl
  · exact h y hy
  · exact hx
theorem wf_u8 {x : Int} : (Lit.int .u8 x).wf = true ↔ (0 ≤ x ∧ x ≤ 255) := by
  simp [Lit.wf, IntKind.min, IntKind.max, IntKind.signed, IntKind.bits]
theorem ok_of_wf {l : List Int} (h : ∀ x ∈ l, (Lit.int .u8 x).wf = true) : Ok l := fun x hx => wf_u8.1 (h x hx)
theorem wf_u32 {x : Int} (h : (Lit.int .u32 x).wf = true) : 0 ≤ x ∧ x ≤ 4294967295 := by
  simp [Lit.wf, IntKind.min, IntKind.max, IntKind.signed, IntKind.bits] at h
  omega
theorem wf_i64 {x : Int} (h : (Lit.int .i64 x).wf = true) : -9223372036854775808 ≤ x ∧ x ≤ 9223372036854775807 := by
  simp [Lit.wf, IntKind.min, IntKind.max, IntKind.signed, IntKind.bits] at h
  omega

theorem byte_inj {x y : Int} (hx : 0 ≤ x ∧ x ≤ 255) (hy : 0 ≤ y ∧ y ≤ 255) (h : UInt8.ofNat x.toNat = UInt8.ofNat y.toNat) : x = y := by
  have := congrArg UInt8.toNat h
  simp only [UInt8.toNat_ofNat'] at this
  omega
theorem map_inj : ∀ {l m : List Int}, Ok l → Ok m → l.map (fun n => UInt8.ofNat n.toNat) = m.map (fun n => UInt8.ofNat n.toNat) → l = m
  | [], [], _, _, _ => rfl
  | [], _ :: _, _, _, h => by simp at h
  | _ :: _, [], _, _, h => by simp at h
  | x :: l, y :: m, hl, hm, h => by
    simp only [List.map_cons, List.cons.injEq] at h
    have e := byte_inj (hl x (by simp)) (hm y (by simp)) h.1
    rw [e, map_inj (fun z hz => hl z (List.mem_cons_of_mem _ hz)) (fun z hz => hm z (List.mem_cons_of_mem _ hz)) h.2]
/-- Two texts of bytes are the same just where the bytes are. -/
theorem str_eq {l m : List Int} (hl : Ok l) (hm : Ok m) : (strOfNums l).toList = (strOfNums m).toList ↔ l = m := by
  rw [Lib.strOfNums_toList, Lib.strOfNums_toList]
  exact ⟨map_inj hl hm, fun h => by rw [h]⟩
theorem str_eq' {l m : List Int} (hl : Ok l) (hm : Ok m) (h : l ≠ m) : ¬ (strOfNums l).toList = (strOfNums m).toList := fun e => h ((str_eq hl hm).1 e)

theorem wrap_in (x : Int) (h : -9223372036854775808 ≤ x ∧ x ≤ 9223372036854775807) : wrap64 x = x := by unfold wrap64; omega
theorem rd_at (l : List Int) (i : Nat) (h : i < l.length) : l.getD ((i : Int)).toNat 0 = l[i] := by
  rw [Int.toNat_natCast, List.getD_eq_getElem?_getD, List.getElem?_eq_getElem h]; rfl

end Go.Proofs.Ytjbnffadfohofaa.Byt
end
-- MERGED YtjbnffadfohofaaGr
section
/- A slice of bytes that grows: either it is full (nothing can be written into it) or its row is the call's own; appends, of bytes and of strings, in the walk and in regions. -/
namespace Go.Proofs.Ytjbnffadfohofaa.Own
open Go.RowKit Go.Proofs.YtjbnffadfohofaaW.PrintWords Go.Proofs.YtjbnffadfohofaaW.PrintLast Go.Proofs.YtjbnffadfohofaaW.PrintMore

/-- A string's bytes, as numbers. -/
def numsOf (s : ByteArray) : List Int := s.data.toList.map fun b => (b.toNat : Int)
theorem numsOf_length (s : ByteArray) : (numsOf s).length = s.size := by
  unfold numsOf; rw [List.length_map, Array.length_toList]; rfl
theorem nums_numsOf (s : ByteArray) : nums .u8 (numsOf s) = Lib.strCells s := by
  unfold nums numsOf Lib.strCells; rw [List.map_map]; rfl
theorem ok_numsOf (s : ByteArray) : Byt.Ok (numsOf s) := by
  intro x hx
  unfold numsOf at hx
  rw [List.mem_map] at hx
  obtain ⟨b, _, rfl⟩ := hx
  have := b.toNat_lt
  omega
theorem strOf_numsOf (s : ByteArray) : strOfNums (numsOf s) = s := by
  have e : ((fun n : Int => UInt8.ofNat n.toNat) ∘ fun b : UInt8 => (b.toNat : Int)) = id := by
    funext b; simp
  apply ByteArray.ext
  unfold strOfNums numsOf
  rw [List.map_map, e, List.map_id]

def Gr (B : Nat) (e : TypeId) (w : World) (v : Value) (xs : List Int) : Prop :=
  (∃ A, v = .slice A xs.length xs.length ∧ Kd.C (Kd.int .u8) w A xs.length xs) ∨ w.ownsRow B e 1 v xs.length (nums .u8 xs)

theorem ownsRow_below {w w' : World} {B : Nat} {e : TypeId} {size : Nat} {v : Value} {n : Nat} {xs : List Value} (h : w.ownsRow B e size v n xs) (hb : Below w.heap.size w w') : w'.ownsRow B e size v n xs :=
  h.kept (row := none) ⟨hb.os, hb.tape, hb.output, hb.size, fun k hk _ => hb.block k hk⟩ (by cases v.ownBlock <;> simp)
theorem Sl.of_own {w : World} {B : Nat} {e : TypeId} {v : Value} {xs : List Int} (h : w.ownsRow B e 1 v xs.length (nums .u8 xs)) : Sl w v xs :=
  Sl.of_R (e := e) (base := B) (ok := fun _ => True) (Kd.R_of_own h (fun _ _ => trivial))
theorem Gr.sl {B : Nat} {e : TypeId} {w : World} {v : Value} {xs : List Int} (h : Gr B e w v xs) : Sl w v xs := by
  rcases h with ⟨A, rfl, hC⟩ | h
  · exact ⟨A, xs.length, rfl, Nat.le_refl _, hC⟩
  · exact Sl.of_own h
theorem Gr.below {B : Nat} {e : TypeId} {w w' : World} {v : Value} {xs : List Int} (h : Gr B e w v xs) (hb : Below w.heap.size w w') : Gr B e w' v xs := by
  rcases h with ⟨A, rfl, hC⟩ | h
  · exact .inl ⟨A, rfl, Kd.C_below hC hb⟩
  · exact .inr (ownsRow_below h hb)
theorem Gr.mono {B B' : Nat} {e : TypeId} {w : World} {v : Value} {xs : List Int} (h : Gr B e w v xs) (hB : B' ≤ B) : Gr B' e w v xs := h.imp id (fun h => h.mono hB)
theorem Gr.drew {B : Nat} {e : TypeId} {w : World} {v : Value} {xs : List Int} (h : Gr B e w v xs) : Gr B e w.drew v xs := h.below (below_drew1 (Below.refl _ _))
theorem Gr.alloc {B : Nat} {e : TypeId} {w : World} {v : Value} {xs : List Int} (h : Gr B e w v xs) (o : Obj) : Gr B e (w.alloc o) v xs := h.below (below_alloc (Below.refl _ _) o)
theorem Gr.cut {w : World} {A : Option Addr} {n c : Nat} {xs : List Int} (B : Nat) (e : TypeId) (h : Sl w (.slice A n c) xs) : Gr B e w (.slice A n n) xs := by
  obtain ⟨rfl, _, hC⟩ := h.toC
  exact .inl ⟨A, rfl, hC⟩
theorem Gr.nil (B : Nat) (e : TypeId) (w : World) : Gr B e w (.slice none 0 0) [] := .inl ⟨none, rfl, Kd.C_nil _ _⟩
theorem Gr.of_R {B : Nat} {e : TypeId} {w : World} {ok : Nat → Prop} {v : Value} {xs : List Int} (h : Kd.R (Kd.int .u8) e w B ok v xs) : Gr B e w v xs := .inr (Kd.own_of_R h)
/-- One byte that has just been laid. -/
theorem Sl.one (w : World) (x : Int) (T : TypeId) (fr : Nat × Nat) : Sl (w.alloc (.cells #[.int .u8 x] T fr)) (.slice (some ⟨w.heap.size, 0, none⟩) 1 1) [x] :=
  Sl.mk (C_of_lit .u8 [x] (heap_new w _) rfl (by simp)) (by simp)

theorem C_len {w : World} {A : Option Addr} {n : Nat} {xs : List Int} (h : Kd.C (Kd.int .u8) w A n xs) : xs.length = n := h.1
/-- An append to a slice that grows: of a slice's bytes. -/
theorem exec_gr {P : Program} {w : World} {f : Operand → Value} {o : Oper} {s x : Operand} {t e : TypeId} {B : Nat} (hop : o.op = Op.call { callee := Callee.builtin Builtin.append, args := #[s, x], argTypes := #[t, t] })
    (h1 : P.underlying t = some (.slice e)) (hi : (P.info? e).map (fun i => (i.zero, i.size, i.bytes)) = some (some (.int .u8 0), 1, 1)) (hB : B ≤ w.heap.size)
    {vs : Value} {xs : List Int} (hs : f s = vs) (hx : Gr B e w vs xs) {v : Value} {ys : List Int} (he : f x = v) (hy : Sl w v ys)
    (b1 : xs.length + ys.length ≤ 140737488355328) :
    ∃ v' w', (execOp f o).run P w = .ok (.value v') w' ∧ Gr B e w' v' (xs ++ ys) ∧ Below B w w' := by
  obtain ⟨i0, hi0, hz0, hz1, hz2⟩ := info_parts hi
  obtain ⟨A2, c2, rfl, hc2, hC2⟩ := hy
  have hm : xs.length + ys.length ≤ maxLen := by unfold maxLen; omega
  have e1 : (xs ++ ys).length = xs.length + ys.length := List.length_append
  have e2 : nums .u8 (xs ++ ys) = nums .u8 xs ++ nums .u8 ys := nums_append _ _ _
  rcases Nat.eq_zero_or_pos ys.length with h0 | hp
  · obtain rfl : ys = [] := List.eq_nil_of_length_eq_zero h0
    have hsrc : Src P i0.size t (.slice A2 ([] : List Int).length c2) 0 [] w := by
      cases A2 with
      | none => exact Src.ofNil _ h1 c2
      | some ad => exact Src.ofSlice _ h1 ad 0 c2 [] (by simp) (fun j u hj => by cases j <;> cases hj) (fun u hu => by cases hu)
    obtain ⟨A, c, rfl, hc, _⟩ := hx.sl
    have hrun := run_append_nothing (P := P) w t t o.type e i0 h1 hi0 A xs.length c hc _ hsrc
    refine ⟨.slice A xs.length c, w, ?_, by rw [List.append_nil]; exact hx, Below.refl _ _⟩
    have hrun' : (Builtin.append_ #[t, t] o.type #[Value.slice A xs.length c, Value.slice A2 0 c2]).run P w = .ok (.slice A xs.length c) w := hrun
    simp [execOp, hop, resolve, invoke, builtin, hs, he, hrun', Result.andThen]
  · obtain ⟨ad, hA2, _⟩ := hC2.2.2 hp
    subst hA2
    have hC : ∀ j u, (nums .u8 ys)[j]? = some u → w.cell? (ad.add j) = some u := fun j u hu => C_cells hC2 ad rfl j u hu
    have one : ∀ u ∈ nums .u8 ys, u.oneCell' = true := fun u hu => by
      rw [nums, List.mem_map] at hu
      obtain ⟨z, _, rfl⟩ := hu
      rfl
    have own : ∀ B', B ≤ B' → B' ≤ w.heap.size → w.ownsRow B' e 1 vs xs.length (nums .u8 xs) → ∃ v' w', (execOp f o).run P w = .ok (.value v') w' ∧ Gr B e w' v' (xs ++ ys) ∧ Below B w w' := by
      intro B' hBB hB' ho
      obtain ⟨v', w', hrun, r1, r2, _⟩ := run_append_own (P := P) w B' t o.type e i0 (.int .u8 0) 1 1 h1 hi0 hz0 hz1 hz2 rfl (by decide) vs xs.length (nums .u8 xs) ho ad ys.length c2 (nums .u8 ys) (by rw [nums_length]; omega) hC one hm (by omega) hB'
      refine ⟨v', w', ?_, .inr ?_, (Below.refl _ w).grown r2 hB (fun k e => Nat.le_trans hBB (ho.lt k e).1)⟩
      · simp [execOp, hop, resolve, invoke, builtin, hs, he, hrun, Result.andThen]
      · rw [e1, e2]; exact r1.mono hBB
    rcases hx with ⟨A, rfl, hx⟩ | ho
    · cases A with
      | some b =>
        obtain ⟨v', w', hrun, r1, r2⟩ := run_append_arg_grows (P := P) w t o.type e i0 (.int .u8 0) 1 1 h1 hi0 hz0 hz1 hz2 rfl (by decide) b xs.length xs.length (nums .u8 xs) (by rw [nums_length]; omega) (fun j u hu => C_cells hx b rfl j u hu) ad ys.length c2 (nums .u8 ys) (by rw [nums_length]; omega) hC (by omega) hm (by omega)
        refine ⟨v', w', ?_, .inr ?_, (Below.refl _ w).grown r2 hB (fun k e => by cases e)⟩
        · simp [execOp, hop, resolve, invoke, builtin, hs, he, hrun, Result.andThen]
        · rw [e1, e2]; exact r1.mono hB
      | none =>
        have h0 : xs.length = 0 := C_none hx rfl
        obtain rfl : xs = [] := List.eq_nil_of_length_eq_zero h0
        exact own w.heap.size hB (Nat.le_refl _) (World.ownsRow_nil w _ e 1)
    · exact own B (Nat.le_refl _) hB ho
/-- .. of a string's bytes. -/
theorem exec_gr_str {P : Program} {w : World} {f : Operand → Value} {o : Oper} {s x : Operand} {t tx e : TypeId} {B : Nat} (hop : o.op = Op.call { callee := Callee.builtin Builtin.append, args := #[s, x], argTypes := #[t, tx] })
    (h1 : P.underlying t = some (.slice e)) (h2 : P.underlying tx = some .string) (hi : (P.info? e).map (fun i => (i.zero, i.size, i.bytes)) = some (some (.int .u8 0), 1, 1)) (hB : B ≤ w.heap.size)
    {vs : Value} {xs : List Int} (hs : f s = vs) (hx : Gr B e w vs xs) {u : ByteArray} (he : f x = .string u)
    (b1 : xs.length + u.size ≤ 140737488355328) :
    ∃ v' w', (execOp f o).run P w = .ok (.value v') w' ∧ Gr B e w' v' (xs ++ numsOf u) ∧ Below B w w' := by
  obtain ⟨i0, hi0, hz0, hz1, hz2⟩ := info_parts hi
  have hm : xs.length + u.size ≤ maxLen := by unfold maxLen; omega
  have e1 : (xs ++ numsOf u).length = xs.length + u.size := by rw [List.length_append, numsOf_length]
  have e2 : nums .u8 (xs ++ numsOf u) = nums .u8 xs ++ Lib.strCells u := by rw [nums_append, nums_numsOf]
  have own : ∀ B', B ≤ B' → B' ≤ w.heap.size → w.ownsRow B' e 1 vs xs.length (nums .u8 xs) → ∃ v' w', (execOp f o).run P w = .ok (.value v') w' ∧ Gr B e w' v' (xs ++ numsOf u) ∧ Below B w w' := by
    intro B' hBB hB' ho
    obtain ⟨v', w', hrun, r1, r2, _⟩ := Lib.run_append_own_string (P := P) w B' t tx o.type e i0 h1 h2 hi0 hz0 hz1 hz2 vs xs.length (nums .u8 xs) ho u hm b1 hB'
    refine ⟨v', w', ?_, .inr ?_, (Below.refl _ w).grown r2 hB (fun k e => Nat.le_trans hBB (ho.lt k e).1)⟩
    · simp [execOp, hop, resolve, invoke, builtin, hs, he, hrun, Result.andThen]
    · rw [e1, e2]; exact r1.mono hBB
  rcases hx with ⟨A, rfl, hx⟩ | ho
  · rcases Nat.eq_zero_or_pos u.size with h0 | hp
    · have hn : numsOf u = [] := List.eq_nil_of_length_eq_zero (by rw [numsOf_length]; exact h0)
      have hb0 : byteCells u = [] := List.eq_nil_of_length_eq_zero (by rw [byteCells_length]; exact h0)
      have hsrc := Src.ofString (P := P) w h2 u
      rw [h0, hb0] at hsrc
      have hrun := run_append_nothing (P := P) w t tx o.type e i0 h1 hi0 A xs.length xs.length (Nat.le_refl _) (.string u) (hz1 ▸ hsrc)
      refine ⟨.slice A xs.length xs.length, w, ?_, .inl ⟨A, by rw [hn, List.append_nil], by rw [hn, List.append_nil]; exact hx⟩, Below.refl _ _⟩
      simp [execOp, hop, resolve, invoke, builtin, hs, he, hrun, Result.andThen]
    · cases A with
      | none =>
        have h0 : xs.length = 0 := C_none hx rfl
        obtain rfl : xs = [] := List.eq_nil_of_length_eq_zero h0
        exact own w.heap.size hB (Nat.le_refl _) (World.ownsRow_nil w _ e 1)
      | some b =>
        have hC : ∀ j v, (nums .u8 xs)[j]? = some v → w.cell? (b.add j) = some v := fun j v hv => C_cells hx b rfl j v hv
        have hold := run_firstCells_some (P := P) w.drew i0.size xs.length b xs.length xs.length (nums .u8 xs) (by rw [nums_length, hz1]; omega) hC
        have hsrc := Src.ofString (P := P) w h2 u
        have hgc := growslice_fits (need := xs.length + u.size) (old := xs.length) (bytes := 1) (by omega) (by omega)
        have hrun := run_append_grow_src (P := P) w t tx o.type e i0 (.int .u8 0) h1 hi0 hz0 (some b) xs.length xs.length (nums .u8 xs) hold (.string u) u.size (byteCells u) (hz1 ▸ hsrc) (by omega) (by omega) (by rw [hz2]; exact hgc)
        have H : ∀ v' w', (Builtin.append_ #[t, tx] o.type #[Value.slice (some b) xs.length xs.length, Value.string u]).run P w = .ok v' w' → (execOp f o).run P w = .ok (.value v') w' := fun v' w' hr => by
          simp [execOp, hop, resolve, invoke, builtin, hs, he, hr, Result.andThen]
        refine ⟨_, _, H _ _ hrun, .inr ?_, (below_alloc (below_drew1 (Below.refl w.heap.size w)) _).mono hB⟩
        rw [e1]
        have hcl : (nums .u8 xs ++ byteCells u) = nums .u8 (xs ++ numsOf u) := by rw [e2]; rfl
        have hlen : (nums .u8 (xs ++ numsOf u)).length = xs.length + u.size := by rw [nums_length, e1]
        refine ⟨by rw [hlen]; omega, .inr ⟨w.heap.size, _, _, rfl, hB, heap_alloc_new w.drew _, grownCap_ge w _ _ e, grownCap_le_maxLen w _ _ e hm, ?_, ?_⟩⟩
        · have hge := grownCap_ge w (xs.length + u.size) xs.length e
          rw [hcl]
          simp only [Array.size_append, List.size_toArray, size_zeroCells, hlen]
          simp only [Value.cells, Array.size]
          simp
          omega
        · rw [hcl]
          simp only [Array.toList_append, Nat.mul_one]
          rw [← hlen]
          exact List.take_left
  · exact own B (Nat.le_refl _) hB ho

/-- What an operation comes to, for the walk. -/
theorem wpList_ex {P : Program} {ops : Array Oper} {rest : List Oper} {o : Oper} {a : Act} {w w' : World} {v' : Value} {Q : Exit → Act → World → Prop} (hg : o.guard = none) (hrun : (execOp a.eval o).run P w = .ok (.value v') w')
    (hK : wpList P ops Q rest (a.put o.dst v') w') : wpList P ops Q (o :: rest) a w := by
  refine wpList_plain hg fun K hK' => ?_
  unfold Oper.wp
  rw [hrun]
  exact hK' _ _ hK
theorem wpList_gr {P : Program} {ops : Array Oper} {rest : List Oper} {o : Oper} {a : Act} {w : World} {Q : Exit → Act → World → Prop} {s x : Operand} {t e : TypeId} {B : Nat} (hg : o.guard = none)
    (hop : o.op = Op.call { callee := Callee.builtin Builtin.append, args := #[s, x], argTypes := #[t, t] })
    (h1 : P.underlying t = some (.slice e)) (hi : (P.info? e).map (fun i => (i.zero, i.size, i.bytes)) = some (some (.int .u8 0), 1, 1)) (hB : B ≤ w.heap.size)
    {vs : Value} {xs : List Int} (hs : a.eval s = vs) (hx : Gr B e w vs xs) {v : Value} {ys : List Int} (he : a.eval x = v) (hy : Sl w v ys) (b1 : xs.length + ys.length ≤ 140737488355328)
    (hK : ∀ v' w', Gr B e w' v' (xs ++ ys) → Below B w w' → wpList P ops Q rest (a.put o.dst v') w') : wpList P ops Q (o :: rest) a w := by
  obtain ⟨v', w', hrun, r1, r2⟩ := exec_gr (P := P) (o := o) (f := a.eval) hop h1 hi hB hs hx he hy b1
  exact wpList_ex hg hrun (hK v' w' r1 r2)
theorem wpList_gr_str {P : Program} {ops : Array Oper} {rest : List Oper} {o : Oper} {a : Act} {w : World} {Q : Exit → Act → World → Prop} {s x : Operand} {t tx e : TypeId} {B : Nat} (hg : o.guard = none)
    (hop : o.op = Op.call { callee := Callee.builtin Builtin.append, args := #[s, x], argTypes := #[t, tx] })
    (h1 : P.underlying t = some (.slice e)) (h2 : P.underlying tx = some .string) (hi : (P.info? e).map (fun i => (i.zero, i.size, i.bytes)) = some (some (.int .u8 0), 1, 1)) (hB : B ≤ w.heap.size)
    {vs : Value} {xs : List Int} (hs : a.eval s = vs) (hx : Gr B e w vs xs) {u : ByteArray} (he : a.eval x = .string u) (b1 : xs.length + u.size ≤ 140737488355328)
    (hK : ∀ v' w', Gr B e w' v' (xs ++ numsOf u) → Below B w w' → wpList P ops Q rest (a.put o.dst v') w') : wpList P ops Q (o :: rest) a w := by
  obtain ⟨v', w', hrun, r1, r2⟩ := exec_gr_str (P := P) (o := o) (f := a.eval) hop h1 h2 hi hB hs hx he b1
  exact wpList_ex hg hrun (hK v' w' r1 r2)
theorem Sl.lit {w : World} {C : Array Value} {T : TypeId} {fr : Nat × Nat} {l : List Int} (hC : C.toList = nums .u8 l) (hm : l.length ≤ 9223372036854775807) : Sl (w.alloc (.cells C T fr)) (.slice (some ⟨w.heap.size, 0, none⟩) l.length l.length) l :=
  Sl.mk (C_of_lit .u8 l (heap_new w _) hC hm) (Nat.le_refl _)
theorem Sl.take {w : World} {A : Option Addr} {n c : Nat} {l : List Int} (h : Sl w (.slice A n c) l) (k : Nat) (hk : k ≤ n) : Sl w (.slice A k c) (l.take k) := by
  obtain ⟨rfl, hc, hC⟩ := h.toC
  have hl : (l.take k).length = k := by rw [List.length_take]; omega
  have := C_take hC k hk
  exact ⟨A, c, by rw [hl], by rw [hl]; omega, by rw [hl]; exact this⟩
/-- A slice literal in a region that draws its order. -/
theorem value_lit {P : Program} {oi : Oper} {ops : Array Oper} {Q : Exit → Act → World → Prop} {N : Option Tmp} {a : Act} {w : World} {K : Act → World → Prop} {C : Array Value} {T : TypeId} {l : List Int} (hw : Region.wanted oi (yielded ops a.tmps) = true) (hN : oi.dst = N)
    (hrun : (execOp a.eval oi).run P w = .ok (.value (.slice (some ⟨w.heap.size, 0, none⟩) l.length l.length)) (w.alloc (.cells C T))) (hC : C.toList = nums .u8 l) (hm : l.length ≤ 9223372036854775807)
    (h : ∀ v' w', Sl w' v' l → Below w.heap.size w w' → K (a.put N v') w') : if Region.wanted oi (yielded ops a.tmps) = true then Oper.wp P oi a w K Q else K (a.put N undef) w :=
  value_ hw hN hrun (h _ _ (Sl.lit hC hm) (below_alloc (Below.refl _ _) _))
end Go.Proofs.Ytjbnffadfohofaa.Own
end
-- MERGED YtjbnffadfohofaaPmessagefields
section
-- Written by wip/myprint.py of this session, over the kit's print.py: a Lean function for each Go function, and the proof that the code comes to it.
namespace Go.Proofs.Ytjbnffadfohofaa.P
open Go.RowKit Go.Proofs.YtjbnffadfohofaaW.PrintWords Go.Proofs.YtjbnffadfohofaaW.PrintLast Go.Proofs.YtjbnffadfohofaaW.PrintMore
attribute [local go_sem] max2_int min2_int max_two min_two max_three min_three max_four min_four   -- for this text's walks alone
set_option linter.unusedVariables false
set_option linter.unusedSimpArgs false

/-! ### message_fields: function 37 -/
def message_fields.f (a0 : Int) : Option (List Int) := if a0 = 1 then (some (([0, 1, 2, 3] : List Int))) else (if a0 = 2 then (some (([0, 2, 3, 5] : List Int))) else (if a0 = 3 then (some (([2, 3] : List Int))) else (if a0 = 4 then (some (([2, 3, 6] : List Int))) else (if a0 = 5 then (some (([2, 7] : List Int))) else (if a0 = 6 then (some (([1] : List Int))) else (if a0 = 7 then (some (([4] : List Int))) else (some ([] : List Int))))))))
set_option maxHeartbeats 8000000 in
set_option maxRecDepth 100000 in
theorem message_fields.calls (a0 : Int) (r : List Int) (w : World) (h : message_fields.f a0 = some r) :
    Calls Try.prog 37 #[.int .i64 a0] w fun e w' => ∃ v0_ : Value, e = .returned (v0_) ∧ Kd.R (Kd.int .i64) 70 w' w.heap.size (fun _ => True) v0_ r ∧ Below w.heap.size w w' := by
  have HB := Aside0.mk (Below.refl w.heap.size w)
  have H : (if a0 = 1 then (some (([0, 1, 2, 3] : List Int))) else (if a0 = 2 then (some (([0, 2, 3, 5] : List Int))) else (if a0 = 3 then (some (([2, 3] : List Int))) else (if a0 = 4 then (some (([2, 3, 6] : List Int))) else (if a0 = 5 then (some (([2, 7] : List Int))) else (if a0 = 6 then (some (([1] : List Int))) else (if a0 = 7 then (some (([4] : List Int))) else (some ([] : List Int))))))))) = some r := h
  clear h
  by_cases c2 : a0 = 1
  · rw [if_pos c2] at H
    have c2b0 : (a0 == 1) = true := beq_iff_eq.mpr c2
    have c2b1 : (a0 != 1) = false := bne_eq_false_iff_eq.mpr c2
    clear c2
    obtain ⟨y120, hy120⟩ : ∃ y_ : List Int, y_ = (([0, 1, 2, 3] : List Int)) := ⟨_, rfl⟩
    replace H : (some y120) = some r := by (rw [hy120]; with_reducible exact H)
    have Ny120 := Aside0.mk hy120
    clear hy120
    obtain rfl := Option.some.inj H
    go_enter Try.func37, Try.ntmps37
    go_wp2_with (first | ((with_reducible refine gate_dst (N := 6) rfl ?_); refine Kd.R_lit (Kd.int .i64) _ 70 ?hg (N := 6) ?hd (xs := ([0, 1, 2, 3] : List Int)) (inner := [.int .i64 0, .int .i64 1, .int .i64 2, .int .i64 3]) (ok := fun _ => True) (okp := fun _ => True) ?hr ?hp (fun _ hk => hk) trivial (Below.refl _ _) (Nat.le_refl _) (by simp) ?_; (case hd => rfl); (case hg => rfl); (case hr => (go_simp; done)); (case hp => exact (Reps.one (show Kd.M (Kd.int .i64) _ _ _ 0 [.int .i64 0] from rfl) (Reps.one (show Kd.M (Kd.int .i64) _ _ _ 1 [.int .i64 1] from rfl) (Reps.one (show Kd.M (Kd.int .i64) _ _ _ 2 [.int .i64 2] from rfl) (Reps.one (show Kd.M (Kd.int .i64) _ _ _ 3 [.int .i64 3] from rfl) (Reps.none _ _)))))); intro v121 w3 ho4 hb hg_ hnew_; clear hg_ hnew_; ((rw [← Ny120.out] at ho4)); have n0_ := Aside0.mk (Kd.R_lower ho4 (below_size (by repeat ((with_reducible (exact HB.out)))))); have n1_ := Aside0.mk (below_step (by repeat ((with_reducible (exact HB.out)))) hb); clear HB; have HO122 := n0_; have HB := n1_; clear n0_ n1_; clear hb ho4))
    go_ret
    exact ⟨_, by (rfl), by (with_reducible repeat ((apply Kd.R_drew))); exact HO122.out, by repeat ((with_reducible (exact HB.out)))⟩
  · rw [if_neg c2] at H
    have c2b0 : (a0 == 1) = false := beq_eq_false_iff_ne.mpr c2
    have c2b1 : (a0 != 1) = true := bne_iff_ne.mpr c2
    by_cases c5 : a0 = 2
    · rw [if_pos c5] at H
      have c5b0 : (a0 == 2) = true := beq_iff_eq.mpr c5
      have c5b1 : (a0 != 2) = false := bne_eq_false_iff_eq.mpr c5
      clear c5
      obtain ⟨y123, hy123⟩ : ∃ y_ : List Int, y_ = (([0, 2, 3, 5] : List Int)) := ⟨_, rfl⟩
      replace H : (some y123) = some r := by (rw [hy123]; with_reducible exact H)
      have Ny123 := Aside0.mk hy123
      clear hy123
      obtain rfl := Option.some.inj H
      go_enter Try.func37, Try.ntmps37
      go_wp2_with (first | ((with_reducible refine gate_dst (N := 9) rfl ?_); refine Kd.R_lit (Kd.int .i64) _ 70 ?hg (N := 9) ?hd (xs := ([0, 2, 3, 5] : List Int)) (inner := [.int .i64 0, .int .i64 2, .int .i64 3, .int .i64 5]) (ok := fun _ => True) (okp := fun _ => True) ?hr ?hp (fun _ hk => hk) trivial (Below.refl _ _) (Nat.le_refl _) (by simp) ?_; (case hd => rfl); (case hg => rfl); (case hr => (go_simp; done)); (case hp => exact (Reps.one (show Kd.M (Kd.int .i64) _ _ _ 0 [.int .i64 0] from rfl) (Reps.one (show Kd.M (Kd.int .i64) _ _ _ 2 [.int .i64 2] from rfl) (Reps.one (show Kd.M (Kd.int .i64) _ _ _ 3 [.int .i64 3] from rfl) (Reps.one (show Kd.M (Kd.int .i64) _ _ _ 5 [.int .i64 5] from rfl) (Reps.none _ _)))))); intro v124 w6 ho7 hb hg_ hnew_; clear hg_ hnew_; ((rw [← Ny123.out] at ho7)); have n0_ := Aside0.mk (Kd.R_lower ho7 (below_size (by repeat ((with_reducible (exact HB.out)))))); have n1_ := Aside0.mk (below_step (by repeat ((with_reducible (exact HB.out)))) hb); clear HB; have HO125 := n0_; have HB := n1_; clear n0_ n1_; clear hb ho7))
      go_ret
      exact ⟨_, by (rfl), by (with_reducible repeat ((apply Kd.R_drew))); exact HO125.out, by repeat ((with_reducible (exact HB.out)))⟩
    · rw [if_neg c5] at H
      have c5b0 : (a0 == 2) = false := beq_eq_false_iff_ne.mpr c5
      have c5b1 : (a0 != 2) = true := bne_iff_ne.mpr c5
      by_cases c8 : a0 = 3
      · rw [if_pos c8] at H
        have c8b0 : (a0 == 3) = true := beq_iff_eq.mpr c8
        have c8b1 : (a0 != 3) = false := bne_eq_false_iff_eq.mpr c8
        clear c8
        obtain ⟨y126, hy126⟩ : ∃ y_ : List Int, y_ = (([2, 3] : List Int)) := ⟨_, rfl⟩
        replace H : (some y126) = some r := by (rw [hy126]; with_reducible exact H)
        have Ny126 := Aside0.mk hy126
        clear hy126
        obtain rfl := Option.some.inj H
        go_enter Try.func37, Try.ntmps37
        go_wp2_with (first | ((with_reducible refine gate_dst (N := 12) rfl ?_); refine Kd.R_lit (Kd.int .i64) _ 70 ?hg (N := 12) ?hd (xs := ([2, 3] : List Int)) (inner := [.int .i64 2, .int .i64 3]) (ok := fun _ => True) (okp := fun _ => True) ?hr ?hp (fun _ hk => hk) trivial (Below.refl _ _) (Nat.le_refl _) (by simp) ?_; (case hd => rfl); (case hg => rfl); (case hr => (go_simp; done)); (case hp => exact (Reps.one (show Kd.M (Kd.int .i64) _ _ _ 2 [.int .i64 2] from rfl) (Reps.one (show Kd.M (Kd.int .i64) _ _ _ 3 [.int .i64 3] from rfl) (Reps.none _ _)))); intro v127 w9 ho10 hb hg_ hnew_; clear hg_ hnew_; ((rw [← Ny126.out] at ho10)); have n0_ := Aside0.mk (Kd.R_lower ho10 (below_size (by repeat ((with_reducible (exact HB.out)))))); have n1_ := Aside0.mk (below_step (by repeat ((with_reducible (exact HB.out)))) hb); clear HB; have HO128 := n0_; have HB := n1_; clear n0_ n1_; clear hb ho10))
        go_ret
        exact ⟨_, by (rfl), by (with_reducible repeat ((apply Kd.R_drew))); exact HO128.out, by repeat ((with_reducible (exact HB.out)))⟩
      · rw [if_neg c8] at H
        have c8b0 : (a0 == 3) = false := beq_eq_false_iff_ne.mpr c8
        have c8b1 : (a0 != 3) = true := bne_iff_ne.mpr c8
        by_cases c11 : a0 = 4
        · rw [if_pos c11] at H
          have c11b0 : (a0 == 4) = true := beq_iff_eq.mpr c11
          have c11b1 : (a0 != 4) = false := bne_eq_false_iff_eq.mpr c11
          clear c11
          obtain ⟨y129, hy129⟩ : ∃ y_ : List Int, y_ = (([2, 3, 6] : List Int)) := ⟨_, rfl⟩
          replace H : (some y129) = some r := by (rw [hy129]; with_reducible exact H)
          have Ny129 := Aside0.mk hy129
          clear hy129
          obtain rfl := Option.some.inj H
          go_enter Try.func37, Try.ntmps37
          go_wp2_with (first | ((with_reducible refine gate_dst (N := 15) rfl ?_); refine Kd.R_lit (Kd.int .i64) _ 70 ?hg (N := 15) ?hd (xs := ([2, 3, 6] : List Int)) (inner := [.int .i64 2, .int .i64 3, .int .i64 6]) (ok := fun _ => True) (okp := fun _ => True) ?hr ?hp (fun _ hk => hk) trivial (Below.refl _ _) (Nat.le_refl _) (by simp) ?_; (case hd => rfl); (case hg => rfl); (case hr => (go_simp; done)); (case hp => exact (Reps.one (show Kd.M (Kd.int .i64) _ _ _ 2 [.int .i64 2] from rfl) (Reps.one (show Kd.M (Kd.int .i64) _ _ _ 3 [.int .i64 3] from rfl) (Reps.one (show Kd.M (Kd.int .i64) _ _ _ 6 [.int .i64 6] from rfl) (Reps.none _ _))))); intro v130 w12 ho13 hb hg_ hnew_; clear hg_ hnew_; ((rw [← Ny129.out] at ho13)); have n0_ := Aside0.mk (Kd.R_lower ho13 (below_size (by repeat ((with_reducible (exact HB.out)))))); have n1_ := Aside0.mk (below_step (by repeat ((with_reducible (exact HB.out)))) hb); clear HB; have HO131 := n0_; have HB := n1_; clear n0_ n1_; clear hb ho13))
          go_ret
          exact ⟨_, by (rfl), by (with_reducible repeat ((apply Kd.R_drew))); exact HO131.out, by repeat ((with_reducible (exact HB.out)))⟩
        · rw [if_neg c11] at H
          have c11b0 : (a0 == 4) = false := beq_eq_false_iff_ne.mpr c11
          have c11b1 : (a0 != 4) = true := bne_iff_ne.mpr c11
          by_cases c14 : a0 = 5
          · rw [if_pos c14] at H
            have c14b0 : (a0 == 5) = true := beq_iff_eq.mpr c14
            have c14b1 : (a0 != 5) = false := bne_eq_false_iff_eq.mpr c14
            clear c14
            obtain ⟨y132, hy132⟩ : ∃ y_ : List Int, y_ = (([2, 7] : List Int)) := ⟨_, rfl⟩
            replace H : (some y132) = some r := by (rw [hy132]; with_reducible exact H)
            have Ny132 := Aside0.mk hy132
            clear hy132
            obtain rfl := Option.some.inj H
            go_enter Try.func37, Try.ntmps37
            go_wp2_with (first | ((with_reducible refine gate_dst (N := 18) rfl ?_); refine Kd.R_lit (Kd.int .i64) _ 70 ?hg (N := 18) ?hd (xs := ([2, 7] : List Int)) (inner := [.int .i64 2, .int .i64 7]) (ok := fun _ => True) (okp := fun _ => True) ?hr ?hp (fun _ hk => hk) trivial (Below.refl _ _) (Nat.le_refl _) (by simp) ?_; (case hd => rfl); (case hg => rfl); (case hr => (go_simp; done)); (case hp => exact (Reps.one (show Kd.M (Kd.int .i64) _ _ _ 2 [.int .i64 2] from rfl) (Reps.one (show Kd.M (Kd.int .i64) _ _ _ 7 [.int .i64 7] from rfl) (Reps.none _ _)))); intro v133 w15 ho16 hb hg_ hnew_; clear hg_ hnew_; ((rw [← Ny132.out] at ho16)); have n0_ := Aside0.mk (Kd.R_lower ho16 (below_size (by repeat ((with_reducible (exact HB.out)))))); have n1_ := Aside0.mk (below_step (by repeat ((with_reducible (exact HB.out)))) hb); clear HB; have HO134 := n0_; have HB := n1_; clear n0_ n1_; clear hb ho16))
            go_ret
            exact ⟨_, by (rfl), by (with_reducible repeat ((apply Kd.R_drew))); exact HO134.out, by repeat ((with_reducible (exact HB.out)))⟩
          · rw [if_neg c14] at H
            have c14b0 : (a0 == 5) = false := beq_eq_false_iff_ne.mpr c14
            have c14b1 : (a0 != 5) = true := bne_iff_ne.mpr c14
            by_cases c17 : a0 = 6
            · rw [if_pos c17] at H
              have c17b0 : (a0 == 6) = true := beq_iff_eq.mpr c17
              have c17b1 : (a0 != 6) = false := bne_eq_false_iff_eq.mpr c17
              clear c17
              obtain ⟨y135, hy135⟩ : ∃ y_ : List Int, y_ = (([1] : List Int)) := ⟨_, rfl⟩
              replace H : (some y135) = some r := by (rw [hy135]; with_reducible exact H)
              have Ny135 := Aside0.mk hy135
              clear hy135
              obtain rfl := Option.some.inj H
              go_enter Try.func37, Try.ntmps37
              go_wp2_with (first | ((with_reducible refine gate_dst (N := 21) rfl ?_); refine Kd.R_lit (Kd.int .i64) _ 70 ?hg (N := 21) ?hd (xs := ([1] : List Int)) (inner := [.int .i64 1]) (ok := fun _ => True) (okp := fun _ => True) ?hr ?hp (fun _ hk => hk) trivial (Below.refl _ _) (Nat.le_refl _) (by simp) ?_; (case hd => rfl); (case hg => rfl); (case hr => (go_simp; done)); (case hp => exact (Reps.one (show Kd.M (Kd.int .i64) _ _ _ 1 [.int .i64 1] from rfl) (Reps.none _ _))); intro v136 w18 ho19 hb hg_ hnew_; clear hg_ hnew_; ((rw [← Ny135.out] at ho19)); have n0_ := Aside0.mk (Kd.R_lower ho19 (below_size (by repeat ((with_reducible (exact HB.out)))))); have n1_ := Aside0.mk (below_step (by repeat ((with_reducible (exact HB.out)))) hb); clear HB; have HO137 := n0_; have HB := n1_; clear n0_ n1_; clear hb ho19))
              go_ret
              exact ⟨_, by (rfl), by (with_reducible repeat ((apply Kd.R_drew))); exact HO137.out, by repeat ((with_reducible (exact HB.out)))⟩
            · rw [if_neg c17] at H
              have c17b0 : (a0 == 6) = false := beq_eq_false_iff_ne.mpr c17
              have c17b1 : (a0 != 6) = true := bne_iff_ne.mpr c17
              by_cases c20 : a0 = 7
              · rw [if_pos c20] at H
                have c20b0 : (a0 == 7) = true := beq_iff_eq.mpr c20
                have c20b1 : (a0 != 7) = false := bne_eq_false_iff_eq.mpr c20
                clear c20
                obtain ⟨y138, hy138⟩ : ∃ y_ : List Int, y_ = (([4] : List Int)) := ⟨_, rfl⟩
                replace H : (some y138) = some r := by (rw [hy138]; with_reducible exact H)
                have Ny138 := Aside0.mk hy138
                clear hy138
                obtain rfl := Option.some.inj H
                go_enter Try.func37, Try.ntmps37
                go_wp2_with (first | ((with_reducible refine gate_dst (N := 24) rfl ?_); refine Kd.R_lit (Kd.int .i64) _ 70 ?hg (N := 24) ?hd (xs := ([4] : List Int)) (inner := [.int .i64 4]) (ok := fun _ => True) (okp := fun _ => True) ?hr ?hp (fun _ hk => hk) trivial (Below.refl _ _) (Nat.le_refl _) (by simp) ?_; (case hd => rfl); (case hg => rfl); (case hr => (go_simp; done)); (case hp => exact (Reps.one (show Kd.M (Kd.int .i64) _ _ _ 4 [.int .i64 4] from rfl) (Reps.none _ _))); intro v139 w21 ho22 hb hg_ hnew_; clear hg_ hnew_; ((rw [← Ny138.out] at ho22)); have n0_ := Aside0.mk (Kd.R_lower ho22 (below_size (by repeat ((with_reducible (exact HB.out)))))); have n1_ := Aside0.mk (below_step (by repeat ((with_reducible (exact HB.out)))) hb); clear HB; have HO140 := n0_; have HB := n1_; clear n0_ n1_; clear hb ho22))
                go_ret
                exact ⟨_, by (rfl), by (with_reducible repeat ((apply Kd.R_drew))); exact HO140.out, by repeat ((with_reducible (exact HB.out)))⟩
              · rw [if_neg c20] at H
                have c20b0 : (a0 == 7) = false := beq_eq_false_iff_ne.mpr c20
                have c20b1 : (a0 != 7) = true := bne_iff_ne.mpr c20
                obtain rfl := Option.some.inj H
                go_enter Try.func37, Try.ntmps37
                go_wp2
                go_ret
                exact ⟨_, by (rfl), by (exact Kd.R_nil _ _ _ _ _), by repeat ((with_reducible (exact HB.out)))⟩

end Go.Proofs.Ytjbnffadfohofaa.P
end
-- MERGED YtjbnffadfohofaaPmessageless
section
-- Written by wip/myprint.py of this session, over the kit's print.py: a Lean function for each Go function, and the proof that the code comes to it.
namespace Go.Proofs.Ytjbnffadfohofaa.P
open Go.RowKit Go.Proofs.YtjbnffadfohofaaW.PrintWords Go.Proofs.YtjbnffadfohofaaW.PrintLast Go.Proofs.YtjbnffadfohofaaW.PrintMore
attribute [local go_sem] max2_int min2_int max_two min_two max_three min_three max_four min_four   -- for this text's walks alone
set_option linter.unusedVariables false
set_option linter.unusedSimpArgs false

/-! ### message_less: function 55 -/
def message_less.f (a0_0 : Int) (a0_1 : Int) (a0_2 : Int) (a1_0 : Int) (a1_1 : Int) (a1_2 : Int) : Option (Bool) := if a0_0 = a1_0 then (if a0_1 = a1_1 then (some (decide (a0_2 < a1_2))) else (some (decide (a0_1 < a1_1)))) else (some (decide (a0_0 < a1_0)))
set_option maxHeartbeats 8000000 in
set_option maxRecDepth 100000 in
theorem message_less.calls (a0_0 : Int) (a0_1 : Int) (a0_2 : Int) (a1_0 : Int) (a1_1 : Int) (a1_2 : Int) (r : Bool) (w : World) (h : message_less.f a0_0 a0_1 a0_2 a1_0 a1_1 a1_2 = some r) :
    Calls Try.prog 55 #[.agg #[.int .i64 a0_0, .int .i64 a0_1, .int .i64 a0_2], .agg #[.int .i64 a1_0, .int .i64 a1_1, .int .i64 a1_2]] w fun e w' => e = .returned (.bool r) ∧ Below w.heap.size w w' := by
  have hu44 := Try.underlying44
  have HB := Aside0.mk (Below.refl w.heap.size w)
  have H : (if a0_0 = a1_0 then (if a0_1 = a1_1 then (some (decide (a0_2 < a1_2))) else (some (decide (a0_1 < a1_1)))) else (some (decide (a0_0 < a1_0)))) = some r := h
  clear h
  by_cases c3 : a0_0 = a1_0
  · rw [if_pos c3] at H
    have c3b0 : (a0_0 == a1_0) = true := beq_iff_eq.mpr c3
    have c3b1 : (a0_0 != a1_0) = false := bne_eq_false_iff_eq.mpr c3
    clear c3
    by_cases c4 : a0_1 = a1_1
    · rw [if_pos c4] at H
      have c4b0 : (a0_1 == a1_1) = true := beq_iff_eq.mpr c4
      have c4b1 : (a0_1 != a1_1) = false := bne_eq_false_iff_eq.mpr c4
      clear c4
      obtain rfl := Option.some.inj H
      go_enter Try.func55, Try.ntmps55
      go_wp2_with (first | ((with_reducible refine gate_dst (N := 2) rfl ?_); refine box_event ?hg (N := 2) ?hd (cs := #[.int .i64 a0_0, .int .i64 a0_1, .int .i64 a0_2]) (t := 44) ?hr ?_; (case hd => rfl); (case hg => rfl); (case hr => (go_simp; done)); intro gb150 hg w5 hbox hb; have n0_ := Aside0.mk (below_step (by repeat ((with_reducible (exact HB.out)))) hb); have n1_ := Aside0.mk (hbox); have n2_ := Aside0.mk ((by rw [hg]; exact (below_size (by repeat ((with_reducible (exact HB.out))))) : w.heap.size ≤ gb150)); have n3_ := Aside0.mk ((by rw [hg]; exact (below_size (by repeat ((with_reducible (exact HB.out))))) : w.heap.size ≤ gb150)); clear HB; have HB := n0_; have BK150 := n1_; have GW150 := n2_; have GE150 := n3_; clear n0_ n1_ n2_ n3_; clear hb hbox hg) | ((with_reducible refine gate_dst (N := 3) rfl ?_); refine box_event ?hg (N := 3) ?hd (cs := #[.int .i64 a1_0, .int .i64 a1_1, .int .i64 a1_2]) (t := 44) ?hr ?_; (case hd => rfl); (case hg => rfl); (case hr => (go_simp; done)); intro gb151 hg w6 hbox hb; have n0_ := Aside0.mk (blk_below (g := gb150) (o := .cells #[.int .i64 a0_0, .int .i64 a0_1, .int .i64 a0_2] 44 (0, 0)) (by (with_reducible repeat ((refine blk_drew ?_))); exact BK150.out) hb); have n1_ := Aside0.mk (below_step (by repeat ((with_reducible (exact HB.out)))) hb); have n2_ := Aside0.mk (hbox); have n3_ := Aside0.mk ((by rw [hg]; exact (below_size (by repeat ((with_reducible (exact HB.out))))) : w.heap.size ≤ gb151)); have n4_ := Aside0.mk ((by rw [hg]; exact (below_size (by repeat ((with_reducible (exact HB.out))))) : w.heap.size ≤ gb151)); have n5_ := Aside0.mk ((by rw [hg]; exact Nat.ne_of_lt (blk_lt (g := gb150) (o := .cells #[.int .i64 a0_0, .int .i64 a0_1, .int .i64 a0_2] 44 (0, 0)) (by (with_reducible repeat ((refine blk_drew ?_))); exact BK150.out)) : gb150 ≠ gb151)); have n6_ := Aside0.mk ((by rw [hg]; exact Nat.ne_of_gt (blk_lt (g := gb150) (o := .cells #[.int .i64 a0_0, .int .i64 a0_1, .int .i64 a0_2] 44 (0, 0)) (by (with_reducible repeat ((refine blk_drew ?_))); exact BK150.out)) : gb151 ≠ gb150)); clear BK150; clear HB; have BK150 := n0_; have HB := n1_; have BK151 := n2_; have GW151 := n3_; have GE151 := n4_; have NB150_151 := n5_; have NB151_150 := n6_; clear n0_ n1_ n2_ n3_ n4_ n5_ n6_; clear hb hbox hg; have hnb7 := NB150_151.out; have hnc7 := NB151_150.out; have hcz8_0 : w6.cell? ⟨gb150, 0, none⟩ = some (.int .i64 a0_0) := (blk_cell BK150.out 0).trans rfl; have hcz8_1 : w6.cell? ⟨gb150, 1, none⟩ = some (.int .i64 a0_1) := (blk_cell BK150.out 1).trans rfl; have hcz8_2 : w6.cell? ⟨gb150, 2, none⟩ = some (.int .i64 a0_2) := (blk_cell BK150.out 2).trans rfl; have hfz8_0 := blk_frozen BK150.out 0; have hfz8_1 := blk_frozen BK150.out 1; have hfz8_2 := blk_frozen BK150.out 2; have hcz9_0 : w6.cell? ⟨gb151, 0, none⟩ = some (.int .i64 a1_0) := (blk_cell BK151.out 0).trans rfl; have hcz9_1 : w6.cell? ⟨gb151, 1, none⟩ = some (.int .i64 a1_1) := (blk_cell BK151.out 1).trans rfl; have hcz9_2 : w6.cell? ⟨gb151, 2, none⟩ = some (.int .i64 a1_2) := (blk_cell BK151.out 2).trans rfl; have hfz9_0 := blk_frozen BK151.out 0; have hfz9_1 := blk_frozen BK151.out 1; have hfz9_2 := blk_frozen BK151.out 2))
      go_ret
      exact ⟨by (rfl), by repeat ((with_reducible (exact HB.out)))⟩
    · rw [if_neg c4] at H
      have c4b0 : (a0_1 == a1_1) = false := beq_eq_false_iff_ne.mpr c4
      have c4b1 : (a0_1 != a1_1) = true := bne_iff_ne.mpr c4
      obtain rfl := Option.some.inj H
      go_enter Try.func55, Try.ntmps55
      go_wp2_with (first | ((with_reducible refine gate_dst (N := 2) rfl ?_); refine box_event ?hg (N := 2) ?hd (cs := #[.int .i64 a0_0, .int .i64 a0_1, .int .i64 a0_2]) (t := 44) ?hr ?_; (case hd => rfl); (case hg => rfl); (case hr => (go_simp; done)); intro gb150 hg w10 hbox hb; have n0_ := Aside0.mk (below_step (by repeat ((with_reducible (exact HB.out)))) hb); have n1_ := Aside0.mk (hbox); have n2_ := Aside0.mk ((by rw [hg]; exact (below_size (by repeat ((with_reducible (exact HB.out))))) : w.heap.size ≤ gb150)); have n3_ := Aside0.mk ((by rw [hg]; exact (below_size (by repeat ((with_reducible (exact HB.out))))) : w.heap.size ≤ gb150)); clear HB; have HB := n0_; have BK150 := n1_; have GW150 := n2_; have GE150 := n3_; clear n0_ n1_ n2_ n3_; clear hb hbox hg) | ((with_reducible refine gate_dst (N := 3) rfl ?_); refine box_event ?hg (N := 3) ?hd (cs := #[.int .i64 a1_0, .int .i64 a1_1, .int .i64 a1_2]) (t := 44) ?hr ?_; (case hd => rfl); (case hg => rfl); (case hr => (go_simp; done)); intro gb151 hg w11 hbox hb; have n0_ := Aside0.mk (blk_below (g := gb150) (o := .cells #[.int .i64 a0_0, .int .i64 a0_1, .int .i64 a0_2] 44 (0, 0)) (by (with_reducible repeat ((refine blk_drew ?_))); exact BK150.out) hb); have n1_ := Aside0.mk (below_step (by repeat ((with_reducible (exact HB.out)))) hb); have n2_ := Aside0.mk (hbox); have n3_ := Aside0.mk ((by rw [hg]; exact (below_size (by repeat ((with_reducible (exact HB.out))))) : w.heap.size ≤ gb151)); have n4_ := Aside0.mk ((by rw [hg]; exact (below_size (by repeat ((with_reducible (exact HB.out))))) : w.heap.size ≤ gb151)); have n5_ := Aside0.mk ((by rw [hg]; exact Nat.ne_of_lt (blk_lt (g := gb150) (o := .cells #[.int .i64 a0_0, .int .i64 a0_1, .int .i64 a0_2] 44 (0, 0)) (by (with_reducible repeat ((refine blk_drew ?_))); exact BK150.out)) : gb150 ≠ gb151)); have n6_ := Aside0.mk ((by rw [hg]; exact Nat.ne_of_gt (blk_lt (g := gb150) (o := .cells #[.int .i64 a0_0, .int .i64 a0_1, .int .i64 a0_2] 44 (0, 0)) (by (with_reducible repeat ((refine blk_drew ?_))); exact BK150.out)) : gb151 ≠ gb150)); clear BK150; clear HB; have BK150 := n0_; have HB := n1_; have BK151 := n2_; have GW151 := n3_; have GE151 := n4_; have NB150_151 := n5_; have NB151_150 := n6_; clear n0_ n1_ n2_ n3_ n4_ n5_ n6_; clear hb hbox hg; have hnb12 := NB150_151.out; have hnc12 := NB151_150.out; have hcz13_0 : w11.cell? ⟨gb150, 0, none⟩ = some (.int .i64 a0_0) := (blk_cell BK150.out 0).trans rfl; have hcz13_1 : w11.cell? ⟨gb150, 1, none⟩ = some (.int .i64 a0_1) := (blk_cell BK150.out 1).trans rfl; have hcz13_2 : w11.cell? ⟨gb150, 2, none⟩ = some (.int .i64 a0_2) := (blk_cell BK150.out 2).trans rfl; have hfz13_0 := blk_frozen BK150.out 0; have hfz13_1 := blk_frozen BK150.out 1; have hfz13_2 := blk_frozen BK150.out 2; have hcz14_0 : w11.cell? ⟨gb151, 0, none⟩ = some (.int .i64 a1_0) := (blk_cell BK151.out 0).trans rfl; have hcz14_1 : w11.cell? ⟨gb151, 1, none⟩ = some (.int .i64 a1_1) := (blk_cell BK151.out 1).trans rfl; have hcz14_2 : w11.cell? ⟨gb151, 2, none⟩ = some (.int .i64 a1_2) := (blk_cell BK151.out 2).trans rfl; have hfz14_0 := blk_frozen BK151.out 0; have hfz14_1 := blk_frozen BK151.out 1; have hfz14_2 := blk_frozen BK151.out 2))
      go_ret
      exact ⟨by (rfl), by repeat ((with_reducible (exact HB.out)))⟩
  · rw [if_neg c3] at H
    have c3b0 : (a0_0 == a1_0) = false := beq_eq_false_iff_ne.mpr c3
    have c3b1 : (a0_0 != a1_0) = true := bne_iff_ne.mpr c3
    obtain rfl := Option.some.inj H
    go_enter Try.func55, Try.ntmps55
    go_wp2_with (first | ((with_reducible refine gate_dst (N := 2) rfl ?_); refine box_event ?hg (N := 2) ?hd (cs := #[.int .i64 a0_0, .int .i64 a0_1, .int .i64 a0_2]) (t := 44) ?hr ?_; (case hd => rfl); (case hg => rfl); (case hr => (go_simp; done)); intro gb150 hg w15 hbox hb; have n0_ := Aside0.mk (below_step (by repeat ((with_reducible (exact HB.out)))) hb); have n1_ := Aside0.mk (hbox); have n2_ := Aside0.mk ((by rw [hg]; exact (below_size (by repeat ((with_reducible (exact HB.out))))) : w.heap.size ≤ gb150)); have n3_ := Aside0.mk ((by rw [hg]; exact (below_size (by repeat ((with_reducible (exact HB.out))))) : w.heap.size ≤ gb150)); clear HB; have HB := n0_; have BK150 := n1_; have GW150 := n2_; have GE150 := n3_; clear n0_ n1_ n2_ n3_; clear hb hbox hg) | ((with_reducible refine gate_dst (N := 3) rfl ?_); refine box_event ?hg (N := 3) ?hd (cs := #[.int .i64 a1_0, .int .i64 a1_1, .int .i64 a1_2]) (t := 44) ?hr ?_; (case hd => rfl); (case hg => rfl); (case hr => (go_simp; done)); intro gb151 hg w16 hbox hb; have n0_ := Aside0.mk (blk_below (g := gb150) (o := .cells #[.int .i64 a0_0, .int .i64 a0_1, .int .i64 a0_2] 44 (0, 0)) (by (with_reducible repeat ((refine blk_drew ?_))); exact BK150.out) hb); have n1_ := Aside0.mk (below_step (by repeat ((with_reducible (exact HB.out)))) hb); have n2_ := Aside0.mk (hbox); have n3_ := Aside0.mk ((by rw [hg]; exact (below_size (by repeat ((with_reducible (exact HB.out))))) : w.heap.size ≤ gb151)); have n4_ := Aside0.mk ((by rw [hg]; exact (below_size (by repeat ((with_reducible (exact HB.out))))) : w.heap.size ≤ gb151)); have n5_ := Aside0.mk ((by rw [hg]; exact Nat.ne_of_lt (blk_lt (g := gb150) (o := .cells #[.int .i64 a0_0, .int .i64 a0_1, .int .i64 a0_2] 44 (0, 0)) (by (with_reducible repeat ((refine blk_drew ?_))); exact BK150.out)) : gb150 ≠ gb151)); have n6_ := Aside0.mk ((by rw [hg]; exact Nat.ne_of_gt (blk_lt (g := gb150) (o := .cells #[.int .i64 a0_0, .int .i64 a0_1, .int .i64 a0_2] 44 (0, 0)) (by (with_reducible repeat ((refine blk_drew ?_))); exact BK150.out)) : gb151 ≠ gb150)); clear BK150; clear HB; have BK150 := n0_; have HB := n1_; have BK151 := n2_; have GW151 := n3_; have GE151 := n4_; have NB150_151 := n5_; have NB151_150 := n6_; clear n0_ n1_ n2_ n3_ n4_ n5_ n6_; clear hb hbox hg; have hnb17 := NB150_151.out; have hnc17 := NB151_150.out; have hcz18_0 : w16.cell? ⟨gb150, 0, none⟩ = some (.int .i64 a0_0) := (blk_cell BK150.out 0).trans rfl; have hcz18_1 : w16.cell? ⟨gb150, 1, none⟩ = some (.int .i64 a0_1) := (blk_cell BK150.out 1).trans rfl; have hcz18_2 : w16.cell? ⟨gb150, 2, none⟩ = some (.int .i64 a0_2) := (blk_cell BK150.out 2).trans rfl; have hfz18_0 := blk_frozen BK150.out 0; have hfz18_1 := blk_frozen BK150.out 1; have hfz18_2 := blk_frozen BK150.out 2; have hcz19_0 : w16.cell? ⟨gb151, 0, none⟩ = some (.int .i64 a1_0) := (blk_cell BK151.out 0).trans rfl; have hcz19_1 : w16.cell? ⟨gb151, 1, none⟩ = some (.int .i64 a1_1) := (blk_cell BK151.out 1).trans rfl; have hcz19_2 : w16.cell? ⟨gb151, 2, none⟩ = some (.int .i64 a1_2) := (blk_cell BK151.out 2).trans rfl; have hfz19_0 := blk_frozen BK151.out 0; have hfz19_1 := blk_frozen BK151.out 1; have hfz19_2 := blk_frozen BK151.out 2))
    go_ret
    exact ⟨by (rfl), by repeat ((with_reducible (exact HB.out)))⟩

end Go.Proofs.Ytjbnffadfohofaa.P
end
-- MERGED YtjbnffadfohofaaPmessagefine
section
-- Written by wip/myprint.py of this session, over the kit's print.py: a Lean function for each Go function, and the proof that the code comes to it.
namespace Go.Proofs.Ytjbnffadfohofaa.P
open Go.RowKit Go.Proofs.YtjbnffadfohofaaW.PrintWords Go.Proofs.YtjbnffadfohofaaW.PrintLast Go.Proofs.YtjbnffadfohofaaW.PrintMore
attribute [local go_sem] max2_int min2_int max_two min_two max_three min_three max_four min_four   -- for this text's walks alone
set_option linter.unusedVariables false
set_option linter.unusedSimpArgs false

/-! ### message_fine: function 48 -/
mutual
def message_fine.l0 : Nat → List (S44) → List (S44) → Int → Int → Option (Bool)
  | 0, _, _, _, _ => none
  | k + 1, x0, x5, x6, x7 => if x7 < x6 then (if 0 ≤ x7 then (if x7 < (x5.length : Int) then (if ((rd_T44 x5 x7).f0.f0) < 0 then (message_fine.j1 k x0 x7 x5 x6 x7 true ((rd_T44 x5 x7).f0.f0) ((rd_T44 x5 x7).f0.f1) ((rd_T44 x5 x7).f1)) else (if ((rd_T44 x5 x7).f0.f0) > ((rd_T44 x5 x7).f0.f1) then (message_fine.j1 k x0 x7 x5 x6 x7 true ((rd_T44 x5 x7).f0.f0) ((rd_T44 x5 x7).f0.f1) ((rd_T44 x5 x7).f1)) else (message_fine.j1 k x0 x7 x5 x6 x7 (decide (((rd_T44 x5 x7).f0.f1) > 16777216)) ((rd_T44 x5 x7).f0.f0) ((rd_T44 x5 x7).f0.f1) ((rd_T44 x5 x7).f1)))) else (none)) else (none)) else (some (decide ((x0.length : Int) ≤ 4096)))
def message_fine.j1 : Nat → List (S44) → Int → List (S44) → Int → Int → Bool → Int → Int → Int → Option (Bool)
  | 0, _, _, _, _, _, _, _, _, _ => none
  | k + 1, x0, x3, x5, x6, x7, x12, x154000, x154001, x154002 => if x12 = true then (some false) else (if x154002 < 0 then (some false) else (if x154002 > 65536 then (some false) else (if x3 > 0 then (if 0 ≤ (wrap64 (x3 - 1)) then (if (wrap64 (x3 - 1)) < (x0.length : Int) then ((message_less.f ((rd_T44 x0 (wrap64 (x3 - 1))).f0.f0) ((rd_T44 x0 (wrap64 (x3 - 1))).f0.f1) ((rd_T44 x0 (wrap64 (x3 - 1))).f1) x154000 x154001 x154002).bind fun t155 => (if t155 = true then (message_fine.l0 k x0 x5 x6 (wrap64 (x7 + 1))) else (some false))) else (none)) else (none)) else (message_fine.l0 k x0 x5 x6 (wrap64 (x7 + 1))))))
end
def message_fine.f (k : Nat) (l0 : List (S44)) : Option (Bool) := message_fine.l0 k l0 l0 (l0.length : Int) 0
theorem message_fine.mono_l : ∀ k, (∀ y0 y1 y2 y3, LeO (message_fine.l0 k y0 y1 y2 y3) (message_fine.l0 (k + 1) y0 y1 y2 y3)) ∧ (∀ y0 y1 y2 y3 y4 y5 y6 y7 y8, LeO (message_fine.j1 k y0 y1 y2 y3 y4 y5 y6 y7 y8) (message_fine.j1 (k + 1) y0 y1 y2 y3 y4 y5 y6 y7 y8))
  | 0 => ⟨fun _ _ _ _ r h => by simp [message_fine.l0] at h, fun _ _ _ _ _ _ _ _ _ r h => by simp [message_fine.j1] at h⟩
  | k + 1 => by
    obtain ⟨ih0, ih1⟩ := message_fine.mono_l k
    refine ⟨?_, ?_⟩
    · intro y0 y1 y2 y3
      unfold message_fine.l0
      repeat' first | (with_reducible exact ih1 _ _ _ _ _ _ _ _ _) | (with_reducible exact LeO.refl _) | (with_reducible refine LeO.ite ?_ ?_)
    · intro y0 y1 y2 y3 y4 y5 y6 y7 y8
      unfold message_fine.j1
      repeat' first | (with_reducible exact ih0 _ _ _ _) | (with_reducible exact LeO.refl _) | (with_reducible refine LeO.ite ?_ ?_) | (with_reducible refine LeO.bind ?_ (fun _ => ?_))
theorem message_fine.mono : ∀ a0 k, LeO (message_fine.f k a0) (message_fine.f (k + 1) a0) := by
  intro a0 k
  obtain ⟨ih0, ih1⟩ := message_fine.mono_l k
  unfold message_fine.f
  repeat' (with_reducible exact ih0 _ _ _ _)
def message_fine.T5 : Bool × List (List Nat × List Nat) := (true, [([], []), ([0], [0]), ([1], [1]), ([2], [2]), ([3], [3]), ([4, 3], [3, 4]), ([5, 3], [3, 5]), ([3, 6], [3, 6]), ([7, 3], [7]), ([8], [8]), ([9, 8], [8, 9]), ([10, 8, 8], [8, 10]), ([11], [11]), ([11], [11]), ([13, 11], [11, 13]), ([12, 14, 11], [11, 12, 14]), ([15, 11], [11, 15]), ([11], [11]), ([16, 17, 11, 11], [11, 16, 17]), ([18, 11], [11, 18]), ([11, 19, 8], [8, 11, 19]), ([8, 20], [8, 20]), ([21, 18], [21])])
def message_fine.B5 : List Nat := [0, 1, 3, 7, 15, 31, 63, 127, 255, 511, 1023, 2047, 4095, 4095, 12287, 32767, 65535, 4095, 262143, 524287, 1048575, 2097151, 4194303]
theorem message_fine.tab5 : rtab .any (opsOf Try.f48 5) = message_fine.T5 := by kernel_rfl
theorem message_fine.bits5 : waitsOk message_fine.T5.2 message_fine.B5 = true := by kernel_rfl
set_option maxHeartbeats 8000000 in
set_option maxRecDepth 100000 in
theorem message_fine.calls (k : Nat) (A0 : Option Addr) (c0 : Nat) (l0 : List (S44)) (r : Bool) (w : World) (hr0 : Kd.C k44 w A0 l0.length l0) (hc0 : l0.length ≤ c0) (h : message_fine.f k l0 = some r) :
    Calls Try.prog 48 #[.slice A0 l0.length c0] w fun e w' => e = .returned (.bool r) ∧ Below w.heap.size w w' := by
  have hu44 := Try.underlying44
  have HR0 := Aside0.mk hr0
  have HC0 := Aside0.mk hc0
  clear hr0 hc0
  have HB := Aside0.mk (Below.refl w.heap.size w)
  have H : (message_fine.l0 k l0 l0 (l0.length : Int) 0) = some r := h
  clear h
  have H' := Aside0.mk H
  clear H
  go_enter Try.func48, Try.ntmps48
  go_wp2
  go_loopg [7] k (fun kq v7 w' => ∃ (x7_1 : Int), v7 = .int .i64 x7_1 ∧ Aside0 (message_fine.l0 kq l0 l0 (l0.length : Int) x7_1 = some r) ∧ Aside0 (kq ≤ k) ∧ Aside0 (Below w.heap.size w w'))
  case atStart => exact ⟨(0), (by (rfl)), H', ⟨Nat.le_refl _⟩, ⟨by repeat ((with_reducible (exact HB.out)))⟩⟩
  case round =>
    clear H'
    obtain ⟨x7_1, rfl, HA, HK1, HB⟩ := hrel
    cases gk with
    | zero => exact absurd HA.out (by simp [message_fine.l0])
    | succ k1 =>
      have H := HA.out
      clear HA
      simp only [message_fine.l0] at H
      by_cases c2 : x7_1 < (l0.length : Int)
      · rw [if_pos c2] at H
        have c2b0 : decide (x7_1 < (l0.length : Int)) = true := decide_eq_true c2
        clear c2
        by_cases c3 : 0 ≤ x7_1
        · rw [if_pos c3] at H
          have c3b0 : decide (0 ≤ x7_1) = true := decide_eq_true c3
          clear c3
          by_cases c4 : x7_1 < (l0.length : Int)
          · rw [if_pos c4] at H
            have c4b0 : decide (x7_1 < (l0.length : Int)) = true := decide_eq_true c4
            clear c4
            have HC5 := Aside0.mk H
            clear H
            have p152 : 0 ≤ (x7_1 : Int) := of_decide_eq_true (by (with_reducible assumption))
            have q152 : x7_1 < (l0.length : Int) := of_decide_eq_true (by (with_reducible assumption))
            obtain ⟨ad152, e152, hx152_0, hx152_1, hx152_2⟩ := at_T44 HR0.out x7_1 p152 q152
            cases e152
            replace hx152_0 := (HB.out.cell (World.block_lt_of_cell? w _ hx152_0)).trans hx152_0
            replace hx152_1 := (HB.out.cell (World.block_lt_of_cell? w _ hx152_1)).trans hx152_1
            replace hx152_2 := (HB.out.cell (World.block_lt_of_cell? w _ hx152_2)).trans hx152_2
            replace p152 := eq_true p152
            replace q152 := eq_true q152
            go_upto_region 4 with (first | ((with_reducible refine gate_dst (N := 4) rfl ?_); refine box_event ?hg (N := 4) ?hd (cs := #[.int .i64 0, .int .i64 0, .int .i64 0]) (t := 44) ?hr ?_; (case hd => rfl); (case hg => rfl); (case hr => (go_simp; done)); intro gb153 hg w6 hbox hb; have n0_ := Aside0.mk (below_step (by repeat ((with_reducible (exact HB.out)))) hb); have n1_ := Aside0.mk (hbox); have n2_ := Aside0.mk ((by rw [hg]; exact (below_size (by repeat ((with_reducible (exact HB.out))))) : w.heap.size ≤ gb153)); have n3_ := Aside0.mk ((by rw [hg]; exact (below_size (by repeat ((with_reducible (exact HB.out))))) : w.heap.size ≤ gb153)); clear HB; have HB := n0_; have BK153 := n1_; have GW153 := n2_; have GE153 := n3_; clear n0_ n1_ n2_ n3_; clear hb hbox hg; have hcz7_0 : w6.cell? ⟨gb153, 0, none⟩ = some (.int .i64 0) := (blk_cell BK153.out 0).trans rfl; have hcz7_1 : w6.cell? ⟨gb153, 1, none⟩ = some (.int .i64 0) := (blk_cell BK153.out 1).trans rfl; have hcz7_2 : w6.cell? ⟨gb153, 2, none⟩ = some (.int .i64 0) := (blk_cell BK153.out 2).trans rfl; have hfz7_0 := blk_frozen BK153.out 0; have hfz7_1 := blk_frozen BK153.out 1; have hfz7_2 := blk_frozen BK153.out 2))
            (try simp only [Act.put, List.setIfInBounds_toArray, List.set_cons_zero, List.set_cons_succ])
            go_cut [12] (fun v12 wc => ∃ (kq : Nat) (x12_4 : Bool), v12 = .bool x12_4 ∧ Aside0 (message_fine.j1 kq l0 x7_1 l0 (l0.length : Int) x7_1 x12_4 ((rd_T44 l0 x7_1).f0.f0) ((rd_T44 l0 x7_1).f0.f1) ((rd_T44 l0 x7_1).f1) = some r) ∧ Aside0 (kq ≤ k1) ∧ Aside0 (wc.heap[gb153]? = some (.cells #[.int .i64 ((rd_T44 l0 x7_1).f0.f0), .int .i64 ((rd_T44 l0 x7_1).f0.f1), .int .i64 ((rd_T44 l0 x7_1).f1)] 44 (0, 0))) ∧ Aside0 (Below w.heap.size w wc))
            case first =>
              have H := HC5.out
              clear HC5
              by_cases c8 : ((rd_T44 l0 x7_1).f0.f0) < 0
              · rw [if_pos c8] at H
                have c8b0 : decide (((rd_T44 l0 x7_1).f0.f0) < 0) = true := decide_eq_true c8
                clear c8
                ((skip))
                have H' := Aside0.mk H
                clear H
                have hcz9_0 : w6.cell? ⟨gb153, 0, none⟩ = some (.int .i64 0) := (blk_cell BK153.out 0).trans rfl
                have hcz9_1 : w6.cell? ⟨gb153, 1, none⟩ = some (.int .i64 0) := (blk_cell BK153.out 1).trans rfl
                have hcz9_2 : w6.cell? ⟨gb153, 2, none⟩ = some (.int .i64 0) := (blk_cell BK153.out 2).trans rfl
                have hfz9_0 := blk_frozen BK153.out 0
                have hfz9_1 := blk_frozen BK153.out 1
                have hfz9_2 := blk_frozen BK153.out 2
                go_wp2
                go_meet
                case rel => exact ⟨_, (true), (by (rfl)), H', ⟨by have := HK1.out; (omega)⟩, ⟨by (with_reducible repeat ((refine blk_drew ?_))); refine blk_put (cs := #[.int .i64 ((rd_T44 l0 x7_1).f0.f0), .int .i64 ((rd_T44 l0 x7_1).f0.f1), .int .i64 0]) ?_ 2 _ rfl; (with_reducible repeat ((refine blk_drew ?_))); refine blk_put (cs := #[.int .i64 ((rd_T44 l0 x7_1).f0.f0), .int .i64 0, .int .i64 0]) ?_ 1 _ rfl; (with_reducible repeat ((refine blk_drew ?_))); refine blk_put (cs := #[.int .i64 0, .int .i64 0, .int .i64 0]) ?_ 0 _ rfl; (with_reducible repeat ((refine blk_drew ?_))); exact BK153.out⟩, ⟨by repeat ((with_reducible first | exact HB.out | refine below_set ?_ GE153.out))⟩⟩
              · rw [if_neg c8] at H
                have c8b0 : decide (((rd_T44 l0 x7_1).f0.f0) < 0) = false := decide_eq_false c8
                clear c8
                ((skip))
                by_cases c10 : ((rd_T44 l0 x7_1).f0.f0) > ((rd_T44 l0 x7_1).f0.f1)
                · rw [if_pos c10] at H
                  have c10b0 : decide (((rd_T44 l0 x7_1).f0.f1) < ((rd_T44 l0 x7_1).f0.f0)) = true := decide_eq_true c10
                  clear c10
                  have H' := Aside0.mk H
                  clear H
                  have hcz11_0 : w6.cell? ⟨gb153, 0, none⟩ = some (.int .i64 0) := (blk_cell BK153.out 0).trans rfl
                  have hcz11_1 : w6.cell? ⟨gb153, 1, none⟩ = some (.int .i64 0) := (blk_cell BK153.out 1).trans rfl
                  have hcz11_2 : w6.cell? ⟨gb153, 2, none⟩ = some (.int .i64 0) := (blk_cell BK153.out 2).trans rfl
                  have hfz11_0 := blk_frozen BK153.out 0
                  have hfz11_1 := blk_frozen BK153.out 1
                  have hfz11_2 := blk_frozen BK153.out 2
                  go_wp2
                  go_meet
                  case rel => exact ⟨_, (true), (by (rfl)), H', ⟨by have := HK1.out; (omega)⟩, ⟨by (with_reducible repeat ((refine blk_drew ?_))); refine blk_put (cs := #[.int .i64 ((rd_T44 l0 x7_1).f0.f0), .int .i64 ((rd_T44 l0 x7_1).f0.f1), .int .i64 0]) ?_ 2 _ rfl; (with_reducible repeat ((refine blk_drew ?_))); refine blk_put (cs := #[.int .i64 ((rd_T44 l0 x7_1).f0.f0), .int .i64 0, .int .i64 0]) ?_ 1 _ rfl; (with_reducible repeat ((refine blk_drew ?_))); refine blk_put (cs := #[.int .i64 0, .int .i64 0, .int .i64 0]) ?_ 0 _ rfl; (with_reducible repeat ((refine blk_drew ?_))); exact BK153.out⟩, ⟨by repeat ((with_reducible first | exact HB.out | refine below_set ?_ GE153.out))⟩⟩
                · rw [if_neg c10] at H
                  have c10b0 : decide (((rd_T44 l0 x7_1).f0.f1) < ((rd_T44 l0 x7_1).f0.f0)) = false := decide_eq_false c10
                  clear c10
                  have H' := Aside0.mk H
                  clear H
                  have hcz12_0 : w6.cell? ⟨gb153, 0, none⟩ = some (.int .i64 0) := (blk_cell BK153.out 0).trans rfl
                  have hcz12_1 : w6.cell? ⟨gb153, 1, none⟩ = some (.int .i64 0) := (blk_cell BK153.out 1).trans rfl
                  have hcz12_2 : w6.cell? ⟨gb153, 2, none⟩ = some (.int .i64 0) := (blk_cell BK153.out 2).trans rfl
                  have hfz12_0 := blk_frozen BK153.out 0
                  have hfz12_1 := blk_frozen BK153.out 1
                  have hfz12_2 := blk_frozen BK153.out 2
                  go_wp2
                  go_meet
                  case rel => exact ⟨_, (decide (((rd_T44 l0 x7_1).f0.f1) > 16777216)), (by (rfl)), H', ⟨by have := HK1.out; (omega)⟩, ⟨by (with_reducible repeat ((refine blk_drew ?_))); refine blk_put (cs := #[.int .i64 ((rd_T44 l0 x7_1).f0.f0), .int .i64 ((rd_T44 l0 x7_1).f0.f1), .int .i64 0]) ?_ 2 _ rfl; (with_reducible repeat ((refine blk_drew ?_))); refine blk_put (cs := #[.int .i64 ((rd_T44 l0 x7_1).f0.f0), .int .i64 0, .int .i64 0]) ?_ 1 _ rfl; (with_reducible repeat ((refine blk_drew ?_))); refine blk_put (cs := #[.int .i64 0, .int .i64 0, .int .i64 0]) ?_ 0 _ rfl; (with_reducible repeat ((refine blk_drew ?_))); exact BK153.out⟩, ⟨by repeat ((with_reducible first | exact HB.out | refine below_set ?_ GE153.out))⟩⟩
            case rest =>
              clear HC5
              try clear c1
              try clear p1
              try clear q1
              try clear hx1
              try clear c2
              try clear c2b0
              try clear p2
              try clear c3
              try clear c3b0
              try clear c4
              try clear c4b0
              try clear c8
              try clear c8b0
              try clear c10
              try clear c10b0
              try clear hcz11_0
              try clear hcz11_1
              try clear hcz11_2
              try clear hcz12_0
              try clear hcz12_1
              try clear hcz12_2
              try clear hcz7_0
              try clear hcz7_1
              try clear hcz7_2
              try clear hcz9_0
              try clear hcz9_1
              try clear hcz9_2
              try clear hfz11_0
              try clear hfz11_1
              try clear hfz11_2
              try clear hfz12_0
              try clear hfz12_1
              try clear hfz12_2
              try clear hfz7_0
              try clear hfz7_1
              try clear hfz7_2
              try clear hfz9_0
              try clear hfz9_1
              try clear hfz9_2
              try clear hx152_0
              try clear hx152_1
              try clear hx152_2
              try clear p152
              try clear q152
              obtain ⟨kq, x12_4, rfl, HA, HJ4, BK153, HB⟩ := hcut
              cases kq with
              | zero => exact absurd HA.out (by simp [message_fine.j1])
              | succ kj4 =>
                have H := HA.out
                clear HA
                simp only [message_fine.j1] at H
                by_cases c13 : x12_4 = true
                · subst c13
                  have H1 : (some false) = some r := by rw [if_pos rfl] at H; exact H
                  clear H
                  have H := H1
                  clear H1
                  obtain rfl := Option.some.inj H
                  go_wp2
                  go_ret
                  exact ⟨by (rfl), by repeat ((with_reducible (exact HB.out)))⟩
                · replace c13 := Bool.eq_false_iff.mpr c13
                  subst c13
                  have H1 : (if ((rd_T44 l0 x7_1).f1) < 0 then (some false) else (if ((rd_T44 l0 x7_1).f1) > 65536 then (some false) else (if x7_1 > 0 then (if 0 ≤ (wrap64 (x7_1 - 1)) then (if (wrap64 (x7_1 - 1)) < (l0.length : Int) then ((message_less.f ((rd_T44 l0 (wrap64 (x7_1 - 1))).f0.f0) ((rd_T44 l0 (wrap64 (x7_1 - 1))).f0.f1) ((rd_T44 l0 (wrap64 (x7_1 - 1))).f1) ((rd_T44 l0 x7_1).f0.f0) ((rd_T44 l0 x7_1).f0.f1) ((rd_T44 l0 x7_1).f1)).bind fun t155 => (if t155 = true then (message_fine.l0 kj4 l0 l0 (l0.length : Int) (wrap64 (x7_1 + 1))) else (some false))) else (none)) else (none)) else (message_fine.l0 kj4 l0 l0 (l0.length : Int) (wrap64 (x7_1 + 1)))))) = some r := by rw [if_neg (show ¬ (false = true) by decide)] at H; exact H
                  clear H
                  have H := H1
                  clear H1
                  by_cases c14 : ((rd_T44 l0 x7_1).f1) < 0
                  · rw [if_pos c14] at H
                    have c14b0 : decide (((rd_T44 l0 x7_1).f1) < 0) = true := decide_eq_true c14
                    clear c14
                    obtain rfl := Option.some.inj H
                    try go_wp2
                    have n0_ := Aside0.mk (blk_drew BK153.out)
                    have n1_ := Aside0.mk (below_drew1 HB.out)
                    clear BK153
                    clear HB
                    have BK153 := n0_
                    have HB := n1_
                    clear n0_ n1_
                    refine start_ (n := 23) (S := fun w' => w'.cell? ⟨gb153, 0, none⟩ = some (.int .i64 ((rd_T44 l0 x7_1).f0.f0)) ∧ w'.cell? ⟨gb153, 1, none⟩ = some (.int .i64 ((rd_T44 l0 x7_1).f0.f1)) ∧ w'.cell? ⟨gb153, 2, none⟩ = some (.int .i64 ((rd_T44 l0 x7_1).f1))) (ds := []) #[false, false, false, false, false, false, false, false, false, false, false, false, false, false, false, false, false, false, false, false, false, false, false] (by kernel_rfl) rfl rfl ⟨(blk_cell BK153.out 0).trans rfl, (blk_cell BK153.out 1).trans rfl, (blk_cell BK153.out 2).trans rfl⟩ (fun hHeld => ?_); refine with_tabW message_fine.tab5 message_fine.bits5 (fun HT_ HW_ => ?_)
                    generalize wc.drew = w15 at BK153 HB hHeld ⊢
                    refine pure_ (i := 0) (N := some 33) (v := ?_) (a' := ?_) #[true, false, false, false, false, false, false, false, false, false, false, false, false, false, false, false, false, false, false, false, false, false, false] rfl rfl (any_of HT_.out (by kernel_rfl)) (fun _ _ _ h => h) (Or.inl ⟨by rfl, ?_⟩) ?_ ?_
                    rotate_left
                    · intro w'
                      go_simp
                      with_reducible rfl
                    rotate_left
                    · simp only [Act.put, List.setIfInBounds_toArray, List.set_cons_zero, List.set_cons_succ, i64_w, i32_w]
                      rfl
                    refine take_ (i := 1) (N := some 34) (v := ?_) (a' := ?_) #[true, true, false, false, false, false, false, false, false, false, false, false, false, false, false, false, false, false, false, false, false, false, false] rfl rfl (take_ofW HT_.out HW_.out (by kernel_rfl)) (fun _ _ _ h => h) (Or.inl ⟨by rfl, ?_⟩) hHeld ?_ ?_
                    rotate_left
                    · rintro w' ⟨s0, s1, s2⟩
                      go_simp
                      with_reducible rfl
                    rotate_left
                    · simp only [Act.put, List.setIfInBounds_toArray, List.set_cons_zero, List.set_cons_succ, i64_w, i32_w]
                      rfl
                    refine pure_ (i := 2) (N := some 35) (v := ?_) (a' := ?_) #[true, true, true, false, false, false, false, false, false, false, false, false, false, false, false, false, false, false, false, false, false, false, false] rfl rfl (any_of HT_.out (by kernel_rfl)) (fun _ _ _ h => h) (Or.inl ⟨by rfl, ?_⟩) ?_ ?_
                    rotate_left
                    · intro w'
                      go_simp
                      with_reducible rfl
                    rotate_left
                    · simp only [Act.put, List.setIfInBounds_toArray, List.set_cons_zero, List.set_cons_succ, i64_w, i32_w]
                      rfl
                    refine pure_ (i := 3) (N := some 36) (v := ?_) (a' := ?_) #[true, true, true, true, false, false, false, false, false, false, false, false, false, false, false, false, false, false, false, false, false, false, false] rfl rfl (any_of HT_.out (by kernel_rfl)) (fun _ _ _ h => h) (Or.inl ⟨by rfl, ?_⟩) ?_ ?_
                    rotate_left
                    · intro w'
                      go_simp
                      with_reducible rfl
                    rotate_left
                    · simp only [Act.put, List.setIfInBounds_toArray, List.set_cons_zero, List.set_cons_succ, i64_w, i32_w]
                      rfl
                    refine pure_ (i := 4) (N := some 37) (v := undef) (a' := ?_) #[true, true, true, true, true, false, false, false, false, false, false, false, false, false, false, false, false, false, false, false, false, false, false] rfl rfl (any_of HT_.out (by kernel_rfl)) (fun _ _ _ h => h) (Or.inr ⟨by rfl, rfl⟩) ?_ ?_
                    rotate_left
                    · simp only [Act.put, List.setIfInBounds_toArray, List.set_cons_zero, List.set_cons_succ, i64_w, i32_w]
                      rfl
                    refine pure_ (i := 5) (N := some 38) (v := undef) (a' := ?_) #[true, true, true, true, true, true, false, false, false, false, false, false, false, false, false, false, false, false, false, false, false, false, false] rfl rfl (any_of HT_.out (by kernel_rfl)) (fun _ _ _ h => h) (Or.inr ⟨by rfl, rfl⟩) ?_ ?_
                    rotate_left
                    · simp only [Act.put, List.setIfInBounds_toArray, List.set_cons_zero, List.set_cons_succ, i64_w, i32_w]
                      rfl
                    refine pure_ (i := 6) (N := some 39) (v := undef) (a' := ?_) #[true, true, true, true, true, true, true, false, false, false, false, false, false, false, false, false, false, false, false, false, false, false, false] rfl rfl (any_of HT_.out (by kernel_rfl)) (fun _ _ _ h => h) (Or.inr ⟨by rfl, rfl⟩) ?_ ?_
                    rotate_left
                    · simp only [Act.put, List.setIfInBounds_toArray, List.set_cons_zero, List.set_cons_succ, i64_w, i32_w]
                      rfl
                    refine pure_ (i := 7) (N := some 40) (v := ?_) (a' := ?_) #[true, true, true, true, true, true, true, true, false, false, false, false, false, false, false, false, false, false, false, false, false, false, false] rfl rfl (any_of HT_.out (by kernel_rfl)) (fun _ _ _ h => h) (Or.inl ⟨by rfl, ?_⟩) ?_ ?_
                    rotate_left
                    · intro w'
                      go_simp
                      with_reducible rfl
                    rotate_left
                    · simp only [Act.put, List.setIfInBounds_toArray, List.set_cons_zero, List.set_cons_succ, i64_w, i32_w]
                      rfl
                    refine pure_ (i := 8) (N := some 41) (v := ?_) (a' := ?_) #[true, true, true, true, true, true, true, true, true, false, false, false, false, false, false, false, false, false, false, false, false, false, false] rfl rfl (any_of HT_.out (by kernel_rfl)) (fun _ _ _ h => h) (Or.inl ⟨by rfl, ?_⟩) ?_ ?_
                    rotate_left
                    · intro w'
                      go_simp
                      with_reducible rfl
                    rotate_left
                    · simp only [Act.put, List.setIfInBounds_toArray, List.set_cons_zero, List.set_cons_succ, i64_w, i32_w]
                      rfl
                    refine pure_ (i := 9) (N := some 42) (v := undef) (a' := ?_) #[true, true, true, true, true, true, true, true, true, true, false, false, false, false, false, false, false, false, false, false, false, false, false] rfl rfl (any_of HT_.out (by kernel_rfl)) (fun _ _ _ h => h) (Or.inr ⟨by rfl, rfl⟩) ?_ ?_
                    rotate_left
                    · simp only [Act.put, List.setIfInBounds_toArray, List.set_cons_zero, List.set_cons_succ, i64_w, i32_w]
                      rfl
                    refine pure_ (i := 10) (N := some 43) (v := undef) (a' := ?_) #[true, true, true, true, true, true, true, true, true, true, true, false, false, false, false, false, false, false, false, false, false, false, false] rfl rfl (any_of HT_.out (by kernel_rfl)) (fun _ _ _ h => h) (Or.inr ⟨by rfl, rfl⟩) ?_ ?_
                    rotate_left
                    · simp only [Act.put, List.setIfInBounds_toArray, List.set_cons_zero, List.set_cons_succ, i64_w, i32_w]
                      rfl
                    refine pure_ (i := 11) (N := some 44) (v := undef) (a' := ?_) #[true, true, true, true, true, true, true, true, true, true, true, true, false, false, false, false, false, false, false, false, false, false, false] rfl rfl (any_of HT_.out (by kernel_rfl)) (fun _ _ _ h => h) (Or.inr ⟨by rfl, rfl⟩) ?_ ?_
                    rotate_left
                    · simp only [Act.put, List.setIfInBounds_toArray, List.set_cons_zero, List.set_cons_succ, i64_w, i32_w]
                      rfl
                    refine pure_ (i := 12) (N := some 45) (v := undef) (a' := ?_) #[true, true, true, true, true, true, true, true, true, true, true, true, true, false, false, false, false, false, false, false, false, false, false] rfl rfl (any_of HT_.out (by kernel_rfl)) (fun _ _ _ h => h) (Or.inr ⟨by rfl, rfl⟩) ?_ ?_
                    rotate_left
                    · simp only [Act.put, List.setIfInBounds_toArray, List.set_cons_zero, List.set_cons_succ, i64_w, i32_w]
                      rfl
                    refine pure_ (i := 13) (N := some 46) (v := undef) (a' := ?_) #[true, true, true, true, true, true, true, true, true, true, true, true, true, true, false, false, false, false, false, false, false, false, false] rfl rfl (any_of HT_.out (by kernel_rfl)) (fun _ _ _ h => h) (Or.inr ⟨by rfl, rfl⟩) ?_ ?_
                    rotate_left
                    · simp only [Act.put, List.setIfInBounds_toArray, List.set_cons_zero, List.set_cons_succ, i64_w, i32_w]
                      rfl
                    refine pure_ (i := 14) (N := some 47) (v := undef) (a' := ?_) #[true, true, true, true, true, true, true, true, true, true, true, true, true, true, true, false, false, false, false, false, false, false, false] rfl rfl (any_of HT_.out (by kernel_rfl)) (fun _ _ _ h => h) (Or.inr ⟨by rfl, rfl⟩) ?_ ?_
                    rotate_left
                    · simp only [Act.put, List.setIfInBounds_toArray, List.set_cons_zero, List.set_cons_succ, i64_w, i32_w]
                      rfl
                    refine pure_ (i := 15) (N := some 48) (v := undef) (a' := ?_) #[true, true, true, true, true, true, true, true, true, true, true, true, true, true, true, true, false, false, false, false, false, false, false] rfl rfl (any_of HT_.out (by kernel_rfl)) (fun _ _ _ h => h) (Or.inr ⟨by rfl, rfl⟩) ?_ ?_
                    rotate_left
                    · simp only [Act.put, List.setIfInBounds_toArray, List.set_cons_zero, List.set_cons_succ, i64_w, i32_w]
                      rfl
                    refine pure_ (i := 16) (N := some 49) (v := undef) (a' := ?_) #[true, true, true, true, true, true, true, true, true, true, true, true, true, true, true, true, true, false, false, false, false, false, false] rfl rfl (any_of HT_.out (by kernel_rfl)) (fun _ _ _ h => h) (Or.inr ⟨by rfl, rfl⟩) ?_ ?_
                    rotate_left
                    · simp only [Act.put, List.setIfInBounds_toArray, List.set_cons_zero, List.set_cons_succ, i64_w, i32_w]
                      rfl
                    refine pure_ (i := 17) (N := some 50) (v := undef) (a' := ?_) #[true, true, true, true, true, true, true, true, true, true, true, true, true, true, true, true, true, true, false, false, false, false, false] rfl rfl (any_of HT_.out (by kernel_rfl)) (fun _ _ _ h => h) (Or.inr ⟨by rfl, rfl⟩) ?_ ?_
                    rotate_left
                    · simp only [Act.put, List.setIfInBounds_toArray, List.set_cons_zero, List.set_cons_succ, i64_w, i32_w]
                      rfl
                    refine pure_ (i := 18) (N := some 51) (v := undef) (a' := ?_) #[true, true, true, true, true, true, true, true, true, true, true, true, true, true, true, true, true, true, true, false, false, false, false] rfl rfl (any_of HT_.out (by kernel_rfl)) (fun _ _ _ h => h) (Or.inr ⟨by rfl, rfl⟩) ?_ ?_
                    rotate_left
                    · simp only [Act.put, List.setIfInBounds_toArray, List.set_cons_zero, List.set_cons_succ, i64_w, i32_w]
                      rfl
                    refine pure_ (i := 19) (N := some 52) (v := undef) (a' := ?_) #[true, true, true, true, true, true, true, true, true, true, true, true, true, true, true, true, true, true, true, true, false, false, false] rfl rfl (any_of HT_.out (by kernel_rfl)) (fun _ _ _ h => h) (Or.inr ⟨by rfl, rfl⟩) ?_ ?_
                    rotate_left
                    · simp only [Act.put, List.setIfInBounds_toArray, List.set_cons_zero, List.set_cons_succ, i64_w, i32_w]
                      rfl
                    refine pure_ (i := 20) (N := some 53) (v := undef) (a' := ?_) #[true, true, true, true, true, true, true, true, true, true, true, true, true, true, true, true, true, true, true, true, true, false, false] rfl rfl (any_of HT_.out (by kernel_rfl)) (fun _ _ _ h => h) (Or.inr ⟨by rfl, rfl⟩) ?_ ?_
                    rotate_left
                    · simp only [Act.put, List.setIfInBounds_toArray, List.set_cons_zero, List.set_cons_succ, i64_w, i32_w]
                      rfl
                    refine pure_ (i := 21) (N := some 54) (v := ?_) (a' := ?_) #[true, true, true, true, true, true, true, true, true, true, true, true, true, true, true, true, true, true, true, true, true, true, false] rfl rfl (any_of HT_.out (by kernel_rfl)) (fun _ _ _ h => h) (Or.inl ⟨by rfl, ?_⟩) ?_ ?_
                    rotate_left
                    · intro w'
                      go_simp
                      with_reducible rfl
                    rotate_left
                    · simp only [Act.put, List.setIfInBounds_toArray, List.set_cons_zero, List.set_cons_succ, i64_w, i32_w]
                      rfl
                    refine pure_ (i := 22) (N := some 32) (v := ?_) (a' := ?_) #[true, true, true, true, true, true, true, true, true, true, true, true, true, true, true, true, true, true, true, true, true, true, true] rfl rfl (any_of HT_.out (by kernel_rfl)) (fun _ _ _ h => h) (Or.inl ⟨by rfl, ?_⟩) ?_ ?_
                    rotate_left
                    · intro w'
                      go_simp
                      with_reducible rfl
                    rotate_left
                    · simp only [Act.put, List.setIfInBounds_toArray, List.set_cons_zero, List.set_cons_succ, i64_w, i32_w]
                      rfl
                    refine done_ (done_of HT_.out (by kernel_rfl)) ?_
                    try go_wp2
                    go_ret
                    exact ⟨by (rfl), by repeat ((with_reducible (exact HB.out)))⟩
                  · rw [if_neg c14] at H
                    have c14b0 : decide (((rd_T44 l0 x7_1).f1) < 0) = false := decide_eq_false c14
                    clear c14
                    by_cases c16 : ((rd_T44 l0 x7_1).f1) > 65536
                    · rw [if_pos c16] at H
                      have c16b0 : decide (65536 < ((rd_T44 l0 x7_1).f1)) = true := decide_eq_true c16
                      clear c16
                      obtain rfl := Option.some.inj H
                      try go_wp2
                      have n0_ := Aside0.mk (blk_drew BK153.out)
                      have n1_ := Aside0.mk (below_drew1 HB.out)
                      clear BK153
                      clear HB
                      have BK153 := n0_
                      have HB := n1_
                      clear n0_ n1_
                      refine start_ (n := 23) (S := fun w' => w'.cell? ⟨gb153, 0, none⟩ = some (.int .i64 ((rd_T44 l0 x7_1).f0.f0)) ∧ w'.cell? ⟨gb153, 1, none⟩ = some (.int .i64 ((rd_T44 l0 x7_1).f0.f1)) ∧ w'.cell? ⟨gb153, 2, none⟩ = some (.int .i64 ((rd_T44 l0 x7_1).f1))) (ds := []) #[false, false, false, false, false, false, false, false, false, false, false, false, false, false, false, false, false, false, false, false, false, false, false] (by kernel_rfl) rfl rfl ⟨(blk_cell BK153.out 0).trans rfl, (blk_cell BK153.out 1).trans rfl, (blk_cell BK153.out 2).trans rfl⟩ (fun hHeld => ?_); refine with_tabW message_fine.tab5 message_fine.bits5 (fun HT_ HW_ => ?_)
                      generalize wc.drew = w17 at BK153 HB hHeld ⊢
                      refine pure_ (i := 0) (N := some 33) (v := ?_) (a' := ?_) #[true, false, false, false, false, false, false, false, false, false, false, false, false, false, false, false, false, false, false, false, false, false, false] rfl rfl (any_of HT_.out (by kernel_rfl)) (fun _ _ _ h => h) (Or.inl ⟨by rfl, ?_⟩) ?_ ?_
                      rotate_left
                      · intro w'
                        go_simp
                        with_reducible rfl
                      rotate_left
                      · simp only [Act.put, List.setIfInBounds_toArray, List.set_cons_zero, List.set_cons_succ, i64_w, i32_w]
                        rfl
                      refine take_ (i := 1) (N := some 34) (v := ?_) (a' := ?_) #[true, true, false, false, false, false, false, false, false, false, false, false, false, false, false, false, false, false, false, false, false, false, false] rfl rfl (take_ofW HT_.out HW_.out (by kernel_rfl)) (fun _ _ _ h => h) (Or.inl ⟨by rfl, ?_⟩) hHeld ?_ ?_
                      rotate_left
                      · rintro w' ⟨s0, s1, s2⟩
                        go_simp
                        with_reducible rfl
                      rotate_left
                      · simp only [Act.put, List.setIfInBounds_toArray, List.set_cons_zero, List.set_cons_succ, i64_w, i32_w]
                        rfl
                      refine pure_ (i := 2) (N := some 35) (v := ?_) (a' := ?_) #[true, true, true, false, false, false, false, false, false, false, false, false, false, false, false, false, false, false, false, false, false, false, false] rfl rfl (any_of HT_.out (by kernel_rfl)) (fun _ _ _ h => h) (Or.inl ⟨by rfl, ?_⟩) ?_ ?_
                      rotate_left
                      · intro w'
                        go_simp
                        with_reducible rfl
                      rotate_left
                      · simp only [Act.put, List.setIfInBounds_toArray, List.set_cons_zero, List.set_cons_succ, i64_w, i32_w]
                        rfl
                      refine pure_ (i := 3) (N := some 36) (v := ?_) (a' := ?_) #[true, true, true, true, false, false, false, false, false, false, false, false, false, false, false, false, false, false, false, false, false, false, false] rfl rfl (any_of HT_.out (by kernel_rfl)) (fun _ _ _ h => h) (Or.inl ⟨by rfl, ?_⟩) ?_ ?_
                      rotate_left
                      · intro w'
                        go_simp
                        with_reducible rfl
                      rotate_left
                      · simp only [Act.put, List.setIfInBounds_toArray, List.set_cons_zero, List.set_cons_succ, i64_w, i32_w]
                        rfl
                      refine pure_ (i := 4) (N := some 37) (v := ?_) (a' := ?_) #[true, true, true, true, true, false, false, false, false, false, false, false, false, false, false, false, false, false, false, false, false, false, false] rfl rfl (any_of HT_.out (by kernel_rfl)) (fun _ _ _ h => h) (Or.inl ⟨by rfl, ?_⟩) ?_ ?_
                      rotate_left
                      · intro w'
                        go_simp
                        with_reducible rfl
                      rotate_left
                      · simp only [Act.put, List.setIfInBounds_toArray, List.set_cons_zero, List.set_cons_succ, i64_w, i32_w]
                        rfl
                      refine take_ (i := 5) (N := some 38) (v := ?_) (a' := ?_) #[true, true, true, true, true, true, false, false, false, false, false, false, false, false, false, false, false, false, false, false, false, false, false] rfl rfl (take_ofW HT_.out HW_.out (by kernel_rfl)) (fun _ _ _ h => h) (Or.inl ⟨by rfl, ?_⟩) hHeld ?_ ?_
                      rotate_left
                      · rintro w' ⟨s0, s1, s2⟩
                        go_simp
                        with_reducible rfl
                      rotate_left
                      · simp only [Act.put, List.setIfInBounds_toArray, List.set_cons_zero, List.set_cons_succ, i64_w, i32_w]
                        rfl
                      refine pure_ (i := 6) (N := some 39) (v := ?_) (a' := ?_) #[true, true, true, true, true, true, true, false, false, false, false, false, false, false, false, false, false, false, false, false, false, false, false] rfl rfl (any_of HT_.out (by kernel_rfl)) (fun _ _ _ h => h) (Or.inl ⟨by rfl, ?_⟩) ?_ ?_
                      rotate_left
                      · intro w'
                        go_simp
                        with_reducible rfl
                      rotate_left
                      · simp only [Act.put, List.setIfInBounds_toArray, List.set_cons_zero, List.set_cons_succ, i64_w, i32_w]
                        rfl
                      refine pure_ (i := 7) (N := some 40) (v := ?_) (a' := ?_) #[true, true, true, true, true, true, true, true, false, false, false, false, false, false, false, false, false, false, false, false, false, false, false] rfl rfl (any_of HT_.out (by kernel_rfl)) (fun _ _ _ h => h) (Or.inl ⟨by rfl, ?_⟩) ?_ ?_
                      rotate_left
                      · intro w'
                        go_simp
                        with_reducible rfl
                      rotate_left
                      · simp only [Act.put, List.setIfInBounds_toArray, List.set_cons_zero, List.set_cons_succ, i64_w, i32_w]
                        rfl
                      refine pure_ (i := 8) (N := some 41) (v := ?_) (a' := ?_) #[true, true, true, true, true, true, true, true, true, false, false, false, false, false, false, false, false, false, false, false, false, false, false] rfl rfl (any_of HT_.out (by kernel_rfl)) (fun _ _ _ h => h) (Or.inl ⟨by rfl, ?_⟩) ?_ ?_
                      rotate_left
                      · intro w'
                        go_simp
                        with_reducible rfl
                      rotate_left
                      · simp only [Act.put, List.setIfInBounds_toArray, List.set_cons_zero, List.set_cons_succ, i64_w, i32_w]
                        rfl
                      refine pure_ (i := 9) (N := some 42) (v := undef) (a' := ?_) #[true, true, true, true, true, true, true, true, true, true, false, false, false, false, false, false, false, false, false, false, false, false, false] rfl rfl (any_of HT_.out (by kernel_rfl)) (fun _ _ _ h => h) (Or.inr ⟨by rfl, rfl⟩) ?_ ?_
                      rotate_left
                      · simp only [Act.put, List.setIfInBounds_toArray, List.set_cons_zero, List.set_cons_succ, i64_w, i32_w]
                        rfl
                      refine pure_ (i := 10) (N := some 43) (v := undef) (a' := ?_) #[true, true, true, true, true, true, true, true, true, true, true, false, false, false, false, false, false, false, false, false, false, false, false] rfl rfl (any_of HT_.out (by kernel_rfl)) (fun _ _ _ h => h) (Or.inr ⟨by rfl, rfl⟩) ?_ ?_
                      rotate_left
                      · simp only [Act.put, List.setIfInBounds_toArray, List.set_cons_zero, List.set_cons_succ, i64_w, i32_w]
                        rfl
                      refine pure_ (i := 11) (N := some 44) (v := undef) (a' := ?_) #[true, true, true, true, true, true, true, true, true, true, true, true, false, false, false, false, false, false, false, false, false, false, false] rfl rfl (any_of HT_.out (by kernel_rfl)) (fun _ _ _ h => h) (Or.inr ⟨by rfl, rfl⟩) ?_ ?_
                      rotate_left
                      · simp only [Act.put, List.setIfInBounds_toArray, List.set_cons_zero, List.set_cons_succ, i64_w, i32_w]
                        rfl
                      refine pure_ (i := 12) (N := some 45) (v := undef) (a' := ?_) #[true, true, true, true, true, true, true, true, true, true, true, true, true, false, false, false, false, false, false, false, false, false, false] rfl rfl (any_of HT_.out (by kernel_rfl)) (fun _ _ _ h => h) (Or.inr ⟨by rfl, rfl⟩) ?_ ?_
                      rotate_left
                      · simp only [Act.put, List.setIfInBounds_toArray, List.set_cons_zero, List.set_cons_succ, i64_w, i32_w]
                        rfl
                      refine pure_ (i := 13) (N := some 46) (v := undef) (a' := ?_) #[true, true, true, true, true, true, true, true, true, true, true, true, true, true, false, false, false, false, false, false, false, false, false] rfl rfl (any_of HT_.out (by kernel_rfl)) (fun _ _ _ h => h) (Or.inr ⟨by rfl, rfl⟩) ?_ ?_
                      rotate_left
                      · simp only [Act.put, List.setIfInBounds_toArray, List.set_cons_zero, List.set_cons_succ, i64_w, i32_w]
                        rfl
                      refine pure_ (i := 14) (N := some 47) (v := undef) (a' := ?_) #[true, true, true, true, true, true, true, true, true, true, true, true, true, true, true, false, false, false, false, false, false, false, false] rfl rfl (any_of HT_.out (by kernel_rfl)) (fun _ _ _ h => h) (Or.inr ⟨by rfl, rfl⟩) ?_ ?_
                      rotate_left
                      · simp only [Act.put, List.setIfInBounds_toArray, List.set_cons_zero, List.set_cons_succ, i64_w, i32_w]
                        rfl
                      refine pure_ (i := 15) (N := some 48) (v := undef) (a' := ?_) #[true, true, true, true, true, true, true, true, true, true, true, true, true, true, true, true, false, false, false, false, false, false, false] rfl rfl (any_of HT_.out (by kernel_rfl)) (fun _ _ _ h => h) (Or.inr ⟨by rfl, rfl⟩) ?_ ?_
                      rotate_left
                      · simp only [Act.put, List.setIfInBounds_toArray, List.set_cons_zero, List.set_cons_succ, i64_w, i32_w]
                        rfl
                      refine pure_ (i := 16) (N := some 49) (v := undef) (a' := ?_) #[true, true, true, true, true, true, true, true, true, true, true, true, true, true, true, true, true, false, false, false, false, false, false] rfl rfl (any_of HT_.out (by kernel_rfl)) (fun _ _ _ h => h) (Or.inr ⟨by rfl, rfl⟩) ?_ ?_
                      rotate_left
                      · simp only [Act.put, List.setIfInBounds_toArray, List.set_cons_zero, List.set_cons_succ, i64_w, i32_w]
                        rfl
                      refine pure_ (i := 17) (N := some 50) (v := undef) (a' := ?_) #[true, true, true, true, true, true, true, true, true, true, true, true, true, true, true, true, true, true, false, false, false, false, false] rfl rfl (any_of HT_.out (by kernel_rfl)) (fun _ _ _ h => h) (Or.inr ⟨by rfl, rfl⟩) ?_ ?_
                      rotate_left
                      · simp only [Act.put, List.setIfInBounds_toArray, List.set_cons_zero, List.set_cons_succ, i64_w, i32_w]
                        rfl
                      refine pure_ (i := 18) (N := some 51) (v := undef) (a' := ?_) #[true, true, true, true, true, true, true, true, true, true, true, true, true, true, true, true, true, true, true, false, false, false, false] rfl rfl (any_of HT_.out (by kernel_rfl)) (fun _ _ _ h => h) (Or.inr ⟨by rfl, rfl⟩) ?_ ?_
                      rotate_left
                      · simp only [Act.put, List.setIfInBounds_toArray, List.set_cons_zero, List.set_cons_succ, i64_w, i32_w]
                        rfl
                      refine pure_ (i := 19) (N := some 52) (v := undef) (a' := ?_) #[true, true, true, true, true, true, true, true, true, true, true, true, true, true, true, true, true, true, true, true, false, false, false] rfl rfl (any_of HT_.out (by kernel_rfl)) (fun _ _ _ h => h) (Or.inr ⟨by rfl, rfl⟩) ?_ ?_
                      rotate_left
                      · simp only [Act.put, List.setIfInBounds_toArray, List.set_cons_zero, List.set_cons_succ, i64_w, i32_w]
                        rfl
                      refine pure_ (i := 20) (N := some 53) (v := undef) (a' := ?_) #[true, true, true, true, true, true, true, true, true, true, true, true, true, true, true, true, true, true, true, true, true, false, false] rfl rfl (any_of HT_.out (by kernel_rfl)) (fun _ _ _ h => h) (Or.inr ⟨by rfl, rfl⟩) ?_ ?_
                      rotate_left
                      · simp only [Act.put, List.setIfInBounds_toArray, List.set_cons_zero, List.set_cons_succ, i64_w, i32_w]
                        rfl
                      refine pure_ (i := 21) (N := some 54) (v := ?_) (a' := ?_) #[true, true, true, true, true, true, true, true, true, true, true, true, true, true, true, true, true, true, true, true, true, true, false] rfl rfl (any_of HT_.out (by kernel_rfl)) (fun _ _ _ h => h) (Or.inl ⟨by rfl, ?_⟩) ?_ ?_
                      rotate_left
                      · intro w'
                        go_simp
                        with_reducible rfl
                      rotate_left
                      · simp only [Act.put, List.setIfInBounds_toArray, List.set_cons_zero, List.set_cons_succ, i64_w, i32_w]
                        rfl
                      refine pure_ (i := 22) (N := some 32) (v := ?_) (a' := ?_) #[true, true, true, true, true, true, true, true, true, true, true, true, true, true, true, true, true, true, true, true, true, true, true] rfl rfl (any_of HT_.out (by kernel_rfl)) (fun _ _ _ h => h) (Or.inl ⟨by rfl, ?_⟩) ?_ ?_
                      rotate_left
                      · intro w'
                        go_simp
                        with_reducible rfl
                      rotate_left
                      · simp only [Act.put, List.setIfInBounds_toArray, List.set_cons_zero, List.set_cons_succ, i64_w, i32_w]
                        rfl
                      refine done_ (done_of HT_.out (by kernel_rfl)) ?_
                      try go_wp2
                      go_ret
                      exact ⟨by (rfl), by repeat ((with_reducible (exact HB.out)))⟩
                    · rw [if_neg c16] at H
                      have c16b0 : decide (65536 < ((rd_T44 l0 x7_1).f1)) = false := decide_eq_false c16
                      clear c16
                      by_cases c18 : x7_1 > 0
                      · rw [if_pos c18] at H
                        have c18b0 : decide (0 < x7_1) = true := decide_eq_true c18
                        clear c18
                        obtain ⟨ji19, hji19⟩ : ∃ j_ : Int, (wrap64 (x7_1 - 1)) = j_ := ⟨_, rfl⟩
                        replace H : (if 0 ≤ (ji19) then (if (ji19) < (l0.length : Int) then ((message_less.f ((rd_T44 l0 (ji19)).f0.f0) ((rd_T44 l0 (ji19)).f0.f1) ((rd_T44 l0 (ji19)).f1) ((rd_T44 l0 x7_1).f0.f0) ((rd_T44 l0 x7_1).f0.f1) ((rd_T44 l0 x7_1).f1)).bind fun t155 => (if t155 = true then (message_fine.l0 kj4 l0 l0 (l0.length : Int) (wrap64 (x7_1 + 1))) else (some false))) else (none)) else (none)) = some r := by (rw [hji19] at H; exact H)
                        have hji19w : (IntKind.i64.wrap (x7_1 - 1)) = ji19 := (i64_w _).trans hji19
                        by_cases c20 : 0 ≤ (ji19)
                        · rw [if_pos c20] at H
                          have c20b0 : decide (0 ≤ (ji19)) = true := decide_eq_true c20
                          clear c20
                          by_cases c21 : (ji19) < (l0.length : Int)
                          · rw [if_pos c21] at H
                            have c21b0 : decide ((ji19) < (l0.length : Int)) = true := decide_eq_true c21
                            clear c21
                            replace H := Option.bind_eq_some_iff.mp H
                            obtain ⟨t155, A220, H⟩ := H
                            replace H : (if t155 = true then (message_fine.l0 kj4 l0 l0 (l0.length : Int) (wrap64 (x7_1 + 1))) else (some false)) = some r := H
                            have A22 := Aside0.mk A220
                            clear A220
                            by_cases c23 : t155 = true
                            · subst c23
                              have H1 : (message_fine.l0 kj4 l0 l0 (l0.length : Int) (wrap64 (x7_1 + 1))) = some r := by rw [if_pos rfl] at H; exact H
                              clear H
                              have H := H1
                              clear H1
                              have H' := Aside0.mk H
                              clear H
                              try go_wp2
                              have n0_ := Aside0.mk (blk_drew BK153.out)
                              have n1_ := Aside0.mk (below_drew1 HB.out)
                              clear BK153
                              clear HB
                              have BK153 := n0_
                              have HB := n1_
                              clear n0_ n1_
                              have p154 : 0 ≤ ((ji19) : Int) := of_decide_eq_true (by (with_reducible assumption))
                              have q154 : (ji19) < (l0.length : Int) := of_decide_eq_true (by (with_reducible assumption))
                              obtain ⟨ad154, e154, hx154_0, hx154_1, hx154_2⟩ := at_T44 HR0.out (ji19) p154 q154
                              have hw154_2 := hx154_2
                              have hw154_1 := hx154_1
                              have hw154_0 := hx154_0
                              obtain rfl : ad152 = ad154 := (by injection e154)
                              replace hx154_0 := (HB.out.cell (World.block_lt_of_cell? w _ hx154_0)).trans hx154_0
                              replace hx154_1 := (HB.out.cell (World.block_lt_of_cell? w _ hx154_1)).trans hx154_1
                              replace hx154_2 := (HB.out.cell (World.block_lt_of_cell? w _ hx154_2)).trans hx154_2
                              replace p154 := eq_true p154
                              replace q154 := eq_true q154
                              refine start_ (n := 23) (S := fun w' => w'.cell? ⟨gb153, 0, none⟩ = some (.int .i64 ((rd_T44 l0 x7_1).f0.f0)) ∧ w'.cell? ⟨gb153, 1, none⟩ = some (.int .i64 ((rd_T44 l0 x7_1).f0.f1)) ∧ w'.cell? ⟨gb153, 2, none⟩ = some (.int .i64 ((rd_T44 l0 x7_1).f1)) ∧ w'.cell? (ad152.add (((ji19)).toNat * 3)) = some (.int .i64 ((rd_T44 l0 (ji19)).f0.f0)) ∧ w'.cell? ⟨(ad152.add (((ji19)).toNat * 3)).block, (ad152.add (((ji19)).toNat * 3)).off + 1, none⟩ = some (.int .i64 ((rd_T44 l0 (ji19)).f0.f1)) ∧ w'.cell? ⟨(ad152.add (((ji19)).toNat * 3)).block, (ad152.add (((ji19)).toNat * 3)).off + 2, none⟩ = some (.int .i64 ((rd_T44 l0 (ji19)).f1))) (ds := []) #[false, false, false, false, false, false, false, false, false, false, false, false, false, false, false, false, false, false, false, false, false, false, false] (by kernel_rfl) rfl rfl ⟨(blk_cell BK153.out 0).trans rfl, (blk_cell BK153.out 1).trans rfl, (blk_cell BK153.out 2).trans rfl, ((HB.out.cell (World.block_lt_of_cell? w _ hw154_0)).trans hw154_0), ((HB.out.cell (World.block_lt_of_cell? w _ hw154_1)).trans hw154_1), ((HB.out.cell (World.block_lt_of_cell? w _ hw154_2)).trans hw154_2)⟩ (fun hHeld => ?_); refine with_tabW message_fine.tab5 message_fine.bits5 (fun HT_ HW_ => ?_)
                              generalize wc.drew = w24 at BK153 HB hx154_0 hx154_1 hx154_2 hHeld ⊢
                              refine pure_ (i := 0) (N := some 33) (v := ?_) (a' := ?_) #[true, false, false, false, false, false, false, false, false, false, false, false, false, false, false, false, false, false, false, false, false, false, false] rfl rfl (any_of HT_.out (by kernel_rfl)) (fun _ _ _ h => h) (Or.inl ⟨by rfl, ?_⟩) ?_ ?_
                              rotate_left
                              · intro w'
                                go_simp
                                with_reducible rfl
                              rotate_left
                              · simp only [Act.put, List.setIfInBounds_toArray, List.set_cons_zero, List.set_cons_succ, i64_w, i32_w]
                                rfl
                              refine take_ (i := 1) (N := some 34) (v := ?_) (a' := ?_) #[true, true, false, false, false, false, false, false, false, false, false, false, false, false, false, false, false, false, false, false, false, false, false] rfl rfl (take_ofW HT_.out HW_.out (by kernel_rfl)) (fun _ _ _ h => h) (Or.inl ⟨by rfl, ?_⟩) hHeld ?_ ?_
                              rotate_left
                              · rintro w' ⟨s0, s1, s2, s3, s4, s5⟩
                                go_simp
                                with_reducible rfl
                              rotate_left
                              · simp only [Act.put, List.setIfInBounds_toArray, List.set_cons_zero, List.set_cons_succ, i64_w, i32_w]
                                rfl
                              refine pure_ (i := 2) (N := some 35) (v := ?_) (a' := ?_) #[true, true, true, false, false, false, false, false, false, false, false, false, false, false, false, false, false, false, false, false, false, false, false] rfl rfl (any_of HT_.out (by kernel_rfl)) (fun _ _ _ h => h) (Or.inl ⟨by rfl, ?_⟩) ?_ ?_
                              rotate_left
                              · intro w'
                                go_simp
                                with_reducible rfl
                              rotate_left
                              · simp only [Act.put, List.setIfInBounds_toArray, List.set_cons_zero, List.set_cons_succ, i64_w, i32_w]
                                rfl
                              refine pure_ (i := 3) (N := some 36) (v := ?_) (a' := ?_) #[true, true, true, true, false, false, false, false, false, false, false, false, false, false, false, false, false, false, false, false, false, false, false] rfl rfl (any_of HT_.out (by kernel_rfl)) (fun _ _ _ h => h) (Or.inl ⟨by rfl, ?_⟩) ?_ ?_
                              rotate_left
                              · intro w'
                                go_simp
                                with_reducible rfl
                              rotate_left
                              · simp only [Act.put, List.setIfInBounds_toArray, List.set_cons_zero, List.set_cons_succ, i64_w, i32_w]
                                rfl
                              refine pure_ (i := 4) (N := some 37) (v := ?_) (a' := ?_) #[true, true, true, true, true, false, false, false, false, false, false, false, false, false, false, false, false, false, false, false, false, false, false] rfl rfl (any_of HT_.out (by kernel_rfl)) (fun _ _ _ h => h) (Or.inl ⟨by rfl, ?_⟩) ?_ ?_
                              rotate_left
                              · intro w'
                                go_simp
                                with_reducible rfl
                              rotate_left
                              · simp only [Act.put, List.setIfInBounds_toArray, List.set_cons_zero, List.set_cons_succ, i64_w, i32_w]
                                rfl
                              refine take_ (i := 5) (N := some 38) (v := ?_) (a' := ?_) #[true, true, true, true, true, true, false, false, false, false, false, false, false, false, false, false, false, false, false, false, false, false, false] rfl rfl (take_ofW HT_.out HW_.out (by kernel_rfl)) (fun _ _ _ h => h) (Or.inl ⟨by rfl, ?_⟩) hHeld ?_ ?_
                              rotate_left
                              · rintro w' ⟨s0, s1, s2, s3, s4, s5⟩
                                go_simp
                                with_reducible rfl
                              rotate_left
                              · simp only [Act.put, List.setIfInBounds_toArray, List.set_cons_zero, List.set_cons_succ, i64_w, i32_w]
                                rfl
                              refine pure_ (i := 6) (N := some 39) (v := ?_) (a' := ?_) #[true, true, true, true, true, true, true, false, false, false, false, false, false, false, false, false, false, false, false, false, false, false, false] rfl rfl (any_of HT_.out (by kernel_rfl)) (fun _ _ _ h => h) (Or.inl ⟨by rfl, ?_⟩) ?_ ?_
                              rotate_left
                              · intro w'
                                go_simp
                                with_reducible rfl
                              rotate_left
                              · simp only [Act.put, List.setIfInBounds_toArray, List.set_cons_zero, List.set_cons_succ, i64_w, i32_w]
                                rfl
                              refine pure_ (i := 7) (N := some 40) (v := ?_) (a' := ?_) #[true, true, true, true, true, true, true, true, false, false, false, false, false, false, false, false, false, false, false, false, false, false, false] rfl rfl (any_of HT_.out (by kernel_rfl)) (fun _ _ _ h => h) (Or.inl ⟨by rfl, ?_⟩) ?_ ?_
                              rotate_left
                              · intro w'
                                go_simp
                                with_reducible rfl
                              rotate_left
                              · simp only [Act.put, List.setIfInBounds_toArray, List.set_cons_zero, List.set_cons_succ, i64_w, i32_w]
                                rfl
                              refine pure_ (i := 8) (N := some 41) (v := ?_) (a' := ?_) #[true, true, true, true, true, true, true, true, true, false, false, false, false, false, false, false, false, false, false, false, false, false, false] rfl rfl (any_of HT_.out (by kernel_rfl)) (fun _ _ _ h => h) (Or.inl ⟨by rfl, ?_⟩) ?_ ?_
                              rotate_left
                              · intro w'
                                go_simp
                                with_reducible rfl
                              rotate_left
                              · simp only [Act.put, List.setIfInBounds_toArray, List.set_cons_zero, List.set_cons_succ, i64_w, i32_w]
                                rfl
                              refine pure_ (i := 9) (N := some 42) (v := ?_) (a' := ?_) #[true, true, true, true, true, true, true, true, true, true, false, false, false, false, false, false, false, false, false, false, false, false, false] rfl rfl (any_of HT_.out (by kernel_rfl)) (fun _ _ _ h => h) (Or.inl ⟨by rfl, ?_⟩) ?_ ?_
                              rotate_left
                              · intro w'
                                go_simp
                                with_reducible rfl
                              rotate_left
                              · simp only [Act.put, List.setIfInBounds_toArray, List.set_cons_zero, List.set_cons_succ, i64_w, i32_w]
                                rfl
                              refine pure_ (i := 10) (N := some 43) (v := ?_) (a' := ?_) #[true, true, true, true, true, true, true, true, true, true, true, false, false, false, false, false, false, false, false, false, false, false, false] rfl rfl (any_of HT_.out (by kernel_rfl)) (fun _ _ _ h => h) (Or.inl ⟨by rfl, ?_⟩) ?_ ?_
                              rotate_left
                              · intro w'
                                go_simp
                                with_reducible rfl
                              rotate_left
                              · simp only [Act.put, List.setIfInBounds_toArray, List.set_cons_zero, List.set_cons_succ, i64_w, i32_w]
                                rfl
                              refine pure_ (i := 11) (N := some 44) (v := ?_) (a' := ?_) #[true, true, true, true, true, true, true, true, true, true, true, true, false, false, false, false, false, false, false, false, false, false, false] rfl rfl (any_of HT_.out (by kernel_rfl)) (fun _ _ _ h => h) (Or.inl ⟨by rfl, ?_⟩) ?_ ?_
                              rotate_left
                              · intro w'
                                go_simp
                                with_reducible rfl
                              rotate_left
                              · simp only [Act.put, List.setIfInBounds_toArray, List.set_cons_zero, List.set_cons_succ, i64_w, i32_w]
                                rfl
                              refine pure_ (i := 12) (N := some 45) (v := ?_) (a' := ?_) #[true, true, true, true, true, true, true, true, true, true, true, true, true, false, false, false, false, false, false, false, false, false, false] rfl rfl (any_of HT_.out (by kernel_rfl)) (fun _ _ _ h => h) (Or.inl ⟨by rfl, ?_⟩) ?_ ?_
                              rotate_left
                              · intro w'
                                go_simp
                                with_reducible rfl
                              rotate_left
                              · simp only [Act.put, List.setIfInBounds_toArray, List.set_cons_zero, List.set_cons_succ, i64_w, i32_w]
                                rfl
                              refine pure_ (i := 13) (N := some 46) (v := ?_) (a' := ?_) #[true, true, true, true, true, true, true, true, true, true, true, true, true, true, false, false, false, false, false, false, false, false, false] rfl rfl (any_of HT_.out (by kernel_rfl)) (fun _ _ _ h => h) (Or.inl ⟨by rfl, ?_⟩) ?_ ?_
                              rotate_left
                              · intro w'
                                go_simp
                                with_reducible rfl
                              rotate_left
                              · simp only [Act.put, List.setIfInBounds_toArray, List.set_cons_zero, List.set_cons_succ, i64_w, i32_w]
                                rfl
                              refine pure_ (i := 14) (N := some 47) (v := ?_) (a' := ?_) #[true, true, true, true, true, true, true, true, true, true, true, true, true, true, true, false, false, false, false, false, false, false, false] rfl rfl (any_of HT_.out (by kernel_rfl)) (fun _ _ _ h => h) (Or.inl ⟨by rfl, ?_⟩) ?_ ?_
                              rotate_left
                              · intro w'
                                go_simp
                                with_reducible rfl
                              rotate_left
                              · simp only [Act.put, List.setIfInBounds_toArray, List.set_cons_zero, List.set_cons_succ, i64_w, i32_w]
                                rfl
                              refine pure_ (i := 15) (N := some 48) (v := ?_) (a' := ?_) #[true, true, true, true, true, true, true, true, true, true, true, true, true, true, true, true, false, false, false, false, false, false, false] rfl rfl (any_of HT_.out (by kernel_rfl)) (fun _ _ _ h => h) (Or.inl ⟨by rfl, ?_⟩) ?_ ?_
                              rotate_left
                              · intro w'
                                go_simp
                                with_reducible rfl
                              rotate_left
                              · simp only [Act.put, List.setIfInBounds_toArray, List.set_cons_zero, List.set_cons_succ, i64_w, i32_w]
                                rfl
                              refine take_ (i := 16) (N := some 49) (v := ?_) (a' := ?_) #[true, true, true, true, true, true, true, true, true, true, true, true, true, true, true, true, true, false, false, false, false, false, false] rfl rfl (take_ofW HT_.out HW_.out (by kernel_rfl)) (fun _ _ _ h => h) (Or.inl ⟨by rfl, ?_⟩) hHeld ?_ ?_
                              rotate_left
                              · rintro w' ⟨s0, s1, s2, s3, s4, s5⟩
                                go_simp
                                with_reducible rfl
                              rotate_left
                              · simp only [Act.put, List.setIfInBounds_toArray, List.set_cons_zero, List.set_cons_succ, i64_w, i32_w]
                                rfl
                              refine take_ (i := 17) (N := some 50) (v := ?_) (a' := ?_) #[true, true, true, true, true, true, true, true, true, true, true, true, true, true, true, true, true, true, false, false, false, false, false] rfl rfl (take_ofW HT_.out HW_.out (by kernel_rfl)) (fun _ _ _ h => h) (Or.inl ⟨by rfl, ?_⟩) hHeld ?_ ?_
                              rotate_left
                              · rintro w' ⟨s0, s1, s2, s3, s4, s5⟩
                                go_simp
                                with_reducible rfl
                              rotate_left
                              · simp only [Act.put, List.setIfInBounds_toArray, List.set_cons_zero, List.set_cons_succ, i64_w, i32_w]
                                rfl
                              refine one_ (i := 18) (N := some 51) #[true, true, true, true, true, true, true, true, true, true, true, true, true, true, true, true, true, true, true, false, false, false, false] rfl rfl (one_of HT_.out (by kernel_rfl)) (by decide) (fun K hK => ?_)
                              refine goes_ Try.func55 (by kernel_rfl) rfl #[.agg #[.int .i64 ((rd_T44 l0 (ji19)).f0.f0), .int .i64 ((rd_T44 l0 (ji19)).f0.f1), .int .i64 ((rd_T44 l0 (ji19)).f1)], .agg #[.int .i64 ((rd_T44 l0 x7_1).f0.f0), .int .i64 ((rd_T44 l0 x7_1).f0.f1), .int .i64 ((rd_T44 l0 x7_1).f1)]] (by rfl) rfl rfl (by (try simp only [List.map_toArray, List.map_cons, List.map_nil]); (rfl)) ?_
                              with_reducible refine (message_less.calls ((rd_T44 l0 (ji19)).f0.f0) ((rd_T44 l0 (ji19)).f0.f1) ((rd_T44 l0 (ji19)).f1) ((rd_T44 l0 x7_1).f0.f0) ((rd_T44 l0 x7_1).f0.f1) ((rd_T44 l0 x7_1).f1) true _ A22.out).mono ?_
                              rintro e w25 ⟨rfl, hb⟩
                              refine ⟨_, rfl, ?_⟩
                              have n0_ := Aside0.mk (blk_below (g := gb153) (o := .cells #[.int .i64 ((rd_T44 l0 x7_1).f0.f0), .int .i64 ((rd_T44 l0 x7_1).f0.f1), .int .i64 ((rd_T44 l0 x7_1).f1)] 44 (0, 0)) (by (with_reducible repeat ((refine blk_drew ?_))); exact BK153.out) hb)
                              have n1_ := Aside0.mk (below_step (by repeat ((with_reducible (exact HB.out)))) hb)
                              clear BK153
                              clear HB
                              have BK153 := n0_
                              have HB := n1_
                              clear n0_ n1_
                              (try clear hb)
                              (try clear hb2)
                              (try clear hk)
                              (try clear hi)
                              refine hK.out _ _ ⟨(blk_cell BK153.out 0).trans rfl, (blk_cell BK153.out 1).trans rfl, (blk_cell BK153.out 2).trans rfl, ((HB.out.cell (World.block_lt_of_cell? w _ hw154_0)).trans hw154_0), ((HB.out.cell (World.block_lt_of_cell? w _ hw154_1)).trans hw154_1), ((HB.out.cell (World.block_lt_of_cell? w _ hw154_2)).trans hw154_2)⟩ (fun hHeld => ?_)
                              clear hK K
                              refine norm_ (a' := ?_) ?_ ?_
                              rotate_left
                              · show Act.put _ (some 51) _ = _
                                simp only [Act.put, List.setIfInBounds_toArray, List.set_cons_zero, List.set_cons_succ, i64_w, i32_w]
                                rfl
                              refine pure_ (i := 19) (N := some 52) (v := ?_) (a' := ?_) #[true, true, true, true, true, true, true, true, true, true, true, true, true, true, true, true, true, true, true, true, false, false, false] rfl rfl (any_of HT_.out (by kernel_rfl)) (fun _ _ _ h => h) (Or.inl ⟨by rfl, ?_⟩) ?_ ?_
                              rotate_left
                              · intro w'
                                go_simp
                                with_reducible rfl
                              rotate_left
                              · simp only [Act.put, List.setIfInBounds_toArray, List.set_cons_zero, List.set_cons_succ, i64_w, i32_w]
                                rfl
                              refine pure_ (i := 20) (N := some 53) (v := ?_) (a' := ?_) #[true, true, true, true, true, true, true, true, true, true, true, true, true, true, true, true, true, true, true, true, true, false, false] rfl rfl (any_of HT_.out (by kernel_rfl)) (fun _ _ _ h => h) (Or.inl ⟨by rfl, ?_⟩) ?_ ?_
                              rotate_left
                              · intro w'
                                go_simp
                                with_reducible rfl
                              rotate_left
                              · simp only [Act.put, List.setIfInBounds_toArray, List.set_cons_zero, List.set_cons_succ, i64_w, i32_w]
                                rfl
                              refine pure_ (i := 21) (N := some 54) (v := ?_) (a' := ?_) #[true, true, true, true, true, true, true, true, true, true, true, true, true, true, true, true, true, true, true, true, true, true, false] rfl rfl (any_of HT_.out (by kernel_rfl)) (fun _ _ _ h => h) (Or.inl ⟨by rfl, ?_⟩) ?_ ?_
                              rotate_left
                              · intro w'
                                go_simp
                                with_reducible rfl
                              rotate_left
                              · simp only [Act.put, List.setIfInBounds_toArray, List.set_cons_zero, List.set_cons_succ, i64_w, i32_w]
                                rfl
                              refine pure_ (i := 22) (N := some 32) (v := ?_) (a' := ?_) #[true, true, true, true, true, true, true, true, true, true, true, true, true, true, true, true, true, true, true, true, true, true, true] rfl rfl (any_of HT_.out (by kernel_rfl)) (fun _ _ _ h => h) (Or.inl ⟨by rfl, ?_⟩) ?_ ?_
                              rotate_left
                              · intro w'
                                go_simp
                                with_reducible rfl
                              rotate_left
                              · simp only [Act.put, List.setIfInBounds_toArray, List.set_cons_zero, List.set_cons_succ, i64_w, i32_w]
                                rfl
                              refine done_ (done_of HT_.out (by kernel_rfl)) ?_
                              try go_wp2
                              go_roundg kj4
                              case measure => have := HK1.out; have := HJ4.out; omega
                              case rel => exact ⟨(wrap64 (x7_1 + 1)), (by (rfl)), H', ⟨by have := HK1.out; have := HJ4.out; omega⟩, ⟨by repeat ((with_reducible (exact HB.out)))⟩⟩
                            · replace c23 := Bool.eq_false_iff.mpr c23
                              subst c23
                              have H1 : (some false) = some r := by rw [if_neg (show ¬ (false = true) by decide)] at H; exact H
                              clear H
                              have H := H1
                              clear H1
                              obtain rfl := Option.some.inj H
                              try go_wp2
                              have n0_ := Aside0.mk (blk_drew BK153.out)
                              have n1_ := Aside0.mk (below_drew1 HB.out)
                              clear BK153
                              clear HB
                              have BK153 := n0_
                              have HB := n1_
                              clear n0_ n1_
                              have p154 : 0 ≤ ((ji19) : Int) := of_decide_eq_true (by (with_reducible assumption))
                              have q154 : (ji19) < (l0.length : Int) := of_decide_eq_true (by (with_reducible assumption))
                              obtain ⟨ad154, e154, hx154_0, hx154_1, hx154_2⟩ := at_T44 HR0.out (ji19) p154 q154
                              have hw154_2 := hx154_2
                              have hw154_1 := hx154_1
                              have hw154_0 := hx154_0
                              obtain rfl : ad152 = ad154 := (by injection e154)
                              replace hx154_0 := (HB.out.cell (World.block_lt_of_cell? w _ hx154_0)).trans hx154_0
                              replace hx154_1 := (HB.out.cell (World.block_lt_of_cell? w _ hx154_1)).trans hx154_1
                              replace hx154_2 := (HB.out.cell (World.block_lt_of_cell? w _ hx154_2)).trans hx154_2
                              replace p154 := eq_true p154
                              replace q154 := eq_true q154
                              refine start_ (n := 23) (S := fun w' => w'.cell? ⟨gb153, 0, none⟩ = some (.int .i64 ((rd_T44 l0 x7_1).f0.f0)) ∧ w'.cell? ⟨gb153, 1, none⟩ = some (.int .i64 ((rd_T44 l0 x7_1).f0.f1)) ∧ w'.cell? ⟨gb153, 2, none⟩ = some (.int .i64 ((rd_T44 l0 x7_1).f1)) ∧ w'.cell? (ad152.add (((ji19)).toNat * 3)) = some (.int .i64 ((rd_T44 l0 (ji19)).f0.f0)) ∧ w'.cell? ⟨(ad152.add (((ji19)).toNat * 3)).block, (ad152.add (((ji19)).toNat * 3)).off + 1, none⟩ = some (.int .i64 ((rd_T44 l0 (ji19)).f0.f1)) ∧ w'.cell? ⟨(ad152.add (((ji19)).toNat * 3)).block, (ad152.add (((ji19)).toNat * 3)).off + 2, none⟩ = some (.int .i64 ((rd_T44 l0 (ji19)).f1))) (ds := []) #[false, false, false, false, false, false, false, false, false, false, false, false, false, false, false, false, false, false, false, false, false, false, false] (by kernel_rfl) rfl rfl ⟨(blk_cell BK153.out 0).trans rfl, (blk_cell BK153.out 1).trans rfl, (blk_cell BK153.out 2).trans rfl, ((HB.out.cell (World.block_lt_of_cell? w _ hw154_0)).trans hw154_0), ((HB.out.cell (World.block_lt_of_cell? w _ hw154_1)).trans hw154_1), ((HB.out.cell (World.block_lt_of_cell? w _ hw154_2)).trans hw154_2)⟩ (fun hHeld => ?_); refine with_tabW message_fine.tab5 message_fine.bits5 (fun HT_ HW_ => ?_)
                              generalize wc.drew = w26 at BK153 HB hx154_0 hx154_1 hx154_2 hHeld ⊢
                              refine pure_ (i := 0) (N := some 33) (v := ?_) (a' := ?_) #[true, false, false, false, false, false, false, false, false, false, false, false, false, false, false, false, false, false, false, false, false, false, false] rfl rfl (any_of HT_.out (by kernel_rfl)) (fun _ _ _ h => h) (Or.inl ⟨by rfl, ?_⟩) ?_ ?_
                              rotate_left
                              · intro w'
                                go_simp
                                with_reducible rfl
                              rotate_left
                              · simp only [Act.put, List.setIfInBounds_toArray, List.set_cons_zero, List.set_cons_succ, i64_w, i32_w]
                                rfl
                              refine take_ (i := 1) (N := some 34) (v := ?_) (a' := ?_) #[true, true, false, false, false, false, false, false, false, false, false, false, false, false, false, false, false, false, false, false, false, false, false] rfl rfl (take_ofW HT_.out HW_.out (by kernel_rfl)) (fun _ _ _ h => h) (Or.inl ⟨by rfl, ?_⟩) hHeld ?_ ?_
                              rotate_left
                              · rintro w' ⟨s0, s1, s2, s3, s4, s5⟩
                                go_simp
                                with_reducible rfl
                              rotate_left
                              · simp only [Act.put, List.setIfInBounds_toArray, List.set_cons_zero, List.set_cons_succ, i64_w, i32_w]
                                rfl
                              refine pure_ (i := 2) (N := some 35) (v := ?_) (a' := ?_) #[true, true, true, false, false, false, false, false, false, false, false, false, false, false, false, false, false, false, false, false, false, false, false] rfl rfl (any_of HT_.out (by kernel_rfl)) (fun _ _ _ h => h) (Or.inl ⟨by rfl, ?_⟩) ?_ ?_
                              rotate_left
                              · intro w'
                                go_simp
                                with_reducible rfl
                              rotate_left
                              · simp only [Act.put, List.setIfInBounds_toArray, List.set_cons_zero, List.set_cons_succ, i64_w, i32_w]
                                rfl
                              refine pure_ (i := 3) (N := some 36) (v := ?_) (a' := ?_) #[true, true, true, true, false, false, false, false, false, false, false, false, false, false, false, false, false, false, false, false, false, false, false] rfl rfl (any_of HT_.out (by kernel_rfl)) (fun _ _ _ h => h) (Or.inl ⟨by rfl, ?_⟩) ?_ ?_
                              rotate_left
                              · intro w'
                                go_simp
                                with_reducible rfl
                              rotate_left
                              · simp only [Act.put, List.setIfInBounds_toArray, List.set_cons_zero, List.set_cons_succ, i64_w, i32_w]
                                rfl
                              refine pure_ (i := 4) (N := some 37) (v := ?_) (a' := ?_) #[true, true, true, true, true, false, false, false, false, false, false, false, false, false, false, false, false, false, false, false, false, false, false] rfl rfl (any_of HT_.out (by kernel_rfl)) (fun _ _ _ h => h) (Or.inl ⟨by rfl, ?_⟩) ?_ ?_
                              rotate_left
                              · intro w'
                                go_simp
                                with_reducible rfl
                              rotate_left
                              · simp only [Act.put, List.setIfInBounds_toArray, List.set_cons_zero, List.set_cons_succ, i64_w, i32_w]
                                rfl
                              refine take_ (i := 5) (N := some 38) (v := ?_) (a' := ?_) #[true, true, true, true, true, true, false, false, false, false, false, false, false, false, false, false, false, false, false, false, false, false, false] rfl rfl (take_ofW HT_.out HW_.out (by kernel_rfl)) (fun _ _ _ h => h) (Or.inl ⟨by rfl, ?_⟩) hHeld ?_ ?_
                              rotate_left
                              · rintro w' ⟨s0, s1, s2, s3, s4, s5⟩
                                go_simp
                                with_reducible rfl
                              rotate_left
                              · simp only [Act.put, List.setIfInBounds_toArray, List.set_cons_zero, List.set_cons_succ, i64_w, i32_w]
                                rfl
                              refine pure_ (i := 6) (N := some 39) (v := ?_) (a' := ?_) #[true, true, true, true, true, true, true, false, false, false, false, false, false, false, false, false, false, false, false, false, false, false, false] rfl rfl (any_of HT_.out (by kernel_rfl)) (fun _ _ _ h => h) (Or.inl ⟨by rfl, ?_⟩) ?_ ?_
                              rotate_left
                              · intro w'
                                go_simp
                                with_reducible rfl
                              rotate_left
                              · simp only [Act.put, List.setIfInBounds_toArray, List.set_cons_zero, List.set_cons_succ, i64_w, i32_w]
                                rfl
                              refine pure_ (i := 7) (N := some 40) (v := ?_) (a' := ?_) #[true, true, true, true, true, true, true, true, false, false, false, false, false, false, false, false, false, false, false, false, false, false, false] rfl rfl (any_of HT_.out (by kernel_rfl)) (fun _ _ _ h => h) (Or.inl ⟨by rfl, ?_⟩) ?_ ?_
                              rotate_left
                              · intro w'
                                go_simp
                                with_reducible rfl
                              rotate_left
                              · simp only [Act.put, List.setIfInBounds_toArray, List.set_cons_zero, List.set_cons_succ, i64_w, i32_w]
                                rfl
                              refine pure_ (i := 8) (N := some 41) (v := ?_) (a' := ?_) #[true, true, true, true, true, true, true, true, true, false, false, false, false, false, false, false, false, false, false, false, false, false, false] rfl rfl (any_of HT_.out (by kernel_rfl)) (fun _ _ _ h => h) (Or.inl ⟨by rfl, ?_⟩) ?_ ?_
                              rotate_left
                              · intro w'
                                go_simp
                                with_reducible rfl
                              rotate_left
                              · simp only [Act.put, List.setIfInBounds_toArray, List.set_cons_zero, List.set_cons_succ, i64_w, i32_w]
                                rfl
                              refine pure_ (i := 9) (N := some 42) (v := ?_) (a' := ?_) #[true, true, true, true, true, true, true, true, true, true, false, false, false, false, false, false, false, false, false, false, false, false, false] rfl rfl (any_of HT_.out (by kernel_rfl)) (fun _ _ _ h => h) (Or.inl ⟨by rfl, ?_⟩) ?_ ?_
                              rotate_left
                              · intro w'
                                go_simp
                                with_reducible rfl
                              rotate_left
                              · simp only [Act.put, List.setIfInBounds_toArray, List.set_cons_zero, List.set_cons_succ, i64_w, i32_w]
                                rfl
                              refine pure_ (i := 10) (N := some 43) (v := ?_) (a' := ?_) #[true, true, true, true, true, true, true, true, true, true, true, false, false, false, false, false, false, false, false, false, false, false, false] rfl rfl (any_of HT_.out (by kernel_rfl)) (fun _ _ _ h => h) (Or.inl ⟨by rfl, ?_⟩) ?_ ?_
                              rotate_left
                              · intro w'
                                go_simp
                                with_reducible rfl
                              rotate_left
                              · simp only [Act.put, List.setIfInBounds_toArray, List.set_cons_zero, List.set_cons_succ, i64_w, i32_w]
                                rfl
                              refine pure_ (i := 11) (N := some 44) (v := ?_) (a' := ?_) #[true, true, true, true, true, true, true, true, true, true, true, true, false, false, false, false, false, false, false, false, false, false, false] rfl rfl (any_of HT_.out (by kernel_rfl)) (fun _ _ _ h => h) (Or.inl ⟨by rfl, ?_⟩) ?_ ?_
                              rotate_left
                              · intro w'
                                go_simp
                                with_reducible rfl
                              rotate_left
                              · simp only [Act.put, List.setIfInBounds_toArray, List.set_cons_zero, List.set_cons_succ, i64_w, i32_w]
                                rfl
                              refine pure_ (i := 12) (N := some 45) (v := ?_) (a' := ?_) #[true, true, true, true, true, true, true, true, true, true, true, true, true, false, false, false, false, false, false, false, false, false, false] rfl rfl (any_of HT_.out (by kernel_rfl)) (fun _ _ _ h => h) (Or.inl ⟨by rfl, ?_⟩) ?_ ?_
                              rotate_left
                              · intro w'
                                go_simp
                                with_reducible rfl
                              rotate_left
                              · simp only [Act.put, List.setIfInBounds_toArray, List.set_cons_zero, List.set_cons_succ, i64_w, i32_w]
                                rfl
                              refine pure_ (i := 13) (N := some 46) (v := ?_) (a' := ?_) #[true, true, true, true, true, true, true, true, true, true, true, true, true, true, false, false, false, false, false, false, false, false, false] rfl rfl (any_of HT_.out (by kernel_rfl)) (fun _ _ _ h => h) (Or.inl ⟨by rfl, ?_⟩) ?_ ?_
                              rotate_left
                              · intro w'
                                go_simp
                                with_reducible rfl
                              rotate_left
                              · simp only [Act.put, List.setIfInBounds_toArray, List.set_cons_zero, List.set_cons_succ, i64_w, i32_w]
                                rfl
                              refine pure_ (i := 14) (N := some 47) (v := ?_) (a' := ?_) #[true, true, true, true, true, true, true, true, true, true, true, true, true, true, true, false, false, false, false, false, false, false, false] rfl rfl (any_of HT_.out (by kernel_rfl)) (fun _ _ _ h => h) (Or.inl ⟨by rfl, ?_⟩) ?_ ?_
                              rotate_left
                              · intro w'
                                go_simp
                                with_reducible rfl
                              rotate_left
                              · simp only [Act.put, List.setIfInBounds_toArray, List.set_cons_zero, List.set_cons_succ, i64_w, i32_w]
                                rfl
                              refine pure_ (i := 15) (N := some 48) (v := ?_) (a' := ?_) #[true, true, true, true, true, true, true, true, true, true, true, true, true, true, true, true, false, false, false, false, false, false, false] rfl rfl (any_of HT_.out (by kernel_rfl)) (fun _ _ _ h => h) (Or.inl ⟨by rfl, ?_⟩) ?_ ?_
                              rotate_left
                              · intro w'
                                go_simp
                                with_reducible rfl
                              rotate_left
                              · simp only [Act.put, List.setIfInBounds_toArray, List.set_cons_zero, List.set_cons_succ, i64_w, i32_w]
                                rfl
                              refine take_ (i := 16) (N := some 49) (v := ?_) (a' := ?_) #[true, true, true, true, true, true, true, true, true, true, true, true, true, true, true, true, true, false, false, false, false, false, false] rfl rfl (take_ofW HT_.out HW_.out (by kernel_rfl)) (fun _ _ _ h => h) (Or.inl ⟨by rfl, ?_⟩) hHeld ?_ ?_
                              rotate_left
                              · rintro w' ⟨s0, s1, s2, s3, s4, s5⟩
                                go_simp
                                with_reducible rfl
                              rotate_left
                              · simp only [Act.put, List.setIfInBounds_toArray, List.set_cons_zero, List.set_cons_succ, i64_w, i32_w]
                                rfl
                              refine take_ (i := 17) (N := some 50) (v := ?_) (a' := ?_) #[true, true, true, true, true, true, true, true, true, true, true, true, true, true, true, true, true, true, false, false, false, false, false] rfl rfl (take_ofW HT_.out HW_.out (by kernel_rfl)) (fun _ _ _ h => h) (Or.inl ⟨by rfl, ?_⟩) hHeld ?_ ?_
                              rotate_left
                              · rintro w' ⟨s0, s1, s2, s3, s4, s5⟩
                                go_simp
                                with_reducible rfl
                              rotate_left
                              · simp only [Act.put, List.setIfInBounds_toArray, List.set_cons_zero, List.set_cons_succ, i64_w, i32_w]
                                rfl
                              refine one_ (i := 18) (N := some 51) #[true, true, true, true, true, true, true, true, true, true, true, true, true, true, true, true, true, true, true, false, false, false, false] rfl rfl (one_of HT_.out (by kernel_rfl)) (by decide) (fun K hK => ?_)
                              refine goes_ Try.func55 (by kernel_rfl) rfl #[.agg #[.int .i64 ((rd_T44 l0 (ji19)).f0.f0), .int .i64 ((rd_T44 l0 (ji19)).f0.f1), .int .i64 ((rd_T44 l0 (ji19)).f1)], .agg #[.int .i64 ((rd_T44 l0 x7_1).f0.f0), .int .i64 ((rd_T44 l0 x7_1).f0.f1), .int .i64 ((rd_T44 l0 x7_1).f1)]] (by rfl) rfl rfl (by (try simp only [List.map_toArray, List.map_cons, List.map_nil]); (rfl)) ?_
                              with_reducible refine (message_less.calls ((rd_T44 l0 (ji19)).f0.f0) ((rd_T44 l0 (ji19)).f0.f1) ((rd_T44 l0 (ji19)).f1) ((rd_T44 l0 x7_1).f0.f0) ((rd_T44 l0 x7_1).f0.f1) ((rd_T44 l0 x7_1).f1) false _ A22.out).mono ?_
                              rintro e w27 ⟨rfl, hb⟩
                              refine ⟨_, rfl, ?_⟩
                              have n0_ := Aside0.mk (blk_below (g := gb153) (o := .cells #[.int .i64 ((rd_T44 l0 x7_1).f0.f0), .int .i64 ((rd_T44 l0 x7_1).f0.f1), .int .i64 ((rd_T44 l0 x7_1).f1)] 44 (0, 0)) (by (with_reducible repeat ((refine blk_drew ?_))); exact BK153.out) hb)
                              have n1_ := Aside0.mk (below_step (by repeat ((with_reducible (exact HB.out)))) hb)
                              clear BK153
                              clear HB
                              have BK153 := n0_
                              have HB := n1_
                              clear n0_ n1_
                              (try clear hb)
                              (try clear hb2)
                              (try clear hk)
                              (try clear hi)
                              refine hK.out _ _ ⟨(blk_cell BK153.out 0).trans rfl, (blk_cell BK153.out 1).trans rfl, (blk_cell BK153.out 2).trans rfl, ((HB.out.cell (World.block_lt_of_cell? w _ hw154_0)).trans hw154_0), ((HB.out.cell (World.block_lt_of_cell? w _ hw154_1)).trans hw154_1), ((HB.out.cell (World.block_lt_of_cell? w _ hw154_2)).trans hw154_2)⟩ (fun hHeld => ?_)
                              clear hK K
                              refine norm_ (a' := ?_) ?_ ?_
                              rotate_left
                              · show Act.put _ (some 51) _ = _
                                simp only [Act.put, List.setIfInBounds_toArray, List.set_cons_zero, List.set_cons_succ, i64_w, i32_w]
                                rfl
                              refine pure_ (i := 19) (N := some 52) (v := ?_) (a' := ?_) #[true, true, true, true, true, true, true, true, true, true, true, true, true, true, true, true, true, true, true, true, false, false, false] rfl rfl (any_of HT_.out (by kernel_rfl)) (fun _ _ _ h => h) (Or.inl ⟨by rfl, ?_⟩) ?_ ?_
                              rotate_left
                              · intro w'
                                go_simp
                                with_reducible rfl
                              rotate_left
                              · simp only [Act.put, List.setIfInBounds_toArray, List.set_cons_zero, List.set_cons_succ, i64_w, i32_w]
                                rfl
                              refine pure_ (i := 20) (N := some 53) (v := ?_) (a' := ?_) #[true, true, true, true, true, true, true, true, true, true, true, true, true, true, true, true, true, true, true, true, true, false, false] rfl rfl (any_of HT_.out (by kernel_rfl)) (fun _ _ _ h => h) (Or.inl ⟨by rfl, ?_⟩) ?_ ?_
                              rotate_left
                              · intro w'
                                go_simp
                                with_reducible rfl
                              rotate_left
                              · simp only [Act.put, List.setIfInBounds_toArray, List.set_cons_zero, List.set_cons_succ, i64_w, i32_w]
                                rfl
                              refine pure_ (i := 21) (N := some 54) (v := ?_) (a' := ?_) #[true, true, true, true, true, true, true, true, true, true, true, true, true, true, true, true, true, true, true, true, true, true, false] rfl rfl (any_of HT_.out (by kernel_rfl)) (fun _ _ _ h => h) (Or.inl ⟨by rfl, ?_⟩) ?_ ?_
                              rotate_left
                              · intro w'
                                go_simp
                                with_reducible rfl
                              rotate_left
                              · simp only [Act.put, List.setIfInBounds_toArray, List.set_cons_zero, List.set_cons_succ, i64_w, i32_w]
                                rfl
                              refine pure_ (i := 22) (N := some 32) (v := ?_) (a' := ?_) #[true, true, true, true, true, true, true, true, true, true, true, true, true, true, true, true, true, true, true, true, true, true, true] rfl rfl (any_of HT_.out (by kernel_rfl)) (fun _ _ _ h => h) (Or.inl ⟨by rfl, ?_⟩) ?_ ?_
                              rotate_left
                              · intro w'
                                go_simp
                                with_reducible rfl
                              rotate_left
                              · simp only [Act.put, List.setIfInBounds_toArray, List.set_cons_zero, List.set_cons_succ, i64_w, i32_w]
                                rfl
                              refine done_ (done_of HT_.out (by kernel_rfl)) ?_
                              try go_wp2
                              go_ret
                              exact ⟨by (rfl), by repeat ((with_reducible (exact HB.out)))⟩
                          · rw [if_neg c21] at H
                            exact absurd H (by simp)
                        · rw [if_neg c20] at H
                          exact absurd H (by simp)
                      · rw [if_neg c18] at H
                        have c18b0 : decide (0 < x7_1) = false := decide_eq_false c18
                        clear c18
                        have H' := Aside0.mk H
                        clear H
                        try go_wp2
                        have n0_ := Aside0.mk (blk_drew BK153.out)
                        have n1_ := Aside0.mk (below_drew1 HB.out)
                        clear BK153
                        clear HB
                        have BK153 := n0_
                        have HB := n1_
                        clear n0_ n1_
                        refine start_ (n := 23) (S := fun w' => w'.cell? ⟨gb153, 0, none⟩ = some (.int .i64 ((rd_T44 l0 x7_1).f0.f0)) ∧ w'.cell? ⟨gb153, 1, none⟩ = some (.int .i64 ((rd_T44 l0 x7_1).f0.f1)) ∧ w'.cell? ⟨gb153, 2, none⟩ = some (.int .i64 ((rd_T44 l0 x7_1).f1))) (ds := []) #[false, false, false, false, false, false, false, false, false, false, false, false, false, false, false, false, false, false, false, false, false, false, false] (by kernel_rfl) rfl rfl ⟨(blk_cell BK153.out 0).trans rfl, (blk_cell BK153.out 1).trans rfl, (blk_cell BK153.out 2).trans rfl⟩ (fun hHeld => ?_); refine with_tabW message_fine.tab5 message_fine.bits5 (fun HT_ HW_ => ?_)
                        generalize wc.drew = w28 at BK153 HB hHeld ⊢
                        refine pure_ (i := 0) (N := some 33) (v := ?_) (a' := ?_) #[true, false, false, false, false, false, false, false, false, false, false, false, false, false, false, false, false, false, false, false, false, false, false] rfl rfl (any_of HT_.out (by kernel_rfl)) (fun _ _ _ h => h) (Or.inl ⟨by rfl, ?_⟩) ?_ ?_
                        rotate_left
                        · intro w'
                          go_simp
                          with_reducible rfl
                        rotate_left
                        · simp only [Act.put, List.setIfInBounds_toArray, List.set_cons_zero, List.set_cons_succ, i64_w, i32_w]
                          rfl
                        refine take_ (i := 1) (N := some 34) (v := ?_) (a' := ?_) #[true, true, false, false, false, false, false, false, false, false, false, false, false, false, false, false, false, false, false, false, false, false, false] rfl rfl (take_ofW HT_.out HW_.out (by kernel_rfl)) (fun _ _ _ h => h) (Or.inl ⟨by rfl, ?_⟩) hHeld ?_ ?_
                        rotate_left
                        · rintro w' ⟨s0, s1, s2⟩
                          go_simp
                          with_reducible rfl
                        rotate_left
                        · simp only [Act.put, List.setIfInBounds_toArray, List.set_cons_zero, List.set_cons_succ, i64_w, i32_w]
                          rfl
                        refine pure_ (i := 2) (N := some 35) (v := ?_) (a' := ?_) #[true, true, true, false, false, false, false, false, false, false, false, false, false, false, false, false, false, false, false, false, false, false, false] rfl rfl (any_of HT_.out (by kernel_rfl)) (fun _ _ _ h => h) (Or.inl ⟨by rfl, ?_⟩) ?_ ?_
                        rotate_left
                        · intro w'
                          go_simp
                          with_reducible rfl
                        rotate_left
                        · simp only [Act.put, List.setIfInBounds_toArray, List.set_cons_zero, List.set_cons_succ, i64_w, i32_w]
                          rfl
                        refine pure_ (i := 3) (N := some 36) (v := ?_) (a' := ?_) #[true, true, true, true, false, false, false, false, false, false, false, false, false, false, false, false, false, false, false, false, false, false, false] rfl rfl (any_of HT_.out (by kernel_rfl)) (fun _ _ _ h => h) (Or.inl ⟨by rfl, ?_⟩) ?_ ?_
                        rotate_left
                        · intro w'
                          go_simp
                          with_reducible rfl
                        rotate_left
                        · simp only [Act.put, List.setIfInBounds_toArray, List.set_cons_zero, List.set_cons_succ, i64_w, i32_w]
                          rfl
                        refine pure_ (i := 4) (N := some 37) (v := ?_) (a' := ?_) #[true, true, true, true, true, false, false, false, false, false, false, false, false, false, false, false, false, false, false, false, false, false, false] rfl rfl (any_of HT_.out (by kernel_rfl)) (fun _ _ _ h => h) (Or.inl ⟨by rfl, ?_⟩) ?_ ?_
                        rotate_left
                        · intro w'
                          go_simp
                          with_reducible rfl
                        rotate_left
                        · simp only [Act.put, List.setIfInBounds_toArray, List.set_cons_zero, List.set_cons_succ, i64_w, i32_w]
                          rfl
                        refine take_ (i := 5) (N := some 38) (v := ?_) (a' := ?_) #[true, true, true, true, true, true, false, false, false, false, false, false, false, false, false, false, false, false, false, false, false, false, false] rfl rfl (take_ofW HT_.out HW_.out (by kernel_rfl)) (fun _ _ _ h => h) (Or.inl ⟨by rfl, ?_⟩) hHeld ?_ ?_
                        rotate_left
                        · rintro w' ⟨s0, s1, s2⟩
                          go_simp
                          with_reducible rfl
                        rotate_left
                        · simp only [Act.put, List.setIfInBounds_toArray, List.set_cons_zero, List.set_cons_succ, i64_w, i32_w]
                          rfl
                        refine pure_ (i := 6) (N := some 39) (v := ?_) (a' := ?_) #[true, true, true, true, true, true, true, false, false, false, false, false, false, false, false, false, false, false, false, false, false, false, false] rfl rfl (any_of HT_.out (by kernel_rfl)) (fun _ _ _ h => h) (Or.inl ⟨by rfl, ?_⟩) ?_ ?_
                        rotate_left
                        · intro w'
                          go_simp
                          with_reducible rfl
                        rotate_left
                        · simp only [Act.put, List.setIfInBounds_toArray, List.set_cons_zero, List.set_cons_succ, i64_w, i32_w]
                          rfl
                        refine pure_ (i := 7) (N := some 40) (v := ?_) (a' := ?_) #[true, true, true, true, true, true, true, true, false, false, false, false, false, false, false, false, false, false, false, false, false, false, false] rfl rfl (any_of HT_.out (by kernel_rfl)) (fun _ _ _ h => h) (Or.inl ⟨by rfl, ?_⟩) ?_ ?_
                        rotate_left
                        · intro w'
                          go_simp
                          with_reducible rfl
                        rotate_left
                        · simp only [Act.put, List.setIfInBounds_toArray, List.set_cons_zero, List.set_cons_succ, i64_w, i32_w]
                          rfl
                        refine pure_ (i := 8) (N := some 41) (v := ?_) (a' := ?_) #[true, true, true, true, true, true, true, true, true, false, false, false, false, false, false, false, false, false, false, false, false, false, false] rfl rfl (any_of HT_.out (by kernel_rfl)) (fun _ _ _ h => h) (Or.inl ⟨by rfl, ?_⟩) ?_ ?_
                        rotate_left
                        · intro w'
                          go_simp
                          with_reducible rfl
                        rotate_left
                        · simp only [Act.put, List.setIfInBounds_toArray, List.set_cons_zero, List.set_cons_succ, i64_w, i32_w]
                          rfl
                        refine pure_ (i := 9) (N := some 42) (v := ?_) (a' := ?_) #[true, true, true, true, true, true, true, true, true, true, false, false, false, false, false, false, false, false, false, false, false, false, false] rfl rfl (any_of HT_.out (by kernel_rfl)) (fun _ _ _ h => h) (Or.inl ⟨by rfl, ?_⟩) ?_ ?_
                        rotate_left
                        · intro w'
                          go_simp
                          with_reducible rfl
                        rotate_left
                        · simp only [Act.put, List.setIfInBounds_toArray, List.set_cons_zero, List.set_cons_succ, i64_w, i32_w]
                          rfl
                        refine pure_ (i := 10) (N := some 43) (v := ?_) (a' := ?_) #[true, true, true, true, true, true, true, true, true, true, true, false, false, false, false, false, false, false, false, false, false, false, false] rfl rfl (any_of HT_.out (by kernel_rfl)) (fun _ _ _ h => h) (Or.inl ⟨by rfl, ?_⟩) ?_ ?_
                        rotate_left
                        · intro w'
                          go_simp
                          with_reducible rfl
                        rotate_left
                        · simp only [Act.put, List.setIfInBounds_toArray, List.set_cons_zero, List.set_cons_succ, i64_w, i32_w]
                          rfl
                        refine pure_ (i := 11) (N := some 44) (v := ?_) (a' := ?_) #[true, true, true, true, true, true, true, true, true, true, true, true, false, false, false, false, false, false, false, false, false, false, false] rfl rfl (any_of HT_.out (by kernel_rfl)) (fun _ _ _ h => h) (Or.inl ⟨by rfl, ?_⟩) ?_ ?_
                        rotate_left
                        · intro w'
                          go_simp
                          with_reducible rfl
                        rotate_left
                        · simp only [Act.put, List.setIfInBounds_toArray, List.set_cons_zero, List.set_cons_succ, i64_w, i32_w]
                          rfl
                        refine pure_ (i := 12) (N := some 45) (v := undef) (a' := ?_) #[true, true, true, true, true, true, true, true, true, true, true, true, true, false, false, false, false, false, false, false, false, false, false] rfl rfl (any_of HT_.out (by kernel_rfl)) (fun _ _ _ h => h) (Or.inr ⟨by rfl, rfl⟩) ?_ ?_
                        rotate_left
                        · simp only [Act.put, List.setIfInBounds_toArray, List.set_cons_zero, List.set_cons_succ, i64_w, i32_w]
                          rfl
                        refine pure_ (i := 13) (N := some 46) (v := undef) (a' := ?_) #[true, true, true, true, true, true, true, true, true, true, true, true, true, true, false, false, false, false, false, false, false, false, false] rfl rfl (any_of HT_.out (by kernel_rfl)) (fun _ _ _ h => h) (Or.inr ⟨by rfl, rfl⟩) ?_ ?_
                        rotate_left
                        · simp only [Act.put, List.setIfInBounds_toArray, List.set_cons_zero, List.set_cons_succ, i64_w, i32_w]
                          rfl
                        refine pure_ (i := 14) (N := some 47) (v := undef) (a' := ?_) #[true, true, true, true, true, true, true, true, true, true, true, true, true, true, true, false, false, false, false, false, false, false, false] rfl rfl (any_of HT_.out (by kernel_rfl)) (fun _ _ _ h => h) (Or.inr ⟨by rfl, rfl⟩) ?_ ?_
                        rotate_left
                        · simp only [Act.put, List.setIfInBounds_toArray, List.set_cons_zero, List.set_cons_succ, i64_w, i32_w]
                          rfl
                        refine pure_ (i := 15) (N := some 48) (v := undef) (a' := ?_) #[true, true, true, true, true, true, true, true, true, true, true, true, true, true, true, true, false, false, false, false, false, false, false] rfl rfl (any_of HT_.out (by kernel_rfl)) (fun _ _ _ h => h) (Or.inr ⟨by rfl, rfl⟩) ?_ ?_
                        rotate_left
                        · simp only [Act.put, List.setIfInBounds_toArray, List.set_cons_zero, List.set_cons_succ, i64_w, i32_w]
                          rfl
                        refine pure_ (i := 16) (N := some 49) (v := undef) (a' := ?_) #[true, true, true, true, true, true, true, true, true, true, true, true, true, true, true, true, true, false, false, false, false, false, false] rfl rfl (any_of HT_.out (by kernel_rfl)) (fun _ _ _ h => h) (Or.inr ⟨by rfl, rfl⟩) ?_ ?_
                        rotate_left
                        · simp only [Act.put, List.setIfInBounds_toArray, List.set_cons_zero, List.set_cons_succ, i64_w, i32_w]
                          rfl
                        refine pure_ (i := 17) (N := some 50) (v := undef) (a' := ?_) #[true, true, true, true, true, true, true, true, true, true, true, true, true, true, true, true, true, true, false, false, false, false, false] rfl rfl (any_of HT_.out (by kernel_rfl)) (fun _ _ _ h => h) (Or.inr ⟨by rfl, rfl⟩) ?_ ?_
                        rotate_left
                        · simp only [Act.put, List.setIfInBounds_toArray, List.set_cons_zero, List.set_cons_succ, i64_w, i32_w]
                          rfl
                        refine pure_ (i := 18) (N := some 51) (v := undef) (a' := ?_) #[true, true, true, true, true, true, true, true, true, true, true, true, true, true, true, true, true, true, true, false, false, false, false] rfl rfl (any_of HT_.out (by kernel_rfl)) (fun _ _ _ h => h) (Or.inr ⟨by rfl, rfl⟩) ?_ ?_
                        rotate_left
                        · simp only [Act.put, List.setIfInBounds_toArray, List.set_cons_zero, List.set_cons_succ, i64_w, i32_w]
                          rfl
                        refine pure_ (i := 19) (N := some 52) (v := undef) (a' := ?_) #[true, true, true, true, true, true, true, true, true, true, true, true, true, true, true, true, true, true, true, true, false, false, false] rfl rfl (any_of HT_.out (by kernel_rfl)) (fun _ _ _ h => h) (Or.inr ⟨by rfl, rfl⟩) ?_ ?_
                        rotate_left
                        · simp only [Act.put, List.setIfInBounds_toArray, List.set_cons_zero, List.set_cons_succ, i64_w, i32_w]
                          rfl
                        refine pure_ (i := 20) (N := some 53) (v := ?_) (a' := ?_) #[true, true, true, true, true, true, true, true, true, true, true, true, true, true, true, true, true, true, true, true, true, false, false] rfl rfl (any_of HT_.out (by kernel_rfl)) (fun _ _ _ h => h) (Or.inl ⟨by rfl, ?_⟩) ?_ ?_
                        rotate_left
                        · intro w'
                          go_simp
                          with_reducible rfl
                        rotate_left
                        · simp only [Act.put, List.setIfInBounds_toArray, List.set_cons_zero, List.set_cons_succ, i64_w, i32_w]
                          rfl
                        refine pure_ (i := 21) (N := some 54) (v := ?_) (a' := ?_) #[true, true, true, true, true, true, true, true, true, true, true, true, true, true, true, true, true, true, true, true, true, true, false] rfl rfl (any_of HT_.out (by kernel_rfl)) (fun _ _ _ h => h) (Or.inl ⟨by rfl, ?_⟩) ?_ ?_
                        rotate_left
                        · intro w'
                          go_simp
                          with_reducible rfl
                        rotate_left
                        · simp only [Act.put, List.setIfInBounds_toArray, List.set_cons_zero, List.set_cons_succ, i64_w, i32_w]
                          rfl
                        refine pure_ (i := 22) (N := some 32) (v := ?_) (a' := ?_) #[true, true, true, true, true, true, true, true, true, true, true, true, true, true, true, true, true, true, true, true, true, true, true] rfl rfl (any_of HT_.out (by kernel_rfl)) (fun _ _ _ h => h) (Or.inl ⟨by rfl, ?_⟩) ?_ ?_
                        rotate_left
                        · intro w'
                          go_simp
                          with_reducible rfl
                        rotate_left
                        · simp only [Act.put, List.setIfInBounds_toArray, List.set_cons_zero, List.set_cons_succ, i64_w, i32_w]
                          rfl
                        refine done_ (done_of HT_.out (by kernel_rfl)) ?_
                        try go_wp2
                        go_roundg kj4
                        case measure => have := HK1.out; have := HJ4.out; omega
                        case rel => exact ⟨(wrap64 (x7_1 + 1)), (by (rfl)), H', ⟨by have := HK1.out; have := HJ4.out; omega⟩, ⟨by repeat ((with_reducible (exact HB.out)))⟩⟩
          · rw [if_neg c4] at H
            exact absurd H (by simp)
        · rw [if_neg c3] at H
          exact absurd H (by simp)
      · rw [if_neg c2] at H
        have c2b0 : decide (x7_1 < (l0.length : Int)) = false := decide_eq_false c2
        clear c2
        obtain rfl := Option.some.inj H
        go_wp2
        go_ret
        exact ⟨by (rfl), by repeat ((with_reducible (exact HB.out)))⟩

end Go.Proofs.Ytjbnffadfohofaa.P
end
-- MERGED YtjbnffadfohofaaMsgA
section
/- message: where a number stands; a message without something. -/
namespace Go.Proofs.Ytjbnffadfohofaa.MsgA
open Go.RowKit Go.Proofs.Ytjbnffadfohofaa.P Go.Proofs.YtjbnffadfohofaaW.PrintWords Go.Proofs.YtjbnffadfohofaaW.PrintLast Go.Proofs.YtjbnffadfohofaaW.PrintMore Go.Proofs.Ytjbnffadfohofaa.Own
set_option linter.unusedSimpArgs false
set_option linter.unusedVariables false

/-- A message; its edit and its notes as they lie. -/
structure Mg where
  k : Int
  c : Int
  e : Int
  r : Int
  s : Int
  d : Int
  o : Value
  t : ByteArray
  n : Value
def Mg.cs (m : Mg) : Array Value := #[.int .i64 m.k, .int .i64 m.c, .int .i64 m.e, .int .i64 m.r, .int .i64 m.s, .int .i64 m.d, m.o, .string m.t, m.n]
def Mg.val (m : Mg) : Value := .agg m.cs
/-- What a number may be at most. -/
def most (f : Nat) : Int := if f = 0 then 63 else if f = 4 then 65536 else 4611686018427387904
set_option maxHeartbeats 2000000 in
set_option maxRecDepth 100000 in
theorem num_c (B f : Nat) (hf : f < 5) (w : World) : Calls Try.prog 49 #[.pointer (some ⟨B, 0, none⟩), .int .i64 (f : Int)] w fun e w' => e = .returned (.tuple #[.pointer (some ⟨B, f + 1, none⟩), .int .i64 (most f)]) ∧ w' = w := by
  have h : f = 0 ∨ f = 1 ∨ f = 2 ∨ f = 3 ∨ f = 4 := by omega
  rcases h with rfl | rfl | rfl | rfl | rfl <;>
  · go_enter Try.func49, Try.ntmps49
    go_wp2_with fail
    go_ret2
    exact ⟨rfl, rfl⟩
/-- A message without something. -/
def Mg.strip (m : Mg) (f : Nat) : Mg :=
  if f = 0 then { m with c := 0 } else if f = 1 then { m with e := 0 } else if f = 2 then { m with r := 0 } else if f = 3 then { m with s := 0 } else if f = 4 then { m with d := 0 }
  else if f = 5 then { m with o := .slice none 0 0 } else if f = 6 then { m with t := ⟨#[]⟩ } else { m with n := .slice none 0 0 }
def Mg.get (m : Mg) (f : Nat) : Int := if f = 0 then m.c else if f = 1 then m.e else if f = 2 then m.r else if f = 3 then m.s else m.d
/-- What is taken out was right? -/
def Mg.ok (m : Mg) (go gn : Bool) (f : Nat) : Bool := if f < 5 then decide (0 ≤ m.get f) && decide (m.get f ≤ most f) else if f = 5 then go else if f = 6 then decide (m.t.size ≤ 16777216) else gn
def Blk (B : Nat) (m : Mg) (w : World) : Prop := w.heap[B]? = some (.cells m.cs 60 (0, 0))
theorem Blk.cells {B : Nat} {m : Mg} {w : World} (h : Blk B m w) : (w.cell? ⟨B, 0, none⟩ = some (.int .i64 m.k) ∧ w.cell? ⟨B, 1, none⟩ = some (.int .i64 m.c) ∧ w.cell? ⟨B, 2, none⟩ = some (.int .i64 m.e) ∧ w.cell? ⟨B, 3, none⟩ = some (.int .i64 m.r) ∧ w.cell? ⟨B, 4, none⟩ = some (.int .i64 m.s) ∧ w.cell? ⟨B, 5, none⟩ = some (.int .i64 m.d)) ∧ w.cell? ⟨B, 6, none⟩ = some m.o ∧ w.cell? ⟨B, 7, none⟩ = some (.string m.t) ∧ w.cell? ⟨B, 8, none⟩ = some m.n := by
  unfold Blk at h
  refine ⟨⟨?_, ?_, ?_, ?_, ?_, ?_⟩, ?_, ?_, ?_⟩ <;> (rw [cell_of_row w _ _ _ _ _ h]; rfl)
theorem Blk.fz {B : Nat} {m : Mg} {w : World} (h : Blk B m w) (o : Nat) : w.frozen? ⟨B, o, none⟩ = false := frozen_of_row w _ o _ _ h
theorem Blk.lt {B : Nat} {m : Mg} {w : World} (h : Blk B m w) : B < w.heap.size := (Array.getElem?_eq_some_iff.1 h).1
theorem Blk.below {B : Nat} {m : Mg} {w w' : World} (h : Blk B m w) (hb : Below w.heap.size w w') : Blk B m w' := (hb.block _ h.lt).trans h
theorem Blk.strip0 {B f : Nat} {m : Mg} {w : World} (h : Blk B m w) (hf : f < 5) : Blk B (m.strip f) (w.setCell ⟨B, f + 1, none⟩ (.int .i64 0)) := by
  have hq : f = 0 ∨ f = 1 ∨ f = 2 ∨ f = 3 ∨ f = 4 := by omega
  rcases hq with rfl | rfl | rfl | rfl | rfl <;> exact heap_setCell_same w B _ _ _ _ h
theorem Blk.strip5 {B : Nat} {m : Mg} {w : World} (h : Blk B m w) : Blk B (m.strip 5) (w.setCell ⟨B, 6, none⟩ (.slice none 0 0)) := heap_setCell_same w B _ _ _ _ h
theorem Blk.strip6 {B : Nat} {m : Mg} {w : World} (h : Blk B m w) : Blk B (m.strip 6) (w.setCell ⟨B, 7, none⟩ (.string ⟨#[]⟩)) := heap_setCell_same w B _ _ _ _ h
theorem Blk.strip7 {B : Nat} {m : Mg} {w : World} (h : Blk B m w) : Blk B (m.strip 7) (w.setCell ⟨B, 8, none⟩ (.slice none 0 0)) := heap_setCell_same w B _ _ _ _ h
theorem set9 {B : Nat} {w : World} {T : TypeId} {a0 a1 a2 a3 a4 a5 a6 a7 a8 : Value} (h : w.heap[B]? = some (.cells #[a0, a1, a2, a3, a4, a5, a6, a7, a8] T (0, 0))) (y0 y1 y2 y3 y4 y5 y6 y7 y8 : Value) : (((((((((w.setCell ⟨B, 0, none⟩ y0).setCell ⟨B, 1, none⟩ y1).setCell ⟨B, 2, none⟩ y2).setCell ⟨B, 3, none⟩ y3).setCell ⟨B, 4, none⟩ y4).setCell ⟨B, 5, none⟩ y5).setCell ⟨B, 6, none⟩ y6).setCell ⟨B, 7, none⟩ y7).setCell ⟨B, 8, none⟩ y8).heap[B]? = some (.cells #[y0, y1, y2, y3, y4, y5, y6, y7, y8] T (0, 0)) := by
  have h0 : (w.setCell ⟨B, 0, none⟩ y0).heap[B]? = some (.cells #[y0, a1, a2, a3, a4, a5, a6, a7, a8] T (0, 0)) := heap_setCell_same w B 0 _ _ y0 h
  have h1 : ((w.setCell ⟨B, 0, none⟩ y0).setCell ⟨B, 1, none⟩ y1).heap[B]? = some (.cells #[y0, y1, a2, a3, a4, a5, a6, a7, a8] T (0, 0)) := heap_setCell_same (w.setCell ⟨B, 0, none⟩ y0) B 1 _ _ y1 h0
  have h2 : (((w.setCell ⟨B, 0, none⟩ y0).setCell ⟨B, 1, none⟩ y1).setCell ⟨B, 2, none⟩ y2).heap[B]? = some (.cells #[y0, y1, y2, a3, a4, a5, a6, a7, a8] T (0, 0)) := heap_setCell_same ((w.setCell ⟨B, 0, none⟩ y0).setCell ⟨B, 1, none⟩ y1) B 2 _ _ y2 h1
  have h3 : ((((w.setCell ⟨B, 0, none⟩ y0).setCell ⟨B, 1, none⟩ y1).setCell ⟨B, 2, none⟩ y2).setCell ⟨B, 3, none⟩ y3).heap[B]? = some (.cells #[y0, y1, y2, y3, a4, a5, a6, a7, a8] T (0, 0)) := heap_setCell_same (((w.setCell ⟨B, 0, none⟩ y0).setCell ⟨B, 1, none⟩ y1).setCell ⟨B, 2, none⟩ y2) B 3 _ _ y3 h2
  have h4 : (((((w.setCell ⟨B, 0, none⟩ y0).setCell ⟨B, 1, none⟩ y1).setCell ⟨B, 2, none⟩ y2).setCell ⟨B, 3, none⟩ y3).setCell ⟨B, 4, none⟩ y4).heap[B]? = some (.cells #[y0, y1, y2, y3, y4, a5, a6, a7, a8] T (0, 0)) := heap_setCell_same ((((w.setCell ⟨B, 0, none⟩ y0).setCell ⟨B, 1, none⟩ y1).setCell ⟨B, 2, none⟩ y2).setCell ⟨B, 3, none⟩ y3) B 4 _ _ y4 h3
  have h5 : ((((((w.setCell ⟨B, 0, none⟩ y0).setCell ⟨B, 1, none⟩ y1).setCell ⟨B, 2, none⟩ y2).setCell ⟨B, 3, none⟩ y3).setCell ⟨B, 4, none⟩ y4).setCell ⟨B, 5, none⟩ y5).heap[B]? = some (.cells #[y0, y1, y2, y3, y4, y5, a6, a7, a8] T (0, 0)) := heap_setCell_same (((((w.setCell ⟨B, 0, none⟩ y0).setCell ⟨B, 1, none⟩ y1).setCell ⟨B, 2, none⟩ y2).setCell ⟨B, 3, none⟩ y3).setCell ⟨B, 4, none⟩ y4) B 5 _ _ y5 h4
  have h6 : (((((((w.setCell ⟨B, 0, none⟩ y0).setCell ⟨B, 1, none⟩ y1).setCell ⟨B, 2, none⟩ y2).setCell ⟨B, 3, none⟩ y3).setCell ⟨B, 4, none⟩ y4).setCell ⟨B, 5, none⟩ y5).setCell ⟨B, 6, none⟩ y6).heap[B]? = some (.cells #[y0, y1, y2, y3, y4, y5, y6, a7, a8] T (0, 0)) := heap_setCell_same ((((((w.setCell ⟨B, 0, none⟩ y0).setCell ⟨B, 1, none⟩ y1).setCell ⟨B, 2, none⟩ y2).setCell ⟨B, 3, none⟩ y3).setCell ⟨B, 4, none⟩ y4).setCell ⟨B, 5, none⟩ y5) B 6 _ _ y6 h5
  have h7 : ((((((((w.setCell ⟨B, 0, none⟩ y0).setCell ⟨B, 1, none⟩ y1).setCell ⟨B, 2, none⟩ y2).setCell ⟨B, 3, none⟩ y3).setCell ⟨B, 4, none⟩ y4).setCell ⟨B, 5, none⟩ y5).setCell ⟨B, 6, none⟩ y6).setCell ⟨B, 7, none⟩ y7).heap[B]? = some (.cells #[y0, y1, y2, y3, y4, y5, y6, y7, a8] T (0, 0)) := heap_setCell_same (((((((w.setCell ⟨B, 0, none⟩ y0).setCell ⟨B, 1, none⟩ y1).setCell ⟨B, 2, none⟩ y2).setCell ⟨B, 3, none⟩ y3).setCell ⟨B, 4, none⟩ y4).setCell ⟨B, 5, none⟩ y5).setCell ⟨B, 6, none⟩ y6) B 7 _ _ y7 h6
  have h8 : (((((((((w.setCell ⟨B, 0, none⟩ y0).setCell ⟨B, 1, none⟩ y1).setCell ⟨B, 2, none⟩ y2).setCell ⟨B, 3, none⟩ y3).setCell ⟨B, 4, none⟩ y4).setCell ⟨B, 5, none⟩ y5).setCell ⟨B, 6, none⟩ y6).setCell ⟨B, 7, none⟩ y7).setCell ⟨B, 8, none⟩ y8).heap[B]? = some (.cells #[y0, y1, y2, y3, y4, y5, y6, y7, y8] T (0, 0)) := heap_setCell_same ((((((((w.setCell ⟨B, 0, none⟩ y0).setCell ⟨B, 1, none⟩ y1).setCell ⟨B, 2, none⟩ y2).setCell ⟨B, 3, none⟩ y3).setCell ⟨B, 4, none⟩ y4).setCell ⟨B, 5, none⟩ y5).setCell ⟨B, 6, none⟩ y6).setCell ⟨B, 7, none⟩ y7) B 8 _ _ y8 h7
  exact h8
theorem Blk.set {B : Nat} {m' : Mg} {w : World} (h : Blk B m' w) (k c e r s d : Int) (o : Value) (t : ByteArray) (n : Value) : Blk B ⟨k, c, e, r, s, d, o, t, n⟩ (((((((((w.setCell ⟨B, 0, none⟩ (.int .i64 k)).setCell ⟨B, 1, none⟩ (.int .i64 c)).setCell ⟨B, 2, none⟩ (.int .i64 e)).setCell ⟨B, 3, none⟩ (.int .i64 r)).setCell ⟨B, 4, none⟩ (.int .i64 s)).setCell ⟨B, 5, none⟩ (.int .i64 d)).setCell ⟨B, 6, none⟩ o).setCell ⟨B, 7, none⟩ (.string t)).setCell ⟨B, 8, none⟩ n) := set9 h _ _ _ _ _ _ _ _ _
theorem below_set9 {B0 : Nat} {a w : World} (h : Below B0 a w) {B : Nat} (hq : B0 ≤ B) (y0 y1 y2 y3 y4 y5 y6 y7 y8 : Value) : Below B0 a (((((((((w.setCell ⟨B, 0, none⟩ y0).setCell ⟨B, 1, none⟩ y1).setCell ⟨B, 2, none⟩ y2).setCell ⟨B, 3, none⟩ y3).setCell ⟨B, 4, none⟩ y4).setCell ⟨B, 5, none⟩ y5).setCell ⟨B, 6, none⟩ y6).setCell ⟨B, 7, none⟩ y7).setCell ⟨B, 8, none⟩ y8) :=
  ((((((((h.setCell (p := ⟨B, 0, none⟩) hq y0).setCell (p := ⟨B, 1, none⟩) hq y1).setCell (p := ⟨B, 2, none⟩) hq y2).setCell (p := ⟨B, 3, none⟩) hq y3).setCell (p := ⟨B, 4, none⟩) hq y4).setCell (p := ⟨B, 5, none⟩) hq y5).setCell (p := ⟨B, 6, none⟩) hq y6).setCell (p := ⟨B, 7, none⟩) hq y7).setCell (p := ⟨B, 8, none⟩) hq y8
end Go.Proofs.Ytjbnffadfohofaa.MsgA
end
-- MERGED YtjbnffadfohofaaMsgB
section
/- message.without: written by gen_without.py. -/
namespace Go.Proofs.Ytjbnffadfohofaa.MsgB
open Go.RowKit Go.Proofs.Ytjbnffadfohofaa.P Go.Proofs.YtjbnffadfohofaaW.PrintWords Go.Proofs.YtjbnffadfohofaaW.PrintLast Go.Proofs.YtjbnffadfohofaaW.PrintMore Go.Proofs.Ytjbnffadfohofaa.Own Go.Proofs.Ytjbnffadfohofaa.MsgA
set_option linter.unusedSimpArgs false
set_option linter.unusedVariables false

set_option maxHeartbeats 8000000 in
set_option maxRecDepth 100000 in
theorem without_0 (m : Mg) (go gn : Bool) (w : World) (ho : ∃ A n c, m.o = .slice A n c) (hn : ∃ A n c, m.n = .slice A n c) : Calls Try.prog 38 #[m.val, .int .i64 0] w fun e w' => e = .returned (.tuple #[(m.strip 0).val, .bool (m.ok go gn 0)]) ∧ Below w.heap.size w w' := by
  obtain ⟨k, c, e, r, s, d, o, t, n⟩ := m
  obtain ⟨Ao, no, co, rfl⟩ := ho
  obtain ⟨An, nn, cn, rfl⟩ := hn
  obtain ⟨B, hB⟩ : ∃ B, B = w.heap.size := ⟨_, rfl⟩
  obtain ⟨w2, hw2⟩ : ∃ w2, w2 = (w.alloc (.cells #[.int .i64 k, .int .i64 c, .int .i64 e, .int .i64 r, .int .i64 s, .int .i64 d, (.slice Ao no co), .string t, (.slice An nn cn)] 60)).alloc (.cells #[.int .i64 0, .int .i64 0, .int .i64 0, .int .i64 0, .int .i64 0, .int .i64 0, .slice none 0 0, .string ⟨#[]⟩, .slice none 0 0] 60) := ⟨_, rfl⟩
  have HBB0 := Aside0.mk (show Blk B ⟨k, c, e, r, s, d, (.slice Ao no co), t, (.slice An nn cn)⟩ w2 by unfold Blk; rw [hw2, hB, Own.heap_old _ _ _ (by simp)]; exact Own.heap_new _ _)
  have HZZ0 := Aside0.mk (show Blk (B + 1) ⟨0, 0, 0, 0, 0, 0, .slice none 0 0, ⟨#[]⟩, .slice none 0 0⟩ w2 by unfold Blk; rw [hw2, hB]; have := Own.heap_new (w.alloc (.cells #[.int .i64 k, .int .i64 c, .int .i64 e, .int .i64 r, .int .i64 s, .int .i64 d, (.slice Ao no co), .string t, (.slice An nn cn)] 60)) (.cells #[.int .i64 0, .int .i64 0, .int .i64 0, .int .i64 0, .int .i64 0, .int .i64 0, .slice none 0 0, .string ⟨#[]⟩, .slice none 0 0] 60); rwa [World.size_alloc] at this)
  have HLO0 := Aside0.mk (show Below w.heap.size w w2 by rw [hw2]; exact below_alloc (below_alloc (Below.refl _ _) _) _)
  have HW2 := Aside0.mk hw2
  have HBE := Aside0.mk hB
  clear hw2 hB
  go_enter Try.func38, Try.ntmps38
  unfold Mg.val Mg.cs
  go_wp2_with fail
  rw [← HBE.out, ← HW2.out]
  refine (num_c B 0 (by decide) _).mono ?_
  rintro e1 w3 ⟨rfl, rfl⟩
  have HBB := HBB0
  have HZZ := HZZ0
  have HLO := HLO0
  obtain ⟨⟨x0, x1, x2, x3, x4, x5⟩, x6, x7, x8⟩ := HBB.out.cells
  have f0 := HBB.out.fz 1
  clear HBB0 HZZ0 HLO0 HW2
  unfold most
  by_cases h1 : 0 ≤ c
  · obtain ⟨w9, hw9⟩ : ∃ w9, w9 = w3.setCell ⟨B, 1, none⟩ (.int .i64 0) := ⟨_, rfl⟩
    have HW3 := Aside0.mk hw9
    have b3 : Blk B ⟨k, 0, e, r, s, d, (.slice Ao no co), t, (.slice An nn cn)⟩ w9 := by rw [hw9]; exact HBB.out.strip0 (f := 0) (by decide)
    have z3 : Blk (B + 1) ⟨0, 0, 0, 0, 0, 0, .slice none 0 0, ⟨#[]⟩, .slice none 0 0⟩ w9 := by rw [hw9]; exact (heap_setCell_other w3 ⟨B, 1, none⟩ (B + 1) _ (by show B + 1 ≠ B; omega)).trans HZZ.out
    have HLO3 := Aside0.mk (show Below w.heap.size w w9 by rw [hw9]; exact HLO.out.setCell (p := ⟨B, 1, none⟩) (by have := HBE.out; show w.heap.size ≤ B; omega) _)
    have HZ3 := Aside0.mk z3
    clear hw9 x0 x2 x3 x4 x5 x6 x7 x8
    obtain ⟨⟨y0, y1, y2, y3, y4, y5⟩, y6, y7, y8⟩ := b3.cells
    obtain ⟨⟨z0, z1, z2, z3', z4, z5⟩, z6, z7, z8⟩ := z3.cells
    have g0 := z3.fz 0
    have g1 := z3.fz 1
    have g2 := z3.fz 2
    have g3 := z3.fz 3
    have g4 := z3.fz 4
    have g5 := z3.fz 5
    have g6 := z3.fz 6
    have g7 := z3.fz 7
    have g8 := z3.fz 8
    clear b3 z3
    go_wp2_with (first | rw [← HW3.out])
    refine bodyPost_ret (results_ct rfl _ _ (B + 1) 60 #[.int .i64 k, .int .i64 0, .int .i64 e, .int .i64 r, .int .i64 s, .int .i64 d, (.slice Ao no co), .string t, (.slice An nn cn)] (0, 0) _ rfl (HZ3.out.set k 0 e r s d (.slice Ao no co) t (.slice An nn cn)) Try.underlying60 rfl (by kernel_rfl)) rfl ?_
    exact ⟨by rw [show Mg.ok ⟨k, c, e, r, s, d, (.slice Ao no co), t, (.slice An nn cn)⟩ go gn 0 = decide (c ≤ 63) from by unfold Mg.ok Mg.get most; simp [h1]]; rfl, below_set9 HLO3.out (by have := HBE.out; omega) _ _ _ _ _ _ _ _ _⟩
  · obtain ⟨w9, hw9⟩ : ∃ w9, w9 = w3.setCell ⟨B, 1, none⟩ (.int .i64 0) := ⟨_, rfl⟩
    have HW3 := Aside0.mk hw9
    have b3 : Blk B ⟨k, 0, e, r, s, d, (.slice Ao no co), t, (.slice An nn cn)⟩ w9 := by rw [hw9]; exact HBB.out.strip0 (f := 0) (by decide)
    have z3 : Blk (B + 1) ⟨0, 0, 0, 0, 0, 0, .slice none 0 0, ⟨#[]⟩, .slice none 0 0⟩ w9 := by rw [hw9]; exact (heap_setCell_other w3 ⟨B, 1, none⟩ (B + 1) _ (by show B + 1 ≠ B; omega)).trans HZZ.out
    have HLO3 := Aside0.mk (show Below w.heap.size w w9 by rw [hw9]; exact HLO.out.setCell (p := ⟨B, 1, none⟩) (by have := HBE.out; show w.heap.size ≤ B; omega) _)
    have HZ3 := Aside0.mk z3
    clear hw9 x0 x2 x3 x4 x5 x6 x7 x8
    obtain ⟨⟨y0, y1, y2, y3, y4, y5⟩, y6, y7, y8⟩ := b3.cells
    obtain ⟨⟨z0, z1, z2, z3', z4, z5⟩, z6, z7, z8⟩ := z3.cells
    have g0 := z3.fz 0
    have g1 := z3.fz 1
    have g2 := z3.fz 2
    have g3 := z3.fz 3
    have g4 := z3.fz 4
    have g5 := z3.fz 5
    have g6 := z3.fz 6
    have g7 := z3.fz 7
    have g8 := z3.fz 8
    clear b3 z3
    go_wp2_with (first | rw [← HW3.out])
    refine bodyPost_ret (results_ct rfl _ _ (B + 1) 60 #[.int .i64 k, .int .i64 0, .int .i64 e, .int .i64 r, .int .i64 s, .int .i64 d, (.slice Ao no co), .string t, (.slice An nn cn)] (0, 0) _ rfl (HZ3.out.set k 0 e r s d (.slice Ao no co) t (.slice An nn cn)) Try.underlying60 rfl (by kernel_rfl)) rfl ?_
    exact ⟨by rw [show Mg.ok ⟨k, c, e, r, s, d, (.slice Ao no co), t, (.slice An nn cn)⟩ go gn 0 = false from by unfold Mg.ok Mg.get most; simp; omega]; rfl, below_set9 HLO3.out (by have := HBE.out; omega) _ _ _ _ _ _ _ _ _⟩
set_option maxHeartbeats 8000000 in
set_option maxRecDepth 100000 in
theorem without_1 (m : Mg) (go gn : Bool) (w : World) (ho : ∃ A n c, m.o = .slice A n c) (hn : ∃ A n c, m.n = .slice A n c) : Calls Try.prog 38 #[m.val, .int .i64 1] w fun e w' => e = .returned (.tuple #[(m.strip 1).val, .bool (m.ok go gn 1)]) ∧ Below w.heap.size w w' := by
  obtain ⟨k, c, e, r, s, d, o, t, n⟩ := m
  obtain ⟨Ao, no, co, rfl⟩ := ho
  obtain ⟨An, nn, cn, rfl⟩ := hn
  obtain ⟨B, hB⟩ : ∃ B, B = w.heap.size := ⟨_, rfl⟩
  obtain ⟨w2, hw2⟩ : ∃ w2, w2 = (w.alloc (.cells #[.int .i64 k, .int .i64 c, .int .i64 e, .int .i64 r, .int .i64 s, .int .i64 d, (.slice Ao no co), .string t, (.slice An nn cn)] 60)).alloc (.cells #[.int .i64 0, .int .i64 0, .int .i64 0, .int .i64 0, .int .i64 0, .int .i64 0, .slice none 0 0, .string ⟨#[]⟩, .slice none 0 0] 60) := ⟨_, rfl⟩
  have HBB0 := Aside0.mk (show Blk B ⟨k, c, e, r, s, d, (.slice Ao no co), t, (.slice An nn cn)⟩ w2 by unfold Blk; rw [hw2, hB, Own.heap_old _ _ _ (by simp)]; exact Own.heap_new _ _)
  have HZZ0 := Aside0.mk (show Blk (B + 1) ⟨0, 0, 0, 0, 0, 0, .slice none 0 0, ⟨#[]⟩, .slice none 0 0⟩ w2 by unfold Blk; rw [hw2, hB]; have := Own.heap_new (w.alloc (.cells #[.int .i64 k, .int .i64 c, .int .i64 e, .int .i64 r, .int .i64 s, .int .i64 d, (.slice Ao no co), .string t, (.slice An nn cn)] 60)) (.cells #[.int .i64 0, .int .i64 0, .int .i64 0, .int .i64 0, .int .i64 0, .int .i64 0, .slice none 0 0, .string ⟨#[]⟩, .slice none 0 0] 60); rwa [World.size_alloc] at this)
  have HLO0 := Aside0.mk (show Below w.heap.size w w2 by rw [hw2]; exact below_alloc (below_alloc (Below.refl _ _) _) _)
  have HW2 := Aside0.mk hw2
  have HBE := Aside0.mk hB
  clear hw2 hB
  go_enter Try.func38, Try.ntmps38
  unfold Mg.val Mg.cs
  go_wp2_with fail
  rw [← HBE.out, ← HW2.out]
  refine (num_c B 1 (by decide) _).mono ?_
  rintro e1 w3 ⟨rfl, rfl⟩
  have HBB := HBB0
  have HZZ := HZZ0
  have HLO := HLO0
  obtain ⟨⟨x0, x1, x2, x3, x4, x5⟩, x6, x7, x8⟩ := HBB.out.cells
  have f0 := HBB.out.fz 2
  clear HBB0 HZZ0 HLO0 HW2
  unfold most
  by_cases h1 : 0 ≤ e
  · obtain ⟨w9, hw9⟩ : ∃ w9, w9 = w3.setCell ⟨B, 2, none⟩ (.int .i64 0) := ⟨_, rfl⟩
    have HW3 := Aside0.mk hw9
    have b3 : Blk B ⟨k, c, 0, r, s, d, (.slice Ao no co), t, (.slice An nn cn)⟩ w9 := by rw [hw9]; exact HBB.out.strip0 (f := 1) (by decide)
    have z3 : Blk (B + 1) ⟨0, 0, 0, 0, 0, 0, .slice none 0 0, ⟨#[]⟩, .slice none 0 0⟩ w9 := by rw [hw9]; exact (heap_setCell_other w3 ⟨B, 2, none⟩ (B + 1) _ (by show B + 1 ≠ B; omega)).trans HZZ.out
    have HLO3 := Aside0.mk (show Below w.heap.size w w9 by rw [hw9]; exact HLO.out.setCell (p := ⟨B, 2, none⟩) (by have := HBE.out; show w.heap.size ≤ B; omega) _)
    have HZ3 := Aside0.mk z3
    clear hw9 x0 x1 x3 x4 x5 x6 x7 x8
    obtain ⟨⟨y0, y1, y2, y3, y4, y5⟩, y6, y7, y8⟩ := b3.cells
    obtain ⟨⟨z0, z1, z2, z3', z4, z5⟩, z6, z7, z8⟩ := z3.cells
    have g0 := z3.fz 0
    have g1 := z3.fz 1
    have g2 := z3.fz 2
    have g3 := z3.fz 3
    have g4 := z3.fz 4
    have g5 := z3.fz 5
    have g6 := z3.fz 6
    have g7 := z3.fz 7
    have g8 := z3.fz 8
    clear b3 z3
    go_wp2_with (first | rw [← HW3.out])
    refine bodyPost_ret (results_ct rfl _ _ (B + 1) 60 #[.int .i64 k, .int .i64 c, .int .i64 0, .int .i64 r, .int .i64 s, .int .i64 d, (.slice Ao no co), .string t, (.slice An nn cn)] (0, 0) _ rfl (HZ3.out.set k c 0 r s d (.slice Ao no co) t (.slice An nn cn)) Try.underlying60 rfl (by kernel_rfl)) rfl ?_
    exact ⟨by rw [show Mg.ok ⟨k, c, e, r, s, d, (.slice Ao no co), t, (.slice An nn cn)⟩ go gn 1 = decide (e ≤ 4611686018427387904) from by unfold Mg.ok Mg.get most; simp [h1]]; rfl, below_set9 HLO3.out (by have := HBE.out; omega) _ _ _ _ _ _ _ _ _⟩
  · obtain ⟨w9, hw9⟩ : ∃ w9, w9 = w3.setCell ⟨B, 2, none⟩ (.int .i64 0) := ⟨_, rfl⟩
    have HW3 := Aside0.mk hw9
    have b3 : Blk B ⟨k, c, 0, r, s, d, (.slice Ao no co), t, (.slice An nn cn)⟩ w9 := by rw [hw9]; exact HBB.out.strip0 (f := 1) (by decide)
    have z3 : Blk (B + 1) ⟨0, 0, 0, 0, 0, 0, .slice none 0 0, ⟨#[]⟩, .slice none 0 0⟩ w9 := by rw [hw9]; exact (heap_setCell_other w3 ⟨B, 2, none⟩ (B + 1) _ (by show B + 1 ≠ B; omega)).trans HZZ.out
    have HLO3 := Aside0.mk (show Below w.heap.size w w9 by rw [hw9]; exact HLO.out.setCell (p := ⟨B, 2, none⟩) (by have := HBE.out; show w.heap.size ≤ B; omega) _)
    have HZ3 := Aside0.mk z3
    clear hw9 x0 x1 x3 x4 x5 x6 x7 x8
    obtain ⟨⟨y0, y1, y2, y3, y4, y5⟩, y6, y7, y8⟩ := b3.cells
    obtain ⟨⟨z0, z1, z2, z3', z4, z5⟩, z6, z7, z8⟩ := z3.cells
    have g0 := z3.fz 0
    have g1 := z3.fz 1
    have g2 := z3.fz 2
    have g3 := z3.fz 3
    have g4 := z3.fz 4
    have g5 := z3.fz 5
    have g6 := z3.fz 6
    have g7 := z3.fz 7
    have g8 := z3.fz 8
    clear b3 z3
    go_wp2_with (first | rw [← HW3.out])
    refine bodyPost_ret (results_ct rfl _ _ (B + 1) 60 #[.int .i64 k, .int .i64 c, .int .i64 0, .int .i64 r, .int .i64 s, .int .i64 d, (.slice Ao no co), .string t, (.slice An nn cn)] (0, 0) _ rfl (HZ3.out.set k c 0 r s d (.slice Ao no co) t (.slice An nn cn)) Try.underlying60 rfl (by kernel_rfl)) rfl ?_
    exact ⟨by rw [show Mg.ok ⟨k, c, e, r, s, d, (.slice Ao no co), t, (.slice An nn cn)⟩ go gn 1 = false from by unfold Mg.ok Mg.get most; simp; omega]; rfl, below_set9 HLO3.out (by have := HBE.out; omega) _ _ _ _ _ _ _ _ _⟩
set_option maxHeartbeats 8000000 in
set_option maxRecDepth 100000 in
theorem without_2 (m : Mg) (go gn : Bool) (w : World) (ho : ∃ A n c, m.o = .slice A n c) (hn : ∃ A n c, m.n = .slice A n c) : Calls Try.prog 38 #[m.val, .int .i64 2] w fun e w' => e = .returned (.tuple #[(m.strip 2).val, .bool (m.ok go gn 2)]) ∧ Below w.heap.size w w' := by
  obtain ⟨k, c, e, r, s, d, o, t, n⟩ := m
  obtain ⟨Ao, no, co, rfl⟩ := ho
  obtain ⟨An, nn, cn, rfl⟩ := hn
  obtain ⟨B, hB⟩ : ∃ B, B = w.heap.size := ⟨_, rfl⟩
  obtain ⟨w2, hw2⟩ : ∃ w2, w2 = (w.alloc (.cells #[.int .i64 k, .int .i64 c, .int .i64 e, .int .i64 r, .int .i64 s, .int .i64 d, (.slice Ao no co), .string t, (.slice An nn cn)] 60)).alloc (.cells #[.int .i64 0, .int .i64 0, .int .i64 0, .int .i64 0, .int .i64 0, .int .i64 0, .slice none 0 0, .string ⟨#[]⟩, .slice none 0 0] 60) := ⟨_, rfl⟩
  have HBB0 := Aside0.mk (show Blk B ⟨k, c, e, r, s, d, (.slice Ao no co), t, (.slice An nn cn)⟩ w2 by unfold Blk; rw [hw2, hB, Own.heap_old _ _ _ (by simp)]; exact Own.heap_new _ _)
  have HZZ0 := Aside0.mk (show Blk (B + 1) ⟨0, 0, 0, 0, 0, 0, .slice none 0 0, ⟨#[]⟩, .slice none 0 0⟩ w2 by unfold Blk; rw [hw2, hB]; have := Own.heap_new (w.alloc (.cells #[.int .i64 k, .int .i64 c, .int .i64 e, .int .i64 r, .int .i64 s, .int .i64 d, (.slice Ao no co), .string t, (.slice An nn cn)] 60)) (.cells #[.int .i64 0, .int .i64 0, .int .i64 0, .int .i64 0, .int .i64 0, .int .i64 0, .slice none 0 0, .string ⟨#[]⟩, .slice none 0 0] 60); rwa [World.size_alloc] at this)
  have HLO0 := Aside0.mk (show Below w.heap.size w w2 by rw [hw2]; exact below_alloc (below_alloc (Below.refl _ _) _) _)
  have HW2 := Aside0.mk hw2
  have HBE := Aside0.mk hB
  clear hw2 hB
  go_enter Try.func38, Try.ntmps38
  unfold Mg.val Mg.cs
  go_wp2_with fail
  rw [← HBE.out, ← HW2.out]
  refine (num_c B 2 (by decide) _).mono ?_
  rintro e1 w3 ⟨rfl, rfl⟩
  have HBB := HBB0
  have HZZ := HZZ0
  have HLO := HLO0
  obtain ⟨⟨x0, x1, x2, x3, x4, x5⟩, x6, x7, x8⟩ := HBB.out.cells
  have f0 := HBB.out.fz 3
  clear HBB0 HZZ0 HLO0 HW2
  unfold most
  by_cases h1 : 0 ≤ r
  · obtain ⟨w9, hw9⟩ : ∃ w9, w9 = w3.setCell ⟨B, 3, none⟩ (.int .i64 0) := ⟨_, rfl⟩
    have HW3 := Aside0.mk hw9
    have b3 : Blk B ⟨k, c, e, 0, s, d, (.slice Ao no co), t, (.slice An nn cn)⟩ w9 := by rw [hw9]; exact HBB.out.strip0 (f := 2) (by decide)
    have z3 : Blk (B + 1) ⟨0, 0, 0, 0, 0, 0, .slice none 0 0, ⟨#[]⟩, .slice none 0 0⟩ w9 := by rw [hw9]; exact (heap_setCell_other w3 ⟨B, 3, none⟩ (B + 1) _ (by show B + 1 ≠ B; omega)).trans HZZ.out
    have HLO3 := Aside0.mk (show Below w.heap.size w w9 by rw [hw9]; exact HLO.out.setCell (p := ⟨B, 3, none⟩) (by have := HBE.out; show w.heap.size ≤ B; omega) _)
    have HZ3 := Aside0.mk z3
    clear hw9 x0 x1 x2 x4 x5 x6 x7 x8
    obtain ⟨⟨y0, y1, y2, y3, y4, y5⟩, y6, y7, y8⟩ := b3.cells
    obtain ⟨⟨z0, z1, z2, z3', z4, z5⟩, z6, z7, z8⟩ := z3.cells
    have g0 := z3.fz 0
    have g1 := z3.fz 1
    have g2 := z3.fz 2
    have g3 := z3.fz 3
    have g4 := z3.fz 4
    have g5 := z3.fz 5
    have g6 := z3.fz 6
    have g7 := z3.fz 7
    have g8 := z3.fz 8
    clear b3 z3
    go_wp2_with (first | rw [← HW3.out])
    refine bodyPost_ret (results_ct rfl _ _ (B + 1) 60 #[.int .i64 k, .int .i64 c, .int .i64 e, .int .i64 0, .int .i64 s, .int .i64 d, (.slice Ao no co), .string t, (.slice An nn cn)] (0, 0) _ rfl (HZ3.out.set k c e 0 s d (.slice Ao no co) t (.slice An nn cn)) Try.underlying60 rfl (by kernel_rfl)) rfl ?_
    exact ⟨by rw [show Mg.ok ⟨k, c, e, r, s, d, (.slice Ao no co), t, (.slice An nn cn)⟩ go gn 2 = decide (r ≤ 4611686018427387904) from by unfold Mg.ok Mg.get most; simp [h1]]; rfl, below_set9 HLO3.out (by have := HBE.out; omega) _ _ _ _ _ _ _ _ _⟩
  · obtain ⟨w9, hw9⟩ : ∃ w9, w9 = w3.setCell ⟨B, 3, none⟩ (.int .i64 0) := ⟨_, rfl⟩
    have HW3 := Aside0.mk hw9
    have b3 : Blk B ⟨k, c, e, 0, s, d, (.slice Ao no co), t, (.slice An nn cn)⟩ w9 := by rw [hw9]; exact HBB.out.strip0 (f := 2) (by decide)
    have z3 : Blk (B + 1) ⟨0, 0, 0, 0, 0, 0, .slice none 0 0, ⟨#[]⟩, .slice none 0 0⟩ w9 := by rw [hw9]; exact (heap_setCell_other w3 ⟨B, 3, none⟩ (B + 1) _ (by show B + 1 ≠ B; omega)).trans HZZ.out
    have HLO3 := Aside0.mk (show Below w.heap.size w w9 by rw [hw9]; exact HLO.out.setCell (p := ⟨B, 3, none⟩) (by have := HBE.out; show w.heap.size ≤ B; omega) _)
    have HZ3 := Aside0.mk z3
    clear hw9 x0 x1 x2 x4 x5 x6 x7 x8
    obtain ⟨⟨y0, y1, y2, y3, y4, y5⟩, y6, y7, y8⟩ := b3.cells
    obtain ⟨⟨z0, z1, z2, z3', z4, z5⟩, z6, z7, z8⟩ := z3.cells
    have g0 := z3.fz 0
    have g1 := z3.fz 1
    have g2 := z3.fz 2
    have g3 := z3.fz 3
    have g4 := z3.fz 4
    have g5 := z3.fz 5
    have g6 := z3.fz 6
    have g7 := z3.fz 7
    have g8 := z3.fz 8
    clear b3 z3
    go_wp2_with (first | rw [← HW3.out])
    refine bodyPost_ret (results_ct rfl _ _ (B + 1) 60 #[.int .i64 k, .int .i64 c, .int .i64 e, .int .i64 0, .int .i64 s, .int .i64 d, (.slice Ao no co), .string t, (.slice An nn cn)] (0, 0) _ rfl (HZ3.out.set k c e 0 s d (.slice Ao no co) t (.slice An nn cn)) Try.underlying60 rfl (by kernel_rfl)) rfl ?_
    exact ⟨by rw [show Mg.ok ⟨k, c, e, r, s, d, (.slice Ao no co), t, (.slice An nn cn)⟩ go gn 2 = false from by unfold Mg.ok Mg.get most; simp; omega]; rfl, below_set9 HLO3.out (by have := HBE.out; omega) _ _ _ _ _ _ _ _ _⟩
set_option maxHeartbeats 8000000 in
set_option maxRecDepth 100000 in
theorem without_3 (m : Mg) (go gn : Bool) (w : World) (ho : ∃ A n c, m.o = .slice A n c) (hn : ∃ A n c, m.n = .slice A n c) : Calls Try.prog 38 #[m.val, .int .i64 3] w fun e w' => e = .returned (.tuple #[(m.strip 3).val, .bool (m.ok go gn 3)]) ∧ Below w.heap.size w w' := by
  obtain ⟨k, c, e, r, s, d, o, t, n⟩ := m
  obtain ⟨Ao, no, co, rfl⟩ := ho
  obtain ⟨An, nn, cn, rfl⟩ := hn
  obtain ⟨B, hB⟩ : ∃ B, B = w.heap.size := ⟨_, rfl⟩
  obtain ⟨w2, hw2⟩ : ∃ w2, w2 = (w.alloc (.cells #[.int .i64 k, .int .i64 c, .int .i64 e, .int .i64 r, .int .i64 s, .int .i64 d, (.slice Ao no co), .string t, (.slice An nn cn)] 60)).alloc (.cells #[.int .i64 0, .int .i64 0, .int .i64 0, .int .i64 0, .int .i64 0, .int .i64 0, .slice none 0 0, .string ⟨#[]⟩, .slice none 0 0] 60) := ⟨_, rfl⟩
  have HBB0 := Aside0.mk (show Blk B ⟨k, c, e, r, s, d, (.slice Ao no co), t, (.slice An nn cn)⟩ w2 by unfold Blk; rw [hw2, hB, Own.heap_old _ _ _ (by simp)]; exact Own.heap_new _ _)
  have HZZ0 := Aside0.mk (show Blk (B + 1) ⟨0, 0, 0, 0, 0, 0, .slice none 0 0, ⟨#[]⟩, .slice none 0 0⟩ w2 by unfold Blk; rw [hw2, hB]; have := Own.heap_new (w.alloc (.cells #[.int .i64 k, .int .i64 c, .int .i64 e, .int .i64 r, .int .i64 s, .int .i64 d, (.slice Ao no co), .string t, (.slice An nn cn)] 60)) (.cells #[.int .i64 0, .int .i64 0, .int .i64 0, .int .i64 0, .int .i64 0, .int .i64 0, .slice none 0 0, .string ⟨#[]⟩, .slice none 0 0] 60); rwa [World.size_alloc] at this)
  have HLO0 := Aside0.mk (show Below w.heap.size w w2 by rw [hw2]; exact below_alloc (below_alloc (Below.refl _ _) _) _)
  have HW2 := Aside0.mk hw2
  have HBE := Aside0.mk hB
  clear hw2 hB
  go_enter Try.func38, Try.ntmps38
  unfold Mg.val Mg.cs
  go_wp2_with fail
  rw [← HBE.out, ← HW2.out]
  refine (num_c B 3 (by decide) _).mono ?_
  rintro e1 w3 ⟨rfl, rfl⟩
  have HBB := HBB0
  have HZZ := HZZ0
  have HLO := HLO0
  obtain ⟨⟨x0, x1, x2, x3, x4, x5⟩, x6, x7, x8⟩ := HBB.out.cells
  have f0 := HBB.out.fz 4
  clear HBB0 HZZ0 HLO0 HW2
  unfold most
  by_cases h1 : 0 ≤ s
  · obtain ⟨w9, hw9⟩ : ∃ w9, w9 = w3.setCell ⟨B, 4, none⟩ (.int .i64 0) := ⟨_, rfl⟩
    have HW3 := Aside0.mk hw9
    have b3 : Blk B ⟨k, c, e, r, 0, d, (.slice Ao no co), t, (.slice An nn cn)⟩ w9 := by rw [hw9]; exact HBB.out.strip0 (f := 3) (by decide)
    have z3 : Blk (B + 1) ⟨0, 0, 0, 0, 0, 0, .slice none 0 0, ⟨#[]⟩, .slice none 0 0⟩ w9 := by rw [hw9]; exact (heap_setCell_other w3 ⟨B, 4, none⟩ (B + 1) _ (by show B + 1 ≠ B; omega)).trans HZZ.out
    have HLO3 := Aside0.mk (show Below w.heap.size w w9 by rw [hw9]; exact HLO.out.setCell (p := ⟨B, 4, none⟩) (by have := HBE.out; show w.heap.size ≤ B; omega) _)
    have HZ3 := Aside0.mk z3
    clear hw9 x0 x1 x2 x3 x5 x6 x7 x8
    obtain ⟨⟨y0, y1, y2, y3, y4, y5⟩, y6, y7, y8⟩ := b3.cells
    obtain ⟨⟨z0, z1, z2, z3', z4, z5⟩, z6, z7, z8⟩ := z3.cells
    have g0 := z3.fz 0
    have g1 := z3.fz 1
    have g2 := z3.fz 2
    have g3 := z3.fz 3
    have g4 := z3.fz 4
    have g5 := z3.fz 5
    have g6 := z3.fz 6
    have g7 := z3.fz 7
    have g8 := z3.fz 8
    clear b3 z3
    go_wp2_with (first | rw [← HW3.out])
    refine bodyPost_ret (results_ct rfl _ _ (B + 1) 60 #[.int .i64 k, .int .i64 c, .int .i64 e, .int .i64 r, .int .i64 0, .int .i64 d, (.slice Ao no co), .string t, (.slice An nn cn)] (0, 0) _ rfl (HZ3.out.set k c e r 0 d (.slice Ao no co) t (.slice An nn cn)) Try.underlying60 rfl (by kernel_rfl)) rfl ?_
    exact ⟨by rw [show Mg.ok ⟨k, c, e, r, s, d, (.slice Ao no co), t, (.slice An nn cn)⟩ go gn 3 = decide (s ≤ 4611686018427387904) from by unfold Mg.ok Mg.get most; simp [h1]]; rfl, below_set9 HLO3.out (by have := HBE.out; omega) _ _ _ _ _ _ _ _ _⟩
  · obtain ⟨w9, hw9⟩ : ∃ w9, w9 = w3.setCell ⟨B, 4, none⟩ (.int .i64 0) := ⟨_, rfl⟩
    have HW3 := Aside0.mk hw9
    have b3 : Blk B ⟨k, c, e, r, 0, d, (.slice Ao no co), t, (.slice An nn cn)⟩ w9 := by rw [hw9]; exact HBB.out.strip0 (f := 3) (by decide)
    have z3 : Blk (B + 1) ⟨0, 0, 0, 0, 0, 0, .slice none 0 0, ⟨#[]⟩, .slice none 0 0⟩ w9 := by rw [hw9]; exact (heap_setCell_other w3 ⟨B, 4, none⟩ (B + 1) _ (by show B + 1 ≠ B; omega)).trans HZZ.out
    have HLO3 := Aside0.mk (show Below w.heap.size w w9 by rw [hw9]; exact HLO.out.setCell (p := ⟨B, 4, none⟩) (by have := HBE.out; show w.heap.size ≤ B; omega) _)
    have HZ3 := Aside0.mk z3
    clear hw9 x0 x1 x2 x3 x5 x6 x7 x8
    obtain ⟨⟨y0, y1, y2, y3, y4, y5⟩, y6, y7, y8⟩ := b3.cells
    obtain ⟨⟨z0, z1, z2, z3', z4, z5⟩, z6, z7, z8⟩ := z3.cells
    have g0 := z3.fz 0
    have g1 := z3.fz 1
    have g2 := z3.fz 2
    have g3 := z3.fz 3
    have g4 := z3.fz 4
    have g5 := z3.fz 5
    have g6 := z3.fz 6
    have g7 := z3.fz 7
    have g8 := z3.fz 8
    clear b3 z3
    go_wp2_with (first | rw [← HW3.out])
    refine bodyPost_ret (results_ct rfl _ _ (B + 1) 60 #[.int .i64 k, .int .i64 c, .int .i64 e, .int .i64 r, .int .i64 0, .int .i64 d, (.slice Ao no co), .string t, (.slice An nn cn)] (0, 0) _ rfl (HZ3.out.set k c e r 0 d (.slice Ao no co) t (.slice An nn cn)) Try.underlying60 rfl (by kernel_rfl)) rfl ?_
    exact ⟨by rw [show Mg.ok ⟨k, c, e, r, s, d, (.slice Ao no co), t, (.slice An nn cn)⟩ go gn 3 = false from by unfold Mg.ok Mg.get most; simp; omega]; rfl, below_set9 HLO3.out (by have := HBE.out; omega) _ _ _ _ _ _ _ _ _⟩
set_option maxHeartbeats 8000000 in
set_option maxRecDepth 100000 in
theorem without_4 (m : Mg) (go gn : Bool) (w : World) (ho : ∃ A n c, m.o = .slice A n c) (hn : ∃ A n c, m.n = .slice A n c) : Calls Try.prog 38 #[m.val, .int .i64 4] w fun e w' => e = .returned (.tuple #[(m.strip 4).val, .bool (m.ok go gn 4)]) ∧ Below w.heap.size w w' := by
  obtain ⟨k, c, e, r, s, d, o, t, n⟩ := m
  obtain ⟨Ao, no, co, rfl⟩ := ho
  obtain ⟨An, nn, cn, rfl⟩ := hn
  obtain ⟨B, hB⟩ : ∃ B, B = w.heap.size := ⟨_, rfl⟩
  obtain ⟨w2, hw2⟩ : ∃ w2, w2 = (w.alloc (.cells #[.int .i64 k, .int .i64 c, .int .i64 e, .int .i64 r, .int .i64 s, .int .i64 d, (.slice Ao no co), .string t, (.slice An nn cn)] 60)).alloc (.cells #[.int .i64 0, .int .i64 0, .int .i64 0, .int .i64 0, .int .i64 0, .int .i64 0, .slice none 0 0, .string ⟨#[]⟩, .slice none 0 0] 60) := ⟨_, rfl⟩
  have HBB0 := Aside0.mk (show Blk B ⟨k, c, e, r, s, d, (.slice Ao no co), t, (.slice An nn cn)⟩ w2 by unfold Blk; rw [hw2, hB, Own.heap_old _ _ _ (by simp)]; exact Own.heap_new _ _)
  have HZZ0 := Aside0.mk (show Blk (B + 1) ⟨0, 0, 0, 0, 0, 0, .slice none 0 0, ⟨#[]⟩, .slice none 0 0⟩ w2 by unfold Blk; rw [hw2, hB]; have := Own.heap_new (w.alloc (.cells #[.int .i64 k, .int .i64 c, .int .i64 e, .int .i64 r, .int .i64 s, .int .i64 d, (.slice Ao no co), .string t, (.slice An nn cn)] 60)) (.cells #[.int .i64 0, .int .i64 0, .int .i64 0, .int .i64 0, .int .i64 0, .int .i64 0, .slice none 0 0, .string ⟨#[]⟩, .slice none 0 0] 60); rwa [World.size_alloc] at this)
  have HLO0 := Aside0.mk (show Below w.heap.size w w2 by rw [hw2]; exact below_alloc (below_alloc (Below.refl _ _) _) _)
  have HW2 := Aside0.mk hw2
  have HBE := Aside0.mk hB
  clear hw2 hB
  go_enter Try.func38, Try.ntmps38
  unfold Mg.val Mg.cs
  go_wp2_with fail
  rw [← HBE.out, ← HW2.out]
  refine (num_c B 4 (by decide) _).mono ?_
  rintro e1 w3 ⟨rfl, rfl⟩
  have HBB := HBB0
  have HZZ := HZZ0
  have HLO := HLO0
  obtain ⟨⟨x0, x1, x2, x3, x4, x5⟩, x6, x7, x8⟩ := HBB.out.cells
  have f0 := HBB.out.fz 5
  clear HBB0 HZZ0 HLO0 HW2
  unfold most
  by_cases h1 : 0 ≤ d
  · obtain ⟨w9, hw9⟩ : ∃ w9, w9 = w3.setCell ⟨B, 5, none⟩ (.int .i64 0) := ⟨_, rfl⟩
    have HW3 := Aside0.mk hw9
    have b3 : Blk B ⟨k, c, e, r, s, 0, (.slice Ao no co), t, (.slice An nn cn)⟩ w9 := by rw [hw9]; exact HBB.out.strip0 (f := 4) (by decide)
    have z3 : Blk (B + 1) ⟨0, 0, 0, 0, 0, 0, .slice none 0 0, ⟨#[]⟩, .slice none 0 0⟩ w9 := by rw [hw9]; exact (heap_setCell_other w3 ⟨B, 5, none⟩ (B + 1) _ (by show B + 1 ≠ B; omega)).trans HZZ.out
    have HLO3 := Aside0.mk (show Below w.heap.size w w9 by rw [hw9]; exact HLO.out.setCell (p := ⟨B, 5, none⟩) (by have := HBE.out; show w.heap.size ≤ B; omega) _)
    have HZ3 := Aside0.mk z3
    clear hw9 x0 x1 x2 x3 x4 x6 x7 x8
    obtain ⟨⟨y0, y1, y2, y3, y4, y5⟩, y6, y7, y8⟩ := b3.cells
    obtain ⟨⟨z0, z1, z2, z3', z4, z5⟩, z6, z7, z8⟩ := z3.cells
    have g0 := z3.fz 0
    have g1 := z3.fz 1
    have g2 := z3.fz 2
    have g3 := z3.fz 3
    have g4 := z3.fz 4
    have g5 := z3.fz 5
    have g6 := z3.fz 6
    have g7 := z3.fz 7
    have g8 := z3.fz 8
    clear b3 z3
    go_wp2_with (first | rw [← HW3.out])
    refine bodyPost_ret (results_ct rfl _ _ (B + 1) 60 #[.int .i64 k, .int .i64 c, .int .i64 e, .int .i64 r, .int .i64 s, .int .i64 0, (.slice Ao no co), .string t, (.slice An nn cn)] (0, 0) _ rfl (HZ3.out.set k c e r s 0 (.slice Ao no co) t (.slice An nn cn)) Try.underlying60 rfl (by kernel_rfl)) rfl ?_
    exact ⟨by rw [show Mg.ok ⟨k, c, e, r, s, d, (.slice Ao no co), t, (.slice An nn cn)⟩ go gn 4 = decide (d ≤ 65536) from by unfold Mg.ok Mg.get most; simp [h1]]; rfl, below_set9 HLO3.out (by have := HBE.out; omega) _ _ _ _ _ _ _ _ _⟩
  · obtain ⟨w9, hw9⟩ : ∃ w9, w9 = w3.setCell ⟨B, 5, none⟩ (.int .i64 0) := ⟨_, rfl⟩
    have HW3 := Aside0.mk hw9
    have b3 : Blk B ⟨k, c, e, r, s, 0, (.slice Ao no co), t, (.slice An nn cn)⟩ w9 := by rw [hw9]; exact HBB.out.strip0 (f := 4) (by decide)
    have z3 : Blk (B + 1) ⟨0, 0, 0, 0, 0, 0, .slice none 0 0, ⟨#[]⟩, .slice none 0 0⟩ w9 := by rw [hw9]; exact (heap_setCell_other w3 ⟨B, 5, none⟩ (B + 1) _ (by show B + 1 ≠ B; omega)).trans HZZ.out
    have HLO3 := Aside0.mk (show Below w.heap.size w w9 by rw [hw9]; exact HLO.out.setCell (p := ⟨B, 5, none⟩) (by have := HBE.out; show w.heap.size ≤ B; omega) _)
    have HZ3 := Aside0.mk z3
    clear hw9 x0 x1 x2 x3 x4 x6 x7 x8
    obtain ⟨⟨y0, y1, y2, y3, y4, y5⟩, y6, y7, y8⟩ := b3.cells
    obtain ⟨⟨z0, z1, z2, z3', z4, z5⟩, z6, z7, z8⟩ := z3.cells
    have g0 := z3.fz 0
    have g1 := z3.fz 1
    have g2 := z3.fz 2
    have g3 := z3.fz 3
    have g4 := z3.fz 4
    have g5 := z3.fz 5
    have g6 := z3.fz 6
    have g7 := z3.fz 7
    have g8 := z3.fz 8
    clear b3 z3
    go_wp2_with (first | rw [← HW3.out])
    refine bodyPost_ret (results_ct rfl _ _ (B + 1) 60 #[.int .i64 k, .int .i64 c, .int .i64 e, .int .i64 r, .int .i64 s, .int .i64 0, (.slice Ao no co), .string t, (.slice An nn cn)] (0, 0) _ rfl (HZ3.out.set k c e r s 0 (.slice Ao no co) t (.slice An nn cn)) Try.underlying60 rfl (by kernel_rfl)) rfl ?_
    exact ⟨by rw [show Mg.ok ⟨k, c, e, r, s, d, (.slice Ao no co), t, (.slice An nn cn)⟩ go gn 4 = false from by unfold Mg.ok Mg.get most; simp; omega]; rfl, below_set9 HLO3.out (by have := HBE.out; omega) _ _ _ _ _ _ _ _ _⟩
set_option maxHeartbeats 8000000 in
set_option maxRecDepth 100000 in
theorem without_5 (m : Mg) (go gn : Bool) (w : World) (ho : ∃ A n c, m.o = .slice A n c) (hn : ∃ A n c, m.n = .slice A n c) (HG : ∀ W, Below w.heap.size w W → Calls Try.prog 30 #[m.o] W fun e W' => e = .returned (.bool go) ∧ Below W.heap.size W W') : Calls Try.prog 38 #[m.val, .int .i64 5] w fun e w' => e = .returned (.tuple #[(m.strip 5).val, .bool (m.ok go gn 5)]) ∧ Below w.heap.size w w' := by
  obtain ⟨k, c, e, r, s, d, o, t, n⟩ := m
  obtain ⟨Ao, no, co, rfl⟩ := ho
  obtain ⟨An, nn, cn, rfl⟩ := hn
  obtain ⟨B, hB⟩ : ∃ B, B = w.heap.size := ⟨_, rfl⟩
  obtain ⟨w2, hw2⟩ : ∃ w2, w2 = (w.alloc (.cells #[.int .i64 k, .int .i64 c, .int .i64 e, .int .i64 r, .int .i64 s, .int .i64 d, (.slice Ao no co), .string t, (.slice An nn cn)] 60)).alloc (.cells #[.int .i64 0, .int .i64 0, .int .i64 0, .int .i64 0, .int .i64 0, .int .i64 0, .slice none 0 0, .string ⟨#[]⟩, .slice none 0 0] 60) := ⟨_, rfl⟩
  have HBB0 := Aside0.mk (show Blk B ⟨k, c, e, r, s, d, (.slice Ao no co), t, (.slice An nn cn)⟩ w2 by unfold Blk; rw [hw2, hB, Own.heap_old _ _ _ (by simp)]; exact Own.heap_new _ _)
  have HZZ0 := Aside0.mk (show Blk (B + 1) ⟨0, 0, 0, 0, 0, 0, .slice none 0 0, ⟨#[]⟩, .slice none 0 0⟩ w2 by unfold Blk; rw [hw2, hB]; have := Own.heap_new (w.alloc (.cells #[.int .i64 k, .int .i64 c, .int .i64 e, .int .i64 r, .int .i64 s, .int .i64 d, (.slice Ao no co), .string t, (.slice An nn cn)] 60)) (.cells #[.int .i64 0, .int .i64 0, .int .i64 0, .int .i64 0, .int .i64 0, .int .i64 0, .slice none 0 0, .string ⟨#[]⟩, .slice none 0 0] 60); rwa [World.size_alloc] at this)
  have HLO0 := Aside0.mk (show Below w.heap.size w w2 by rw [hw2]; exact below_alloc (below_alloc (Below.refl _ _) _) _)
  have HW2 := Aside0.mk hw2
  have HBE := Aside0.mk hB
  clear hw2 hB
  have HGA := Aside0.mk HG
  clear HG
  go_enter Try.func38, Try.ntmps38
  unfold Mg.val Mg.cs
  have HBB := HBB0
  have HZZ := HZZ0
  have HLO := HLO0
  obtain ⟨⟨x0, x1, x2, x3, x4, x5⟩, x6, x7, x8⟩ := HBB.out.cells
  have f0 := HBB.out.fz 6
  go_wp2_with (first | rw [← HBE.out, ← HW2.out])
  clear x0 x1 x2 x3 x4 x5 x6 x7 x8 f0 HBB HZZ HLO
  refine (HGA.out w2 HLO0.out).mono ?_
  rintro e1 w4 ⟨rfl, hb⟩
  have HBB := Aside0.mk (HBB0.out.below hb)
  have HZZ := Aside0.mk (HZZ0.out.below hb)
  have HLO := Aside0.mk (below_step HLO0.out hb)
  obtain ⟨⟨x0, x1, x2, x3, x4, x5⟩, x6, x7, x8⟩ := HBB.out.cells
  have f0 := HBB.out.fz 6
  clear HBB0 HZZ0 HLO0 HW2 hb HGA
  obtain ⟨w9, hw9⟩ : ∃ w9, w9 = w4.setCell ⟨B, 6, none⟩ (.slice none 0 0) := ⟨_, rfl⟩
  have HW3 := Aside0.mk hw9
  have b3 : Blk B ⟨k, c, e, r, s, d, (.slice none 0 0), t, (.slice An nn cn)⟩ w9 := by rw [hw9]; exact HBB.out.strip5
  have z3 : Blk (B + 1) ⟨0, 0, 0, 0, 0, 0, .slice none 0 0, ⟨#[]⟩, .slice none 0 0⟩ w9 := by rw [hw9]; exact (heap_setCell_other w4 ⟨B, 6, none⟩ (B + 1) _ (by show B + 1 ≠ B; omega)).trans HZZ.out
  have HLO3 := Aside0.mk (show Below w.heap.size w w9 by rw [hw9]; exact HLO.out.setCell (p := ⟨B, 6, none⟩) (by have := HBE.out; show w.heap.size ≤ B; omega) _)
  have HZ3 := Aside0.mk z3
  clear hw9 x0 x1 x2 x3 x4 x5 x7 x8
  obtain ⟨⟨y0, y1, y2, y3, y4, y5⟩, y6, y7, y8⟩ := b3.cells
  obtain ⟨⟨z0, z1, z2, z3', z4, z5⟩, z6, z7, z8⟩ := z3.cells
  have g0 := z3.fz 0
  have g1 := z3.fz 1
  have g2 := z3.fz 2
  have g3 := z3.fz 3
  have g4 := z3.fz 4
  have g5 := z3.fz 5
  have g6 := z3.fz 6
  have g7 := z3.fz 7
  have g8 := z3.fz 8
  clear b3 z3
  go_wp2_with (first | rw [← HW3.out])
  refine bodyPost_ret (results_ct rfl _ _ (B + 1) 60 #[.int .i64 k, .int .i64 c, .int .i64 e, .int .i64 r, .int .i64 s, .int .i64 d, (.slice none 0 0), .string t, (.slice An nn cn)] (0, 0) _ rfl (HZ3.out.set k c e r s d (.slice none 0 0) t (.slice An nn cn)) Try.underlying60 rfl (by kernel_rfl)) rfl ?_
  exact ⟨by rfl, below_set9 HLO3.out (by have := HBE.out; omega) _ _ _ _ _ _ _ _ _⟩
set_option maxHeartbeats 8000000 in
set_option maxRecDepth 100000 in
theorem without_6 (m : Mg) (go gn : Bool) (w : World) (ho : ∃ A n c, m.o = .slice A n c) (hn : ∃ A n c, m.n = .slice A n c) : Calls Try.prog 38 #[m.val, .int .i64 6] w fun e w' => e = .returned (.tuple #[(m.strip 6).val, .bool (m.ok go gn 6)]) ∧ Below w.heap.size w w' := by
  obtain ⟨k, c, e, r, s, d, o, t, n⟩ := m
  obtain ⟨Ao, no, co, rfl⟩ := ho
  obtain ⟨An, nn, cn, rfl⟩ := hn
  obtain ⟨B, hB⟩ : ∃ B, B = w.heap.size := ⟨_, rfl⟩
  obtain ⟨w2, hw2⟩ : ∃ w2, w2 = (w.alloc (.cells #[.int .i64 k, .int .i64 c, .int .i64 e, .int .i64 r, .int .i64 s, .int .i64 d, (.slice Ao no co), .string t, (.slice An nn cn)] 60)).alloc (.cells #[.int .i64 0, .int .i64 0, .int .i64 0, .int .i64 0, .int .i64 0, .int .i64 0, .slice none 0 0, .string ⟨#[]⟩, .slice none 0 0] 60) := ⟨_, rfl⟩
  have HBB0 := Aside0.mk (show Blk B ⟨k, c, e, r, s, d, (.slice Ao no co), t, (.slice An nn cn)⟩ w2 by unfold Blk; rw [hw2, hB, Own.heap_old _ _ _ (by simp)]; exact Own.heap_new _ _)
  have HZZ0 := Aside0.mk (show Blk (B + 1) ⟨0, 0, 0, 0, 0, 0, .slice none 0 0, ⟨#[]⟩, .slice none 0 0⟩ w2 by unfold Blk; rw [hw2, hB]; have := Own.heap_new (w.alloc (.cells #[.int .i64 k, .int .i64 c, .int .i64 e, .int .i64 r, .int .i64 s, .int .i64 d, (.slice Ao no co), .string t, (.slice An nn cn)] 60)) (.cells #[.int .i64 0, .int .i64 0, .int .i64 0, .int .i64 0, .int .i64 0, .int .i64 0, .slice none 0 0, .string ⟨#[]⟩, .slice none 0 0] 60); rwa [World.size_alloc] at this)
  have HLO0 := Aside0.mk (show Below w.heap.size w w2 by rw [hw2]; exact below_alloc (below_alloc (Below.refl _ _) _) _)
  have HW2 := Aside0.mk hw2
  have HBE := Aside0.mk hB
  clear hw2 hB
  go_enter Try.func38, Try.ntmps38
  unfold Mg.val Mg.cs
  have HBB := HBB0
  have HZZ := HZZ0
  have HLO := HLO0
  obtain ⟨⟨x0, x1, x2, x3, x4, x5⟩, x6, x7, x8⟩ := HBB.out.cells
  have f0 := HBB.out.fz 7
  clear HBB0 HZZ0 HLO0
  by_cases h1 : (t.size : Int) ≤ 16777216
  · obtain ⟨w9, hw9⟩ : ∃ w9, w9 = w2.setCell ⟨B, 7, none⟩ (.string ⟨#[]⟩) := ⟨_, rfl⟩
    have HW3 := Aside0.mk hw9
    have b3 : Blk B ⟨k, c, e, r, s, d, (.slice Ao no co), ⟨#[]⟩, (.slice An nn cn)⟩ w9 := by rw [hw9]; exact HBB.out.strip6
    have z3 : Blk (B + 1) ⟨0, 0, 0, 0, 0, 0, .slice none 0 0, ⟨#[]⟩, .slice none 0 0⟩ w9 := by rw [hw9]; exact (heap_setCell_other w2 ⟨B, 7, none⟩ (B + 1) _ (by show B + 1 ≠ B; omega)).trans HZZ.out
    have HLO3 := Aside0.mk (show Below w.heap.size w w9 by rw [hw9]; exact HLO.out.setCell (p := ⟨B, 7, none⟩) (by have := HBE.out; show w.heap.size ≤ B; omega) _)
    have HZ3 := Aside0.mk z3
    clear hw9 x0 x1 x2 x3 x4 x5 x6 x8
    obtain ⟨⟨y0, y1, y2, y3, y4, y5⟩, y6, y7, y8⟩ := b3.cells
    obtain ⟨⟨z0, z1, z2, z3', z4, z5⟩, z6, z7, z8⟩ := z3.cells
    have g0 := z3.fz 0
    have g1 := z3.fz 1
    have g2 := z3.fz 2
    have g3 := z3.fz 3
    have g4 := z3.fz 4
    have g5 := z3.fz 5
    have g6 := z3.fz 6
    have g7 := z3.fz 7
    have g8 := z3.fz 8
    clear b3 z3
    go_wp2_with (first | rw [← HBE.out, ← HW2.out] | rw [← HW3.out])
    refine bodyPost_ret (results_ct rfl _ _ (B + 1) 60 #[.int .i64 k, .int .i64 c, .int .i64 e, .int .i64 r, .int .i64 s, .int .i64 d, (.slice Ao no co), .string ⟨#[]⟩, (.slice An nn cn)] (0, 0) _ rfl (HZ3.out.set k c e r s d (.slice Ao no co) ⟨#[]⟩ (.slice An nn cn)) Try.underlying60 rfl (by kernel_rfl)) rfl ?_
    exact ⟨by rw [show Mg.ok ⟨k, c, e, r, s, d, (.slice Ao no co), t, (.slice An nn cn)⟩ go gn 6 = true from by unfold Mg.ok; simp; omega]; rfl, below_set9 HLO3.out (by have := HBE.out; omega) _ _ _ _ _ _ _ _ _⟩
  · obtain ⟨w9, hw9⟩ : ∃ w9, w9 = w2.setCell ⟨B, 7, none⟩ (.string ⟨#[]⟩) := ⟨_, rfl⟩
    have HW3 := Aside0.mk hw9
    have b3 : Blk B ⟨k, c, e, r, s, d, (.slice Ao no co), ⟨#[]⟩, (.slice An nn cn)⟩ w9 := by rw [hw9]; exact HBB.out.strip6
    have z3 : Blk (B + 1) ⟨0, 0, 0, 0, 0, 0, .slice none 0 0, ⟨#[]⟩, .slice none 0 0⟩ w9 := by rw [hw9]; exact (heap_setCell_other w2 ⟨B, 7, none⟩ (B + 1) _ (by show B + 1 ≠ B; omega)).trans HZZ.out
    have HLO3 := Aside0.mk (show Below w.heap.size w w9 by rw [hw9]; exact HLO.out.setCell (p := ⟨B, 7, none⟩) (by have := HBE.out; show w.heap.size ≤ B; omega) _)
    have HZ3 := Aside0.mk z3
    clear hw9 x0 x1 x2 x3 x4 x5 x6 x8
    obtain ⟨⟨y0, y1, y2, y3, y4, y5⟩, y6, y7, y8⟩ := b3.cells
    obtain ⟨⟨z0, z1, z2, z3', z4, z5⟩, z6, z7, z8⟩ := z3.cells
    have g0 := z3.fz 0
    have g1 := z3.fz 1
    have g2 := z3.fz 2
    have g3 := z3.fz 3
    have g4 := z3.fz 4
    have g5 := z3.fz 5
    have g6 := z3.fz 6
    have g7 := z3.fz 7
    have g8 := z3.fz 8
    clear b3 z3
    go_wp2_with (first | rw [← HBE.out, ← HW2.out] | rw [← HW3.out])
    refine bodyPost_ret (results_ct rfl _ _ (B + 1) 60 #[.int .i64 k, .int .i64 c, .int .i64 e, .int .i64 r, .int .i64 s, .int .i64 d, (.slice Ao no co), .string ⟨#[]⟩, (.slice An nn cn)] (0, 0) _ rfl (HZ3.out.set k c e r s d (.slice Ao no co) ⟨#[]⟩ (.slice An nn cn)) Try.underlying60 rfl (by kernel_rfl)) rfl ?_
    exact ⟨by rw [show Mg.ok ⟨k, c, e, r, s, d, (.slice Ao no co), t, (.slice An nn cn)⟩ go gn 6 = false from by unfold Mg.ok; simp; omega]; rfl, below_set9 HLO3.out (by have := HBE.out; omega) _ _ _ _ _ _ _ _ _⟩
set_option maxHeartbeats 8000000 in
set_option maxRecDepth 100000 in
theorem without_7 (m : Mg) (go gn : Bool) (w : World) (ho : ∃ A n c, m.o = .slice A n c) (hn : ∃ A n c, m.n = .slice A n c) (HG : ∀ W, Below w.heap.size w W → Calls Try.prog 48 #[m.n] W fun e W' => e = .returned (.bool gn) ∧ Below W.heap.size W W') : Calls Try.prog 38 #[m.val, .int .i64 7] w fun e w' => e = .returned (.tuple #[(m.strip 7).val, .bool (m.ok go gn 7)]) ∧ Below w.heap.size w w' := by
  obtain ⟨k, c, e, r, s, d, o, t, n⟩ := m
  obtain ⟨Ao, no, co, rfl⟩ := ho
  obtain ⟨An, nn, cn, rfl⟩ := hn
  obtain ⟨B, hB⟩ : ∃ B, B = w.heap.size := ⟨_, rfl⟩
  obtain ⟨w2, hw2⟩ : ∃ w2, w2 = (w.alloc (.cells #[.int .i64 k, .int .i64 c, .int .i64 e, .int .i64 r, .int .i64 s, .int .i64 d, (.slice Ao no co), .string t, (.slice An nn cn)] 60)).alloc (.cells #[.int .i64 0, .int .i64 0, .int .i64 0, .int .i64 0, .int .i64 0, .int .i64 0, .slice none 0 0, .string ⟨#[]⟩, .slice none 0 0] 60) := ⟨_, rfl⟩
  have HBB0 := Aside0.mk (show Blk B ⟨k, c, e, r, s, d, (.slice Ao no co), t, (.slice An nn cn)⟩ w2 by unfold Blk; rw [hw2, hB, Own.heap_old _ _ _ (by simp)]; exact Own.heap_new _ _)
  have HZZ0 := Aside0.mk (show Blk (B + 1) ⟨0, 0, 0, 0, 0, 0, .slice none 0 0, ⟨#[]⟩, .slice none 0 0⟩ w2 by unfold Blk; rw [hw2, hB]; have := Own.heap_new (w.alloc (.cells #[.int .i64 k, .int .i64 c, .int .i64 e, .int .i64 r, .int .i64 s, .int .i64 d, (.slice Ao no co), .string t, (.slice An nn cn)] 60)) (.cells #[.int .i64 0, .int .i64 0, .int .i64 0, .int .i64 0, .int .i64 0, .int .i64 0, .slice none 0 0, .string ⟨#[]⟩, .slice none 0 0] 60); rwa [World.size_alloc] at this)
  have HLO0 := Aside0.mk (show Below w.heap.size w w2 by rw [hw2]; exact below_alloc (below_alloc (Below.refl _ _) _) _)
  have HW2 := Aside0.mk hw2
  have HBE := Aside0.mk hB
  clear hw2 hB
  have HGA := Aside0.mk HG
  clear HG
  go_enter Try.func38, Try.ntmps38
  unfold Mg.val Mg.cs
  have HBB := HBB0
  have HZZ := HZZ0
  have HLO := HLO0
  obtain ⟨⟨x0, x1, x2, x3, x4, x5⟩, x6, x7, x8⟩ := HBB.out.cells
  have f0 := HBB.out.fz 8
  go_wp2_with (first | rw [← HBE.out, ← HW2.out])
  clear x0 x1 x2 x3 x4 x5 x6 x7 x8 f0 HBB HZZ HLO
  refine (HGA.out w2 HLO0.out).mono ?_
  rintro e1 w4 ⟨rfl, hb⟩
  have HBB := Aside0.mk (HBB0.out.below hb)
  have HZZ := Aside0.mk (HZZ0.out.below hb)
  have HLO := Aside0.mk (below_step HLO0.out hb)
  obtain ⟨⟨x0, x1, x2, x3, x4, x5⟩, x6, x7, x8⟩ := HBB.out.cells
  have f0 := HBB.out.fz 8
  clear HBB0 HZZ0 HLO0 HW2 hb HGA
  obtain ⟨w9, hw9⟩ : ∃ w9, w9 = w4.setCell ⟨B, 8, none⟩ (.slice none 0 0) := ⟨_, rfl⟩
  have HW3 := Aside0.mk hw9
  have b3 : Blk B ⟨k, c, e, r, s, d, (.slice Ao no co), t, (.slice none 0 0)⟩ w9 := by rw [hw9]; exact HBB.out.strip7
  have z3 : Blk (B + 1) ⟨0, 0, 0, 0, 0, 0, .slice none 0 0, ⟨#[]⟩, .slice none 0 0⟩ w9 := by rw [hw9]; exact (heap_setCell_other w4 ⟨B, 8, none⟩ (B + 1) _ (by show B + 1 ≠ B; omega)).trans HZZ.out
  have HLO3 := Aside0.mk (show Below w.heap.size w w9 by rw [hw9]; exact HLO.out.setCell (p := ⟨B, 8, none⟩) (by have := HBE.out; show w.heap.size ≤ B; omega) _)
  have HZ3 := Aside0.mk z3
  clear hw9 x0 x1 x2 x3 x4 x5 x6 x7
  obtain ⟨⟨y0, y1, y2, y3, y4, y5⟩, y6, y7, y8⟩ := b3.cells
  obtain ⟨⟨z0, z1, z2, z3', z4, z5⟩, z6, z7, z8⟩ := z3.cells
  have g0 := z3.fz 0
  have g1 := z3.fz 1
  have g2 := z3.fz 2
  have g3 := z3.fz 3
  have g4 := z3.fz 4
  have g5 := z3.fz 5
  have g6 := z3.fz 6
  have g7 := z3.fz 7
  have g8 := z3.fz 8
  clear b3 z3
  go_wp2_with (first | rw [← HW3.out])
  refine bodyPost_ret (results_ct rfl _ _ (B + 1) 60 #[.int .i64 k, .int .i64 c, .int .i64 e, .int .i64 r, .int .i64 s, .int .i64 d, (.slice Ao no co), .string t, (.slice none 0 0)] (0, 0) _ rfl (HZ3.out.set k c e r s d (.slice Ao no co) t (.slice none 0 0)) Try.underlying60 rfl (by kernel_rfl)) rfl ?_
  exact ⟨by rfl, below_set9 HLO3.out (by have := HBE.out; omega) _ _ _ _ _ _ _ _ _⟩
end Go.Proofs.Ytjbnffadfohofaa.MsgB
end
-- MERGED YtjbnffadfohofaaEq6
section
/- Are two rows of six numbers the same? -/
namespace Go.Proofs.Ytjbnffadfohofaa.Eq6
open Go.RowKit Go.Proofs.Ytjbnffadfohofaa.P

theorem sz3 : ∀ w, (sizeOf 3).run Try.prog w = .ok 1 w := fun w => by
  have h : Try.prog.cellsOf 3 = 1 := by kernel_rfl
  go_simp
theorem eq6 (W : World) (a0 a1 a2 a3 a4 a5 b0 b1 b2 b3 b4 b5 : Int) :
    (Op.equalIn 10000 89 (.agg #[.int .i64 a0, .int .i64 a1, .int .i64 a2, .int .i64 a3, .int .i64 a4, .int .i64 a5]) (.agg #[.int .i64 b0, .int .i64 b1, .int .i64 b2, .int .i64 b3, .int .i64 b4, .int .i64 b5])).run Try.prog W = .ok (a0 == b0 && (a1 == b1 && (a2 == b2 && (a3 == b3 && (a4 == b4 && a5 == b5))))) W := by
  rw [Op.equalIn]
  have pe : ∀ (x y : Int) (w : World), (Op.equalIn 9999 3 (.int .i64 x) (.int .i64 y)).run Try.prog w = .ok (x == y) w := fun x y w => by
    rw [run_equalIn_int w 9998 3 .i64 .i64 _ _ Try.underlying3]
  have pt : ∀ (cs : Array Value) (i : Nat) (v : Value) (w : World), cs[i]? = some v → (∃ x, v = .int .i64 x) → (part 3 cs i).run Try.prog w = .ok v w := fun cs i v w h hv => by
    obtain ⟨x, rfl⟩ := hv
    simp [part, isAgg, run_underlying Try.underlying3, h]
  simp only [Sem.run_bind, run_underlying Try.underlying89, Result.andThen_ok, sz3, Std.Legacy.Range.forIn_eq_forIn_range', Std.Legacy.Range.size, Nat.sub_zero, Nat.add_sub_cancel, Nat.div_one]
  simp only [List.range'_succ, List.range'_zero, List.forIn_cons, List.forIn_nil, Sem.run_bind]
  cases h0 : (a0 == b0) <;> cases h1 : (a1 == b1) <;> cases h2 : (a2 == b2) <;> cases h3 : (a3 == b3) <;> cases h4 : (a4 == b4) <;> cases h5 : (a5 == b5) <;>
  simp [pt, pe, h0, h1, h2, h3, h4, h5, Sem.run_bind, Sem.run_pure, Result.andThen_ok]
end Go.Proofs.Ytjbnffadfohofaa.Eq6
end
-- MERGED YtjbnffadfohofaaMsgC
section
/- message.Same; is a row as nothing? -/
namespace Go.Proofs.Ytjbnffadfohofaa.MsgC
open Go.RowKit Go.Proofs.Ytjbnffadfohofaa.P Go.Proofs.YtjbnffadfohofaaW.PrintWords Go.Proofs.YtjbnffadfohofaaW.PrintLast Go.Proofs.YtjbnffadfohofaaW.PrintMore Go.Proofs.Ytjbnffadfohofaa.Own Go.Proofs.Ytjbnffadfohofaa.MsgA Go.Proofs.Ytjbnffadfohofaa.MsgB
set_option linter.unusedSimpArgs false
set_option linter.unusedVariables false

set_option maxHeartbeats 2000000 in
set_option maxRecDepth 100000 in
theorem eqrun_nil (A : Option Addr) (n c : Nat) (hn : n ≤ 4611686018427387904) (w : World) : Calls Try.prog 50 #[.slice A n c, .slice none 0 0] w fun e w' => e = .returned (.bool (decide (n = 0))) ∧ Below w.heap.size w w' := by
  by_cases h : n = 0
  · subst h
    go_enter Try.func50, Try.ntmps50
    go_wp2_with fail
    go_loopw [13] (fun iv wr => iv = .int .i64 0 ∧ wr = w) (fun _ _ => 0)
    case atStart => exact ⟨rfl, rfl⟩
    case round =>
      obtain ⟨rfl, rfl⟩ := hrel
      go_wp2_with fail
      go_ret
      exact ⟨rfl, Below.refl _ _⟩
  · have h' : ((n : Int) == 0) = false := by simpa using h
    have hn' : (n : Int) ≤ 4611686018427387904 := by omega
    go_enter Try.func50, Try.ntmps50
    go_wp2_with fail
    go_ret
    exact ⟨by rw [decide_eq_false h]; rfl, Below.refl _ _⟩
set_option maxHeartbeats 2000000 in
set_option maxRecDepth 100000 in
theorem eqnote_nil (A : Option Addr) (n c : Nat) (hn : n ≤ 4611686018427387904) (w : World) : Calls Try.prog 51 #[.slice A n c, .slice none 0 0] w fun e w' => e = .returned (.bool (decide (n = 0))) ∧ Below w.heap.size w w' := by
  by_cases h : n = 0
  · subst h
    go_enter Try.func51, Try.ntmps51
    go_wp2_with fail
    go_loopw [13] (fun iv wr => iv = .int .i64 0 ∧ wr = w) (fun _ _ => 0)
    case atStart => exact ⟨rfl, rfl⟩
    case round =>
      obtain ⟨rfl, rfl⟩ := hrel
      go_wp2_with fail
      go_ret
      exact ⟨rfl, Below.refl _ _⟩
  · have h' : ((n : Int) == 0) = false := by simpa using h
    have hn' : (n : Int) ≤ 4611686018427387904 := by omega
    go_enter Try.func51, Try.ntmps51
    go_wp2_with fail
    go_ret
    exact ⟨by rw [decide_eq_false h]; rfl, Below.refl _ _⟩
def Mg.nums (a b : Mg) : Bool := a.k == b.k && (a.c == b.c && (a.e == b.e && (a.r == b.r && (a.s == b.s && a.d == b.d))))
def Mg.same (a b : Mg) (eo en : Bool) : Bool := Mg.nums a b && (a.t.toList == b.t.toList && (eo && en))
set_option maxHeartbeats 8000000 in
set_option maxRecDepth 100000 in
theorem same_c (a b : Mg) (eo en : Bool) (w : World) (hao : ∃ A n c, a.o = .slice A n c) (han : ∃ A n c, a.n = .slice A n c) (hbo : ∃ A n c, b.o = .slice A n c) (hbn : ∃ A n c, b.n = .slice A n c)
    (HO : ∀ W, Below w.heap.size w W → Calls Try.prog 50 #[a.o, b.o] W fun e W' => e = .returned (.bool eo) ∧ Below W.heap.size W W') (HN : ∀ W, Below w.heap.size w W → Calls Try.prog 51 #[a.n, b.n] W fun e W' => e = .returned (.bool en) ∧ Below W.heap.size W W') :
    Calls Try.prog 39 #[a.val, b.val] w fun e w' => e = .returned (.bool (Mg.same a b eo en)) ∧ Below w.heap.size w w' := by
  obtain ⟨k, c, e, r, s, d, o, t, n⟩ := a
  obtain ⟨k2, c2, e2, r2, s2, d2, o2, t2, n2⟩ := b
  obtain ⟨Ao, no, co, rfl⟩ := hao
  obtain ⟨An, nn, cn, rfl⟩ := han
  obtain ⟨Ao2, no2, co2, rfl⟩ := hbo
  obtain ⟨An2, nn2, cn2, rfl⟩ := hbn
  obtain ⟨B, hB⟩ : ∃ B, B = w.heap.size := ⟨_, rfl⟩
  obtain ⟨w2, hw2⟩ : ∃ w2, w2 = (w.alloc (.cells #[.int .i64 k, .int .i64 c, .int .i64 e, .int .i64 r, .int .i64 s, .int .i64 d, .slice Ao no co, .string t, .slice An nn cn] 60)).alloc (.cells #[.int .i64 k2, .int .i64 c2, .int .i64 e2, .int .i64 r2, .int .i64 s2, .int .i64 d2, .slice Ao2 no2 co2, .string t2, .slice An2 nn2 cn2] 60) := ⟨_, rfl⟩
  have HBA := Aside0.mk (show Blk B ⟨k, c, e, r, s, d, .slice Ao no co, t, .slice An nn cn⟩ w2 by unfold Blk; rw [hw2, hB, Own.heap_old _ _ _ (by simp)]; exact Own.heap_new _ _)
  have HBB := Aside0.mk (show Blk (B + 1) ⟨k2, c2, e2, r2, s2, d2, .slice Ao2 no2 co2, t2, .slice An2 nn2 cn2⟩ w2 by unfold Blk; rw [hw2, hB]; have := Own.heap_new (w.alloc (.cells #[.int .i64 k, .int .i64 c, .int .i64 e, .int .i64 r, .int .i64 s, .int .i64 d, .slice Ao no co, .string t, .slice An nn cn] 60)) (.cells #[.int .i64 k2, .int .i64 c2, .int .i64 e2, .int .i64 r2, .int .i64 s2, .int .i64 d2, .slice Ao2 no2 co2, .string t2, .slice An2 nn2 cn2] 60); rwa [World.size_alloc] at this)
  have HLO := Aside0.mk (show Below w.heap.size w w2 by rw [hw2]; exact below_alloc (below_alloc (Below.refl _ _) _) _)
  have HW2 := Aside0.mk hw2
  have HBE := Aside0.mk hB
  have HOA := Aside0.mk HO
  have HNA := Aside0.mk HN
  clear hw2 hB HO HN
  obtain ⟨⟨x0, x1, x2, x3, x4, x5⟩, x6, x7, x8⟩ := HBA.out.cells
  obtain ⟨⟨y0, y1, y2, y3, y4, y5⟩, y6, y7, y8⟩ := HBB.out.cells
  go_enter Try.func39, Try.ntmps39
  unfold Mg.val Mg.cs
  have he6 := fun W => Eq6.eq6 W k c e r s d k2 c2 e2 r2 s2 d2
  cases q1 : (k == k2 && (c == c2 && (e == e2 && (r == r2 && (s == s2 && d == d2))))) with
  | false =>
    rw [q1] at he6
    go_wp2_with (first | rw [← HBE.out, ← HW2.out])
    go_ret
    exact ⟨by unfold Mg.same Mg.nums; rw [q1]; rfl, HLO.out⟩
  | true =>
    rw [q1] at he6
    cases q2 : (t.toList == t2.toList) with
    | false =>
      go_wp2_with (first | rw [← HBE.out, ← HW2.out])
      go_ret
      exact ⟨by unfold Mg.same Mg.nums; rw [q1, q2]; rfl, HLO.out⟩
    | true =>
      go_wp2_with (first | rw [← HBE.out, ← HW2.out])
      refine (HOA.out w2 HLO.out).mono ?_
      rintro e9 w3 ⟨rfl, hb⟩
      have HA3 := Aside0.mk (HBA.out.below hb)
      have HB3 := Aside0.mk (HBB.out.below hb)
      have HL3 := Aside0.mk (below_step HLO.out hb)
      clear hb x0 x1 x2 x3 x4 x5 x6 x7 x8 y0 y1 y2 y3 y4 y5 y6 y7 y8 HW2 he6
      obtain ⟨⟨x0, x1, x2, x3, x4, x5⟩, x6, x7, x8⟩ := HA3.out.cells
      obtain ⟨⟨y0, y1, y2, y3, y4, y5⟩, y6, y7, y8⟩ := HB3.out.cells
      cases eo with
      | false =>
        go_wp2_with fail
        go_ret
        exact ⟨by unfold Mg.same Mg.nums; rw [q1, q2]; rfl, HL3.out⟩
      | true =>
        go_wp2_with fail
        refine (HNA.out w3 HL3.out).mono ?_
        rintro e9 w4 ⟨rfl, hb⟩
        have HL4 := Aside0.mk (below_step HL3.out hb)
        clear hb x0 x1 x2 x3 x4 x5 x6 x7 x8 y0 y1 y2 y3 y4 y5 y6 y7 y8
        go_wp2_with fail
        go_ret
        exact ⟨by unfold Mg.same Mg.nums; rw [q1, q2]; rfl, HL4.out⟩
end Go.Proofs.Ytjbnffadfohofaa.MsgC
end
-- MERGED YtjbnffadfohofaaMsgD
section
/- message.Good. -/
namespace Go.Proofs.Ytjbnffadfohofaa.MsgD
open Go.RowKit Go.Proofs.Ytjbnffadfohofaa.P Go.Proofs.YtjbnffadfohofaaW.PrintWords Go.Proofs.YtjbnffadfohofaaW.PrintLast Go.Proofs.YtjbnffadfohofaaW.PrintMore Go.Proofs.Ytjbnffadfohofaa.Own Go.Proofs.Ytjbnffadfohofaa.MsgA Go.Proofs.Ytjbnffadfohofaa.MsgB Go.Proofs.Ytjbnffadfohofaa.MsgC
set_option linter.unusedSimpArgs false
set_option linter.unusedVariables false

/-- What a kind has, in order. -/
def fieldsL (k : Int) : List Int := if k = 1 then [0, 1, 2, 3] else if k = 2 then [0, 2, 3, 5] else if k = 3 then [2, 3] else if k = 4 then [2, 3, 6] else if k = 5 then [2, 7] else if k = 6 then [1] else if k = 7 then [4] else []
theorem fields_f (k : Int) : message_fields.f k = some (fieldsL k) := by
  unfold message_fields.f fieldsL
  repeat' split
  all_goals rfl
theorem fields_ok (k : Int) : (fieldsL k).Nodup ∧ (∀ f ∈ fieldsL k, 0 ≤ f ∧ f < 8) ∧ (fieldsL k).length ≤ 4 := by
  unfold fieldsL
  repeat' split
  all_goals decide
def nil0 : Value → Bool
  | .slice _ n _ => decide (n = 0)
  | _ => false
def run (go gn : Bool) : List Int → Mg → Option Mg
  | [], m => some m
  | f :: l, m => if m.ok go gn f.toNat = true then run go gn l (m.strip f.toNat) else none
def kindM (k : Int) : Mg := ⟨k, 0, 0, 0, 0, 0, .slice none 0 0, ⟨#[]⟩, .slice none 0 0⟩
def lastOk (m r : Mg) : Bool := !(fieldsL m.k).isEmpty && Mg.same r (kindM m.k) (nil0 r.o) (nil0 r.n)
def goodM (m : Mg) (go gn : Bool) : Bool := ((run go gn (fieldsL m.k) m).map (lastOk m)).getD false
theorem without_c (m : Mg) (go gn : Bool) (f : Int) (h0 : 0 ≤ f) (h8 : f < 8) (w : World) (ho : ∃ A n c, m.o = .slice A n c) (hn : ∃ A n c, m.n = .slice A n c)
    (HG : f = 5 → ∀ W, Below w.heap.size w W → Calls Try.prog 30 #[m.o] W fun e W' => e = .returned (.bool go) ∧ Below W.heap.size W W')
    (HN : f = 7 → ∀ W, Below w.heap.size w W → Calls Try.prog 48 #[m.n] W fun e W' => e = .returned (.bool gn) ∧ Below W.heap.size W W') :
    Calls Try.prog 38 #[m.val, .int .i64 f] w fun e w' => e = .returned (.tuple #[(m.strip f.toNat).val, .bool (m.ok go gn f.toNat)]) ∧ Below w.heap.size w w' := by
  have h : f = 0 ∨ f = 1 ∨ f = 2 ∨ f = 3 ∨ f = 4 ∨ f = 5 ∨ f = 6 ∨ f = 7 := by omega
  rcases h with rfl | rfl | rfl | rfl | rfl | rfl | rfl | rfl
  · exact without_0 m go gn w ho hn
  · exact without_1 m go gn w ho hn
  · exact without_2 m go gn w ho hn
  · exact without_3 m go gn w ho hn
  · exact without_4 m go gn w ho hn
  · exact without_5 m go gn w ho hn (HG rfl)
  · exact without_6 m go gn w ho hn
  · exact without_7 m go gn w ho hn (HN rfl)
theorem strip_k (m : Mg) (f : Nat) : (m.strip f).k = m.k := by
  unfold Mg.strip
  repeat' split
  all_goals rfl
theorem strip_o (m : Mg) (f : Nat) : (m.strip f).o = if f = 5 then .slice none 0 0 else m.o := by
  unfold Mg.strip
  repeat' split
  all_goals first | rfl | omega
theorem strip_n (m : Mg) (f : Nat) (hf : f < 8) : (m.strip f).n = if f = 7 then .slice none 0 0 else m.n := by
  unfold Mg.strip
  repeat' split
  all_goals first | rfl | omega
theorem drop_rd {l : List Int} {j : Nat} (h : j < l.length) : l.drop j = rd l (j : Int) :: l.drop (j + 1) := by
  rw [List.drop_eq_getElem_cons h]
  unfold rd
  rw [Int.toNat_natCast, List.getD_eq_getElem?_getD, List.getElem?_eq_getElem h]; rfl
/-- The state of the loop. -/
structure Rs (m : Mg) (go gn : Bool) (l : List Int) (r : Mg) : Prop where
  run_ : run go gn l r = run go gn (fieldsL m.k) m
  k : r.k = m.k
  o : r.o = m.o ∨ (r.o = .slice none 0 0 ∧ 5 ∉ l)
  n : r.n = m.n ∨ (r.n = .slice none 0 0 ∧ 7 ∉ l)
theorem Rs.start (m : Mg) (go gn : Bool) : Rs m go gn (fieldsL m.k) m := ⟨rfl, rfl, .inl rfl, .inl rfl⟩
theorem Rs.step {m r : Mg} {go gn : Bool} {f : Int} {l : List Int} (h : Rs m go gn (f :: l) r) (hok : r.ok go gn f.toNat = true) (hd : (f :: l).Nodup) (h0 : 0 ≤ f) (h8 : f < 8) : Rs m go gn l (r.strip f.toNat) := by
  have hnd := List.nodup_cons.1 hd
  refine ⟨?_, by rw [strip_k]; exact h.k, ?_, ?_⟩
  · have := h.run_
    simp only [run] at this
    rwa [if_pos hok] at this
  · rw [strip_o]
    split
    · next h5 => exact .inr ⟨rfl, by have : f = 5 := by omega
                                     rw [← this]; exact hnd.1⟩
    · rcases h.o with h1 | ⟨h1, h2⟩
      · exact .inl h1
      · exact .inr ⟨h1, fun h3 => h2 (List.mem_cons_of_mem _ h3)⟩
  · rw [strip_n _ _ (by omega)]
    split
    · next h5 => exact .inr ⟨rfl, by have : f = 7 := by omega
                                     rw [← this]; exact hnd.1⟩
    · rcases h.n with h1 | ⟨h1, h2⟩
      · exact .inl h1
      · exact .inr ⟨h1, fun h3 => h2 (List.mem_cons_of_mem _ h3)⟩
theorem Rs.bad {m r : Mg} {go gn : Bool} {f : Int} {l : List Int} (h : Rs m go gn (f :: l) r) (hok : r.ok go gn f.toNat = false) : goodM m go gn = false := by
  have := h.run_
  simp only [run, hok] at this
  unfold goodM
  rw [← this]; rfl
theorem Rs.last {m r : Mg} {go gn : Bool} (h : Rs m go gn [] r) : goodM m go gn = lastOk m r := by
  have := h.run_
  simp only [run] at this
  unfold goodM
  rw [← this]; rfl
theorem set9_far {B k : Nat} (h : k ≠ B) (w : World) (y0 y1 y2 y3 y4 y5 y6 y7 y8 : Value) : (((((((((w.setCell ⟨B, 0, none⟩ y0).setCell ⟨B, 1, none⟩ y1).setCell ⟨B, 2, none⟩ y2).setCell ⟨B, 3, none⟩ y3).setCell ⟨B, 4, none⟩ y4).setCell ⟨B, 5, none⟩ y5).setCell ⟨B, 6, none⟩ y6).setCell ⟨B, 7, none⟩ y7).setCell ⟨B, 8, none⟩ y8).heap[k]? = w.heap[k]? := by
  rw [Below.heap_setCell _ _ _ k h, Below.heap_setCell _ _ _ k h, Below.heap_setCell _ _ _ k h, Below.heap_setCell _ _ _ k h, Below.heap_setCell _ _ _ k h, Below.heap_setCell _ _ _ k h, Below.heap_setCell _ _ _ k h, Below.heap_setCell _ _ _ k h, Below.heap_setCell _ _ _ k h]
set_option maxHeartbeats 8000000 in
set_option maxRecDepth 100000 in
theorem good_c (m : Mg) (go gn : Bool) (w : World) (ho : ∃ A n c, m.o = .slice A n c ∧ n ≤ 4611686018427387904) (hn : ∃ A n c, m.n = .slice A n c ∧ n ≤ 4611686018427387904)
    (HG : ∀ W, Below w.heap.size w W → Calls Try.prog 30 #[m.o] W fun e W' => e = .returned (.bool go) ∧ Below W.heap.size W W')
    (HN : ∀ W, Below w.heap.size w W → Calls Try.prog 48 #[m.n] W fun e W' => e = .returned (.bool gn) ∧ Below W.heap.size W W') :
    Calls Try.prog 25 #[m.val] w fun e w' => e = .returned (.bool (goodM m go gn)) ∧ Below w.heap.size w w' := by
  have HRS := Aside0.mk (Rs.start m go gn)
  obtain ⟨Ao, no, co, ho, hno⟩ := ho
  obtain ⟨An, nn, cn, hn, hnn⟩ := hn
  have HGG := Aside0.mk HG
  have HNN := Aside0.mk HN
  have HNO := Aside0.mk hno
  have HNB := Aside0.mk hnn
  obtain ⟨M, hM⟩ : ∃ M, M = m := ⟨_, rfl⟩
  have HMM := Aside0.mk hM
  obtain ⟨k, c, e, r, s, d, o, t, n⟩ := m
  obtain rfl : o = .slice Ao no co := ho
  obtain rfl : n = .slice An nn cn := hn
  have HOF := Aside0.mk (show M.o = .slice Ao no co by rw [hM])
  have HNF := Aside0.mk (show M.n = .slice An nn cn by rw [hM])
  have HKF := Aside0.mk (show M.k = k by rw [hM])
  rw [← hM] at HRS
  clear HG HN hno hnn hM
  obtain ⟨B, hB⟩ : ∃ B, B = w.heap.size := ⟨_, rfl⟩
  obtain ⟨w2, hw2⟩ : ∃ w2, w2 = (w.alloc (.cells #[.int .i64 k, .int .i64 c, .int .i64 e, .int .i64 r, .int .i64 s, .int .i64 d, .slice Ao no co, .string t, .slice An nn cn] 60)).alloc (.cells #[.int .i64 0, .int .i64 0, .int .i64 0, .int .i64 0, .int .i64 0, .int .i64 0, .slice none 0 0, .string ⟨#[]⟩, .slice none 0 0] 60) := ⟨_, rfl⟩
  have HBB := Aside0.mk (show Blk B ⟨k, c, e, r, s, d, .slice Ao no co, t, .slice An nn cn⟩ w2 by unfold Blk; rw [hw2, hB, Own.heap_old _ _ _ (by simp)]; exact Own.heap_new _ _)
  have HZZ := Aside0.mk (show Blk (B + 1) ⟨0, 0, 0, 0, 0, 0, .slice none 0 0, ⟨#[]⟩, .slice none 0 0⟩ w2 by unfold Blk; rw [hw2, hB]; have := Own.heap_new (w.alloc (.cells #[.int .i64 k, .int .i64 c, .int .i64 e, .int .i64 r, .int .i64 s, .int .i64 d, .slice Ao no co, .string t, .slice An nn cn] 60)) (.cells #[.int .i64 0, .int .i64 0, .int .i64 0, .int .i64 0, .int .i64 0, .int .i64 0, .slice none 0 0, .string ⟨#[]⟩, .slice none 0 0] 60); rw [World.size_alloc] at this; exact this)
  have HLO := Aside0.mk (show Below w.heap.size w w2 by rw [hw2]; exact below_alloc (below_alloc (Below.refl _ _) _) _)
  have HW2 := Aside0.mk hw2
  have HBE := Aside0.mk hB
  clear hw2 hB
  obtain ⟨⟨x0, x1, x2, x3, x4, x5⟩, x6, x7, x8⟩ := HBB.out.cells
  obtain ⟨⟨z0, z1, z2, z3, z4, z5⟩, z6, z7, z8⟩ := HZZ.out.cells
  have g0 := HZZ.out.fz 0
  have g1 := HZZ.out.fz 1
  have g2 := HZZ.out.fz 2
  have g3 := HZZ.out.fz 3
  have g4 := HZZ.out.fz 4
  have g5 := HZZ.out.fz 5
  have g6 := HZZ.out.fz 6
  have g7 := HZZ.out.fz 7
  have g8 := HZZ.out.fz 8
  go_enter Try.func25, Try.ntmps25
  unfold Mg.val Mg.cs
  go_wp2_with (first | rw [← HBE.out, ← HW2.out])
  have HZ2 := Aside0.mk (HZZ.out.set k c e r s d (.slice Ao no co) t (.slice An nn cn))
  have HL2 := Aside0.mk (below_set9 HLO.out (B := B + 1) (by have := HBE.out; omega) (.int .i64 k) (.int .i64 c) (.int .i64 e) (.int .i64 r) (.int .i64 s) (.int .i64 d) (.slice Ao no co) (.string t) (.slice An nn cn))
  have HB2 := Aside0.mk (((below_set9 (Below.refl (B + 1) w2) (B := B + 1) (Nat.le_refl _) (.int .i64 k) (.int .i64 c) (.int .i64 e) (.int .i64 r) (.int .i64 s) (.int .i64 d) (.slice Ao no co) (.string t) (.slice An nn cn)).block B (by omega)).trans HBB.out)
  refine (message_fields.calls k _ _ (fields_f k)).mono ?_
  rintro e1 w3 ⟨v, rfl, hr, hb⟩
  have HZ3 := Aside0.mk (HZ2.out.below hb)
  have HB3 := Aside0.mk (Blk.below HB2.out hb)
  have HL3 := Aside0.mk (below_step HL2.out hb)
  have hr' := Kd.R_mono (ok' := fun k => B + 1 < k) (Kd.R_bound hr) (fun k hk => by
    have h1 := (HZ2.out.lt)
    have h2 := hk.2.1
    omega)
  obtain ⟨F, cF, rfl⟩ := Kd.R_slice hr'
  obtain ⟨bs, hbs⟩ : ∃ bs, bs = (((((((((w2.setCell ⟨B + 1, 0, none⟩ (.int .i64 k)).setCell ⟨B + 1, 1, none⟩ (.int .i64 c)).setCell ⟨B + 1, 2, none⟩ (.int .i64 e)).setCell ⟨B + 1, 3, none⟩ (.int .i64 r)).setCell ⟨B + 1, 4, none⟩ (.int .i64 s)).setCell ⟨B + 1, 5, none⟩ (.int .i64 d)).setCell ⟨B + 1, 6, none⟩ (.slice Ao no co)).setCell ⟨B + 1, 7, none⟩ (.string t)).setCell ⟨B + 1, 8, none⟩ (.slice An nn cn)).heap.size := ⟨_, rfl⟩
  rw [← hbs] at hr'
  have HCF := Aside0.mk hr'
  have HFO := Aside0.mk (fields_ok k)
  obtain ⟨fs, hfs⟩ : ∃ fs, fs = fieldsL k := ⟨_, rfl⟩
  rw [← hfs] at HCF HFO ⊢
  have HFS := Aside0.mk hfs
  rw [HKF.out, ← hfs] at HRS
  clear hb hr hr' hbs hfs x0 x1 x2 x3 x4 x5 x6 x7 x8 z0 z1 z2 z3 z4 z5 z6 z7 z8 g0 g1 g2 g3 g4 g5 g6 g7 g8 HBB HZZ HZ2 HL2 HB2 HLO HW2
  go_wp2_with fail
  go_loopw [12] (fun iv wr => ∃ (j : Nat) (rr : Mg), j ≤ fs.length ∧ iv = .int .i64 (j : Int) ∧ Rs M go gn (fs.drop j) rr ∧ Blk B ⟨k, c, e, r, s, d, .slice Ao no co, t, .slice An nn cn⟩ wr ∧ Blk (B + 1) rr wr ∧ Below w.heap.size w wr ∧ Kd.R (Kd.int .i64) 70 wr bs (fun k => B + 1 < k) (.slice F fs.length cF) fs) (fun iv _ => fs.length - (intOf iv).toNat)
  case atStart => exact ⟨0, _, Nat.zero_le _, rfl, HRS.out, HB3.out, by rw [HMM.out]; exact HZ3.out, HL3.out, HCF.out⟩
  case round =>
    obtain ⟨j, rr, hj, rfl, hrs, hB, hZ, hL, hC⟩ := hrel
    have HBj := Aside0.mk hB
    have HZj := Aside0.mk hZ
    have HLj := Aside0.mk hL
    have HCj := Aside0.mk hC
    have HRj := Aside0.mk hrs
    clear hB hZ hL hC hrs
    by_cases hlt : j < fs.length
    · obtain ⟨f, hf⟩ : ∃ f, f = rd fs (j : Int) := ⟨_, rfl⟩
      have h4 : j < 4 := by have := HFO.out.2.2; omega
      have hdr := drop_rd hlt
      rw [← hf] at hdr
      have hmem : f ∈ fs := List.mem_of_mem_drop (i := j) (by rw [hdr]; exact List.mem_cons_self)
      have hnd : (f :: fs.drop (j + 1)).Nodup := by rw [← hdr]; exact HFO.out.1.sublist (List.drop_sublist _ _)
      have h08 := HFO.out.2.1 f hmem
      rw [hdr] at HRj
      obtain ⟨ad, rfl, y⟩ := Kd.at_int (Kd.R_reads' HCj.out).2.2 (j : Int) (by omega) (by omega)
      rw [Int.toNat_natCast, ← hf] at y
      have HWO := Aside0.mk (without_c rr go gn f h08.1 h08.2 wr (by
          rcases HRj.out.o with h | h
          · exact ⟨_, _, _, h.trans HOF.out⟩
          · exact ⟨_, _, _, h.1⟩) (by
          rcases HRj.out.n with h | h
          · exact ⟨_, _, _, h.trans HNF.out⟩
          · exact ⟨_, _, _, h.1⟩)
        (fun h5 W hW => by
          rcases HRj.out.o with h | h
          · rw [h, HOF.out]; exact HGG.out W (HLj.out.trans (hW.mono HLj.out.size))
          · exact absurd (show (5 : Int) ∈ f :: fs.drop (j + 1) by rw [h5]; exact List.mem_cons_self) h.2)
        (fun h5 W hW => by
          rcases HRj.out.n with h | h
          · rw [h, HNF.out]; exact HNN.out W (HLj.out.trans (hW.mono HLj.out.size))
          · exact absurd (show (7 : Int) ∈ f :: fs.drop (j + 1) by rw [h5]; exact List.mem_cons_self) h.2))
      have HST := Aside0.mk (fun hok => HRj.out.step hok hnd h08.1 h08.2)
      have HBA := Aside0.mk (fun hok => HRj.out.bad hok)
      have HFF := Aside0.mk (show (∃ A n c, (rr.strip f.toNat).o = .slice A n c) ∧ (∃ A n c, (rr.strip f.toNat).n = .slice A n c) from ⟨by
          rw [strip_o]
          split
          · exact ⟨_, _, _, rfl⟩
          · rcases HRj.out.o with h | h
            · exact ⟨_, _, _, h.trans HOF.out⟩
            · exact ⟨_, _, _, h.1⟩, by
          rw [strip_n _ _ (by omega)]
          split
          · exact ⟨_, _, _, rfl⟩
          · rcases HRj.out.n with h | h
            · exact ⟨_, _, _, h.trans HNF.out⟩
            · exact ⟨_, _, _, h.1⟩⟩)
      obtain ⟨r2, hr2⟩ : ∃ r2, r2 = rr.strip f.toNat := ⟨_, rfl⟩
      obtain ⟨ok, hok⟩ : ∃ ok, ok = rr.ok go gn f.toNat := ⟨_, rfl⟩
      rw [← hr2] at HWO HFF HST
      rw [← hok] at HWO HBA HST
      obtain ⟨⟨x0, x1, x2, x3, x4, x5⟩, x6, x7, x8⟩ := HZj.out.cells
      have hlt' : (j : Int) < (fs.length : Int) := by omega
      clear hr2 hok hnd h08 hmem hdr hf HRj HGG HNN
      obtain ⟨k2, c2, e2, q2, s2, d2, o2, t2, n2⟩ := r2
      obtain ⟨⟨Ao2, no2, co2, ho2⟩, An2, nn2, cn2, hn2⟩ := HFF.out
      obtain rfl : o2 = .slice Ao2 no2 co2 := ho2
      obtain rfl : n2 = .slice An2 nn2 cn2 := hn2
      go_wp2_with fail
      refine HWO.out.mono ?_
      unfold Mg.val Mg.cs
      rintro e9 w4 ⟨rfl, hb⟩
      have HB4 := Aside0.mk (HBj.out.below hb)
      have HZ4 := Aside0.mk (HZj.out.below hb)
      have HL4 := Aside0.mk (below_step HLj.out hb)
      have HC4 := Aside0.mk (Kd.R_below HCj.out hb)
      clear hb x0 x1 x2 x3 x4 x5 x6 x7 x8 y HWO HBj HZj HLj HCj HFF
      have HZ5 := Aside0.mk (HZ4.out.set k2 c2 e2 q2 s2 d2 (.slice Ao2 no2 co2) t2 (.slice An2 nn2 cn2))
      have HX := Aside0.mk (below_set9 (Below.refl (B + 1) w4) (B := B + 1) (Nat.le_refl _) (.int .i64 k2) (.int .i64 c2) (.int .i64 e2) (.int .i64 q2) (.int .i64 s2) (.int .i64 d2) (.slice Ao2 no2 co2) (.string t2) (.slice An2 nn2 cn2))
      have HL5 := Aside0.mk (below_set9 HL4.out (B := B + 1) (by have := HBE.out; omega) (.int .i64 k2) (.int .i64 c2) (.int .i64 e2) (.int .i64 q2) (.int .i64 s2) (.int .i64 d2) (.slice Ao2 no2 co2) (.string t2) (.slice An2 nn2 cn2))
      have HC5 := Aside0.mk (Kd.R_step HC4.out (fun K hK _ => set9_far (B := B + 1) (by omega) w4 (.int .i64 k2) (.int .i64 c2) (.int .i64 e2) (.int .i64 q2) (.int .i64 s2) (.int .i64 d2) (.slice Ao2 no2 co2) (.string t2) (.slice An2 nn2 cn2)))
      have HB5 := Aside0.mk ((HX.out.block B (by omega)).trans HB4.out)
      obtain ⟨⟨x0, x1, x2, x3, x4, x5⟩, x6, x7, x8⟩ := HZ4.out.cells
      have g0 := HZ4.out.fz 0
      have g1 := HZ4.out.fz 1
      have g2 := HZ4.out.fz 2
      have g3 := HZ4.out.fz 3
      have g4 := HZ4.out.fz 4
      have g5 := HZ4.out.fz 5
      have g6 := HZ4.out.fz 6
      have g7 := HZ4.out.fz 7
      have g8 := HZ4.out.fz 8
      cases ok with
      | false =>
        have HQ := Aside0.mk (HBA.out rfl)
        have HQ2 := Aside0.mk (show goodM ⟨k, c, e, r, s, d, .slice Ao no co, t, .slice An nn cn⟩ go gn = false by rw [← HMM.out]; exact HQ.out)
        go_wp2_with fail
        go_ret
        exact ⟨by rw [HQ2.out]; rfl, HL5.out⟩
      | true =>
        have HRS2 := Aside0.mk (HST.out rfl)
        go_wp2_with fail
        go_roundw
        case rel => exact ⟨j + 1, _, by omega, by go_num, HRS2.out, HB5.out, HZ5.out, HL5.out, HC5.out⟩
        case measure => simp [intOf]; omega
    · obtain rfl : j = fs.length := by omega
      rw [List.drop_eq_nil_of_le (Nat.le_refl _)] at HRj
      have hlt' : ¬ ((fs.length : Int) < (fs.length : Int)) := by omega
      have HFF := Aside0.mk (show (∃ A n c, rr.o = .slice A n c ∧ n ≤ 4611686018427387904) ∧ (∃ A n c, rr.n = .slice A n c ∧ n ≤ 4611686018427387904) from ⟨by
          rcases HRj.out.o with h | h
          · exact ⟨_, _, _, h.trans HOF.out, HNO.out⟩
          · exact ⟨_, _, _, h.1, by decide⟩, by
          rcases HRj.out.n with h | h
          · exact ⟨_, _, _, h.trans HNF.out, HNB.out⟩
          · exact ⟨_, _, _, h.1, by decide⟩⟩)
      obtain ⟨⟨x0, x1, x2, x3, x4, x5⟩, x6, x7, x8⟩ := HBj.out.cells
      obtain ⟨⟨z0, z1, z2, z3, z4, z5⟩, z6, z7, z8⟩ := HZj.out.cells
      clear HGG HNN HRS HCj
      go_wp2_with fail
      refine (message_fields.calls k _ _ (fields_f k)).mono ?_
      rintro e9 w4 ⟨v, rfl, hr, hb⟩
      have HZ4 := Aside0.mk (HZj.out.below hb)
      have HB4 := Aside0.mk (HBj.out.below hb)
      have HL4 := Aside0.mk (below_step HLj.out hb)
      rw [← HFS.out] at hr
      obtain ⟨F2, cF2, rfl⟩ := Kd.R_slice hr
      have HGL := Aside0.mk (show goodM ⟨k, c, e, r, s, d, .slice Ao no co, t, .slice An nn cn⟩ go gn = (!fs.isEmpty && Mg.same rr (kindM k) (nil0 rr.o) (nil0 rr.n)) by
        rw [← HMM.out, HRj.out.last]; unfold lastOk; rw [HKF.out, HFS.out])
      clear hb hr x0 x1 x2 x3 x4 x5 x6 x7 x8 z0 z1 z2 z3 z4 z5 z6 z7 z8 HCF
      obtain ⟨⟨x0, x1, x2, x3, x4, x5⟩, x6, x7, x8⟩ := HB4.out.cells
      obtain ⟨⟨z0, z1, z2, z3, z4, z5⟩, z6, z7, z8⟩ := HZ4.out.cells
      by_cases hp : 0 < fs.length
      · have hp' : (0 : Int) < (fs.length : Int) := by omega
        obtain ⟨⟨A1, n1, c1, e1, b1⟩, A2, n2, c2, e2, b2⟩ := HFF.out
        have HSS := Aside0.mk (same_c rr (kindM k) (nil0 rr.o) (nil0 rr.n) w4 ⟨_, _, _, e1⟩ ⟨_, _, _, e2⟩ ⟨_, _, _, rfl⟩ ⟨_, _, _, rfl⟩ (fun W _ => by rw [e1]; exact eqrun_nil A1 n1 c1 b1 W) (fun W _ => by rw [e2]; exact eqnote_nil A2 n2 c2 b2 W))
        have HEM := Aside0.mk (show fs.isEmpty = false by cases fs with
          | nil => exact absurd hp (by simp)
          | cons => rfl)
        clear e1 e2 b1 b2 hp
        go_wp2_with fail
        refine HSS.out.mono ?_
        rintro e9 w5 ⟨rfl, hb⟩
        have HL5 := Aside0.mk (below_step HL4.out hb)
        clear hb x0 x1 x2 x3 x4 x5 x6 x7 x8 z0 z1 z2 z3 z4 z5 z6 z7 z8
        go_wp2_with fail
        go_ret
        exact ⟨by rw [HGL.out, HEM.out]; rfl, HL5.out⟩
      · have hp' : ¬ (0 : Int) < (fs.length : Int) := by omega
        have HEM := Aside0.mk (show fs.isEmpty = true by cases fs with
          | nil => rfl
          | cons => exact absurd (by simp) hp)
        clear hp
        go_wp2_with fail
        go_ret
        exact ⟨by rw [HGL.out, HEM.out]; rfl, HL4.out⟩
end Go.Proofs.Ytjbnffadfohofaa.MsgD
end

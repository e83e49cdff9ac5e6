import Derived.RangeFuncNested
import Derived.RangeFuncBound
import Derived.RangeFuncCalls
import Derived.RangeFuncLeaves
import Derived.Shelf.Abstract
import Derived.Shelf.RegionOpen
import Derived.WalkKit
import Derived.OwnWalkIn
import Derived.TacticsInMore
import Derived.LoopNIn
import Derived.LoopIn
import Derived.Outline
import Derived.Test.YtbfdplmgefcogaaProg
import Derived.Below
import Derived.Deep.Draws
import Derived.Deep.AppendLies
import Derived.Maps.AppendAt
import Derived.OwnWalk
import Derived.Laws.BytesArg
import Derived.Laws.MakeOwn
import Derived.Laws.OwnMore
import Derived.Deep.OwnRows
import Derived.Tactics
import Derived.Lib.ConvBytes
import Derived.Laws.Slices
import Derived.KernelRfl
import Derived.RowKit3
import Derived.Deep.LoopGhost
import Derived.Deep.QuietTactic
import Derived.BigQuiet
import Derived.WideLaws
import Derived.Deep.DeepCutAuto
import Derived.Deep.CutBlock
import Derived.Deep.RegionHeld3
import Derived.Laws.Rows
import Derived.Lib.AppendStr
import Derived.ArgAppend
import Derived.Laws.IdiomCopy
import Derived.OrdersHeld
import Derived.Laws.BitsLemmas
import Derived.RowKit
import Derived.Test.YtbfdplmgefcogaaWWords
import Derived.Test.YtbfdplmgefcogaaWLast
import Derived.Test.YtbfdplmgefcogaaWTab
import Derived.Test.YtbfdplmgefcogaaWFour
import Derived.Test.YtbfdplmgefcogaaWQPut
import Derived.Test.YtbfdplmgefcogaaWApart
import Derived.Test.YtbfdplmgefcogaaWArr
import Derived.Test.YtbfdplmgefcogaaWZeros
import Derived.Test.YtbfdplmgefcogaaWFoot
import Derived.Test.YtbfdplmgefcogaaWKept
import Derived.Test.YtbfdplmgefcogaaWShare
import Derived.Test.YtbfdplmgefcogaaWN
import Derived.Test.YtbfdplmgefcogaaWFootNe
import Derived.Test.YtbfdplmgefcogaaWAt
import Derived.Test.YtbfdplmgefcogaaWEqStruct
import Derived.Test.YtbfdplmgefcogaaWRepsOne
import Derived.Test.YtbfdplmgefcogaaWInv
import Derived.Test.YtbfdplmgefcogaaWInvWords
import Derived.Test.YtbfdplmgefcogaaWGuard
import Derived.Test.YtbfdplmgefcogaaWNEv
import Derived.Test.YtbfdplmgefcogaaWMore
import Derived.Lib.SlBytesConst
import Derived.Lib.SmallJoins
import Derived.Deep.Upon
-- MERGED YtbfdplmgefcogaaPBase
section
-- Written by wip/myprint.py of this session, over the kit's print.py: a Lean function for each Go function, and the proof that the code comes to it.
namespace Go.Proofs.Ytbfdplmgefcogaa.P
open Go.RowKit Go.Proofs.YtbfdplmgefcogaaW.PrintWords Go.Proofs.YtbfdplmgefcogaaW.PrintLast Go.Proofs.YtbfdplmgefcogaaW.PrintMore
attribute [local go_sem] max2_int min2_int max_two min_two max_three min_three max_four min_four   -- for this text's walks alone
set_option linter.unusedVariables false
set_option linter.unusedSimpArgs false



def errW : Option Int → Value
  | none => .nilIface
  | some c => .iface 0 (.int .i64 c)
theorem errW_none : errW none = .nilIface := rfl
theorem errW_some (c : Int) : errW (some c) = .iface 0 (.int .i64 c) := rfl

theorem V_string {P : Program} {w : World} {base e : Nat} {ok : Nat → Prop} {src dst e2 : TypeId} {v : Value} {xs : List Int} (hs : P.underlying src = some (.slice e2)) (he : P.underlying e2 = some (.int .u8)) (hd : P.underlying dst = some .string) (h : Kd.V (Kd.int .u8) e w base ok v xs) : (convert src dst v).run P w = .ok (.string (strOfNums xs)) w := by
  obtain ⟨A, c, rfl, _, hF⟩ := h
  exact Kd.C_string hs he hd (Kd.F_now hF)
theorem info43 : (Try.prog.info? 43).map (fun i => (i.zero, i.size, i.bytes)) = some (some (.agg #[(.int .i64 0), (.string ⟨#[]⟩), (.int .i64 0)]), 3, 32) := by kernel_rfl
theorem info51 : (Try.prog.info? 51).map (fun i => (i.zero, i.size, i.bytes)) = some (some (.agg #[(.int .i64 0), (.string ⟨#[]⟩)]), 2, 24) := by kernel_rfl
-- the values' own types
/-! #### struct type 43 -/
structure S43 where
  f0 : Int
  f1 : ByteArray
  f2 : Int
def z43 : S43 := ⟨(0 : Int), (⟨#[]⟩ : ByteArray), (0 : Int)⟩
def k43 : Kd S43 := Kd.iso (Kd.pair (Kd.int .i64) (Kd.pair Kd.string (Kd.int .i64))) (fun x : S43 => (x.f0, x.f1, x.f2))
theorem k43_open {w : World} {x : S43} {cs : List Value} (h : k43.K w x cs) : cs = [.int .i64 x.f0, .string x.f1, .int .i64 x.f2] := by
  obtain ⟨_, _, rfl, rfl, ⟨_, _, rfl, rfl, rfl⟩⟩ := h
  exact rfl
theorem k43_openM {w : World} {base : Nat} {ok : Nat → Prop} {x : S43} {cs : List Value} (h : k43.M w base ok x cs) : cs = [.int .i64 x.f0, .string x.f1, .int .i64 x.f2] := by
  obtain ⟨_, _, rfl, rfl, ⟨_, _, rfl, rfl, rfl⟩⟩ := h
  exact rfl
theorem k43_mk (w : World) (x : S43)  : k43.K w x [.int .i64 x.f0, .string x.f1, .int .i64 x.f2] := ⟨[.int .i64 x.f0], [.string x.f1, .int .i64 x.f2], rfl, rfl, ⟨[.string x.f1], [.int .i64 x.f2], rfl, rfl, rfl⟩⟩
theorem k43_mkM (w : World) (base : Nat) (ok : Nat → Prop) (x : S43)  : k43.M w base ok x [.int .i64 x.f0, .string x.f1, .int .i64 x.f2] := ⟨[.int .i64 x.f0], [.string x.f1, .int .i64 x.f2], rfl, rfl, ⟨[.string x.f1], [.int .i64 x.f2], rfl, rfl, rfl⟩⟩
def rd_T43 (xs : List S43) (i : Int) : S43 := xs.getD i.toNat z43
theorem at_T43 {w : World} {A : Option Addr} {n : Nat} {xs : List S43} (h : Kd.C k43 w A n xs) (i : Int) (h0 : 0 ≤ i) (h1 : i < n) : ∃ ad , A = some ad ∧ w.cell? (ad.add (i.toNat * 3)) = some (.int .i64 (rd_T43 xs i).f0) ∧ w.cell? ⟨(ad.add (i.toNat * 3)).block, (ad.add (i.toNat * 3)).off + 1, none⟩ = some (.string (rd_T43 xs i).f1) ∧ w.cell? ⟨(ad.add (i.toNat * 3)).block, (ad.add (i.toNat * 3)).off + 2, none⟩ = some (.int .i64 (rd_T43 xs i).f2) := by
  obtain ⟨ad, c, e, _, hK, hc0⟩ := Kd.C_get h z43 i h0 h1
  have hc : ∀ j u, c[j]? = some u → w.cell? (ad.add (i.toNat * 3 + j)) = some u := hc0
  obtain rfl := k43_open hK
  exact ⟨ad, e, hc 0 _ rfl, by rw [← add_field _ _ 1 (by omega)]; exact hc 1 _ rfl, by rw [← add_field _ _ 2 (by omega)]; exact hc 2 _ rfl⟩

def rd_L3 (xs : List (List S43)) (i : Int) : (List S43) := xs.getD i.toNat ([] : List S43)
theorem at_L3 {w : World} {A : Option Addr} {n : Nat} {xs : List (List S43)} (h : Kd.C (Kd.slice 43 k43) w A n xs) (i : Int) (h0 : 0 ≤ i) (h1 : i < n) : ∃ ad A0 c0, A = some ad ∧ w.cell? (ad.add i.toNat) = some (.slice A0 (rd_L3 xs i).length c0) ∧ (rd_L3 xs i).length ≤ c0 ∧ k43.C w A0 (rd_L3 xs i).length (rd_L3 xs i) := by
  obtain ⟨ad, c, e, _, hK, hc0⟩ := Kd.C_get h ([] : List S43) i h0 h1
  have hc : ∀ j u, c[j]? = some u → w.cell? (ad.add (i.toNat * 1 + j)) = some u := hc0
  obtain ⟨A0, c0, rfl, l0, g0⟩ := hK
  exact ⟨ad, A0, c0, e, by have hq := hc 0 _ rfl; rwa [Nat.mul_one, Nat.add_zero] at hq, l0, g0⟩

/-! #### struct type 51 -/
structure S51 where
  f0 : Int
  f1 : ByteArray
def z51 : S51 := ⟨(0 : Int), (⟨#[]⟩ : ByteArray)⟩
def k51 : Kd S51 := Kd.iso (Kd.pair (Kd.int .i64) Kd.string) (fun x : S51 => (x.f0, x.f1))
theorem k51_open {w : World} {x : S51} {cs : List Value} (h : k51.K w x cs) : cs = [.int .i64 x.f0, .string x.f1] := by
  obtain ⟨_, _, rfl, rfl, rfl⟩ := h
  exact rfl
theorem k51_openM {w : World} {base : Nat} {ok : Nat → Prop} {x : S51} {cs : List Value} (h : k51.M w base ok x cs) : cs = [.int .i64 x.f0, .string x.f1] := by
  obtain ⟨_, _, rfl, rfl, rfl⟩ := h
  exact rfl
theorem k51_mk (w : World) (x : S51)  : k51.K w x [.int .i64 x.f0, .string x.f1] := ⟨[.int .i64 x.f0], [.string x.f1], rfl, rfl, rfl⟩
theorem k51_mkM (w : World) (base : Nat) (ok : Nat → Prop) (x : S51)  : k51.M w base ok x [.int .i64 x.f0, .string x.f1] := ⟨[.int .i64 x.f0], [.string x.f1], rfl, rfl, rfl⟩
def rd_T51 (xs : List S51) (i : Int) : S51 := xs.getD i.toNat z51
theorem at_T51 {w : World} {A : Option Addr} {n : Nat} {xs : List S51} (h : Kd.C k51 w A n xs) (i : Int) (h0 : 0 ≤ i) (h1 : i < n) : ∃ ad , A = some ad ∧ w.cell? (ad.add (i.toNat * 2)) = some (.int .i64 (rd_T51 xs i).f0) ∧ w.cell? ⟨(ad.add (i.toNat * 2)).block, (ad.add (i.toNat * 2)).off + 1, none⟩ = some (.string (rd_T51 xs i).f1) := by
  obtain ⟨ad, c, e, _, hK, hc0⟩ := Kd.C_get h z51 i h0 h1
  have hc : ∀ j u, c[j]? = some u → w.cell? (ad.add (i.toNat * 2 + j)) = some u := hc0
  obtain rfl := k51_open hK
  exact ⟨ad, e, hc 0 _ rfl, by rw [← add_field _ _ 1 (by omega)]; exact hc 1 _ rfl⟩

end Go.Proofs.Ytbfdplmgefcogaa.P
end
-- MERGED YtbfdplmgefcogaaEditL
section
/- The plain law of edits: what runs are, what they sum to, what is in order, the edit of any runs; no program in sight. -/
namespace Go.Proofs.Ytbfdplmgefcogaa.EditL
open Go.RowKit Go.Proofs.Ytbfdplmgefcogaa.P

abbrev Rn := S43
def E : ByteArray := ⟨#[]⟩
theorem E_size : E.size = 0 := rfl
theorem eq_E {s : ByteArray} (h : s.size = 0) : s = E := by
  obtain ⟨⟨l⟩⟩ := s
  have : l.length = 0 := h
  obtain rfl : l = [] := List.eq_nil_of_length_eq_zero this
  rfl
/-- Of a run: 1 keeps, 2 adds, 3 drops, 0 is not right. -/
def knd (r : Rn) : Int :=
  if 0 < r.f0 ∧ r.f1.size = 0 ∧ r.f2 = 0 then 1 else if r.f0 = 0 ∧ r.f1.size ≠ 0 ∧ r.f2 = 0 then 2 else if r.f0 = 0 ∧ r.f1.size = 0 ∧ 0 < r.f2 then 3 else 0
theorem knd_cases (r : Rn) : (0 < r.f0 ∧ r.f1.size = 0 ∧ r.f2 = 0 ∧ knd r = 1) ∨ (r.f0 = 0 ∧ 0 < r.f1.size ∧ r.f2 = 0 ∧ knd r = 2) ∨ (r.f0 = 0 ∧ r.f1.size = 0 ∧ 0 < r.f2 ∧ knd r = 3) ∨ (knd r = 0 ∧ ¬ (0 < r.f0 ∧ r.f1.size = 0 ∧ r.f2 = 0) ∧ ¬ (r.f0 = 0 ∧ r.f1.size ≠ 0 ∧ r.f2 = 0) ∧ ¬ (r.f0 = 0 ∧ r.f1.size = 0 ∧ 0 < r.f2)) := by
  unfold knd
  by_cases h1 : 0 < r.f0 ∧ r.f1.size = 0 ∧ r.f2 = 0
  · rw [if_pos h1]; exact .inl ⟨h1.1, h1.2.1, h1.2.2, rfl⟩
  · rw [if_neg h1]
    by_cases h2 : r.f0 = 0 ∧ r.f1.size ≠ 0 ∧ r.f2 = 0
    · rw [if_pos h2]; exact .inr (.inl ⟨h2.1, by omega, h2.2.2, rfl⟩)
    · rw [if_neg h2]
      by_cases h3 : r.f0 = 0 ∧ r.f1.size = 0 ∧ 0 < r.f2
      · rw [if_pos h3]; exact .inr (.inr (.inl ⟨h3.1, h3.2.1, h3.2.2, rfl⟩))
      · rw [if_neg h3]; exact .inr (.inr (.inr ⟨rfl, h1, h2, h3⟩))
theorem knd_pos {r : Rn} (h : knd r ≠ 0) : 0 ≤ r.f0 ∧ 0 ≤ r.f2 := by
  rcases knd_cases r with h1 | h1 | h1 | h1
  · omega
  · omega
  · omega
  · exact absurd h1.1 h
theorem knd_keep {k : Int} (h : 0 < k) : knd ⟨k, E, 0⟩ = 1 := by unfold knd; rw [if_pos ⟨h, rfl, rfl⟩]
theorem knd_add {a : ByteArray} (h : a.size ≠ 0) : knd ⟨0, a, 0⟩ = 2 := by
  unfold knd
  rw [if_neg (fun e => absurd e.1 (by show ¬ (0 : Int) < 0; omega)), if_pos ⟨rfl, h, rfl⟩]
theorem knd_drop {d : Int} (h : 0 < d) : knd ⟨0, E, d⟩ = 3 := by
  unfold knd
  rw [if_neg (fun e => absurd e.1 (by show ¬ (0 : Int) < 0; omega)), if_neg (fun e => e.2.1 rfl), if_pos ⟨rfl, rfl, h⟩]
/-- Of how many bytes, and to how many. -/
def inL : List Rn → Int
  | [] => 0
  | r :: l => (r.f0 + r.f2) + inL l
def outL : List Rn → Int
  | [] => 0
  | r :: l => (r.f0 + (r.f1.size : Int)) + outL l
def fits : List Rn → Int → Int → Bool
  | [], _, _ => true
  | r :: l, i, o => (decide (r.f0 ≤ 16777216 - i) && decide (r.f2 ≤ 16777216 - i) && decide (r.f0 ≤ 16777216 - o) && decide ((r.f1.size : Int) ≤ 16777216 - o)) && fits l (i + (r.f0 + r.f2)) (o + (r.f0 + (r.f1.size : Int)))
/-- In order, behind one of a kind? -/
def ord : List Rn → Int → Bool
  | [], _ => true
  | r :: l, last => (decide (knd r ≠ 0) && decide (knd r ≠ last) && decide (¬ (last = 3 ∧ knd r = 2))) && ord l (knd r)
def good (l : List Rn) : Bool := (ord l 0 && decide (l.length ≤ 65536)) && fits l 0 0
/-- What one that keeps, one that adds and one that drops come to. -/
def fl (k : Int) (a : ByteArray) (d : Int) : List Rn := (if 0 < k then [⟨k, E, 0⟩] else []) ++ ((if a.size ≠ 0 then [⟨0, a, 0⟩] else []) ++ (if 0 < d then [⟨0, E, d⟩] else []))
def jn : List Rn → Int → ByteArray → Int → List Rn
  | [], k, a, d => fl k a d
  | r :: l, k, a, d => if knd r = 1 ∧ (a.size ≠ 0 ∨ 0 < d) then fl k a d ++ jn l r.f0 r.f1 r.f2 else jn l (k + r.f0) (a ++ r.f1) (d + r.f2)
def fine (l : List Rn) : List Rn := l.filter fun r => decide (knd r ≠ 0)
def out (l : List Rn) : List Rn := jn (fine l) 0 E 0
def norm (l : List Rn) : List Rn := if fits (fine l) 0 0 then (if good (out l) then out l else []) else []
theorem fine_ok (l : List Rn) : ∀ r ∈ fine l, knd r ≠ 0 := fun r h => by simpa using (List.mem_filter.1 h).2
theorem fine_len (l : List Rn) : (fine l).length ≤ l.length := List.length_filter_le _ _
theorem fine_cons (r : Rn) (l : List Rn) : fine (r :: l) = if knd r ≠ 0 then r :: fine l else fine l := by
  unfold fine
  rw [List.filter_cons]
  by_cases h : knd r ≠ 0
  · rw [if_pos h, if_pos (by simpa using h)]
  · rw [if_neg h, if_neg (by simpa using h)]
theorem fine_append (a b : List Rn) : fine (a ++ b) = fine a ++ fine b := List.filter_append ..
theorem fine_self {l : List Rn} (h : ∀ r ∈ l, knd r ≠ 0) : fine l = l := List.filter_eq_self.2 fun r hr => by simpa using h r hr
theorem inL_append (a b : List Rn) : inL (a ++ b) = inL a + inL b := by
  induction a with
  | nil => simp [inL]
  | cons r a ih => rw [List.cons_append]; simp only [inL]; rw [ih]; omega
theorem outL_append (a b : List Rn) : outL (a ++ b) = outL a + outL b := by
  induction a with
  | nil => simp [outL]
  | cons r a ih => rw [List.cons_append]; simp only [outL]; rw [ih]; omega
theorem inL_nonneg {l : List Rn} (h : ∀ r ∈ l, knd r ≠ 0) : 0 ≤ inL l ∧ 0 ≤ outL l := by
  induction l with
  | nil => exact ⟨Int.le_refl _, Int.le_refl _⟩
  | cons r l ih =>
    have h1 := knd_pos (h r List.mem_cons_self)
    have h2 := ih fun x hx => h x (List.mem_cons_of_mem _ hx)
    simp only [inL, outL]
    omega
/-- Of right runs: they fit if their sums do. -/
theorem fits_iff {l : List Rn} (h : ∀ r ∈ l, knd r ≠ 0) : ∀ i o : Int, i ≤ 16777216 → o ≤ 16777216 → (fits l i o = true ↔ i + inL l ≤ 16777216 ∧ o + outL l ≤ 16777216) := by
  induction l with
  | nil => intro i o hi ho; simp [fits, inL, outL]; omega
  | cons r l ih =>
    intro i o hi ho
    have h1 := knd_cases r
    have h0 := h r List.mem_cons_self
    have h2 : ∀ x ∈ l, knd x ≠ 0 := fun x hx => h x (List.mem_cons_of_mem _ hx)
    have h3 := inL_nonneg h2
    simp only [fits, inL, outL, Bool.and_eq_true, decide_eq_true_eq]
    constructor
    · rintro ⟨⟨⟨⟨a1, a2⟩, a3⟩, a4⟩, h5⟩
      have := (ih h2 _ _ (by omega) (by omega)).1 h5
      omega
    · rintro ⟨a1, a2⟩
      refine ⟨⟨⟨⟨by omega, by omega⟩, by omega⟩, by omega⟩, (ih h2 _ _ (by omega) (by omega)).2 ⟨by omega, by omega⟩⟩
theorem ord_ok {l : List Rn} : ∀ {k : Int}, ord l k = true → ∀ r ∈ l, knd r ≠ 0 := by
  induction l with
  | nil => intro k _ r hr; cases hr
  | cons x l ih =>
    intro k h r hr
    simp only [ord, Bool.and_eq_true, decide_eq_true_eq] at h
    rcases List.mem_cons.1 hr with rfl | hr
    · exact h.1.1.1
    · exact ih h.2 r hr
theorem good_ok {l : List Rn} (h : good l = true) : ord l 0 = true ∧ l.length ≤ 65536 ∧ fits l 0 0 = true ∧ ∀ r ∈ l, knd r ≠ 0 := by
  unfold good at h
  simp only [Bool.and_eq_true, decide_eq_true_eq] at h
  exact ⟨h.1.1, h.1.2, h.2, ord_ok h.1.1⟩
theorem good_nil : good [] = true := rfl
end Go.Proofs.Ytbfdplmgefcogaa.EditL
end
-- MERGED YtbfdplmgefcogaaOwn
section
/- Small words of this session's own, beside the print's: rows that lie in a block that is known whole. -/
namespace Go.Proofs.Ytbfdplmgefcogaa.Own
open Go.RowKit Go.Proofs.YtbfdplmgefcogaaW.PrintWords Go.Proofs.YtbfdplmgefcogaaW.PrintLast Go.Proofs.YtbfdplmgefcogaaW.PrintMore

/-- A row whose elements' cells lie in a block that is known. -/
theorem C_of_block {α : Type} (d : Kd α) {W : World} {g : Nat} {C : Array Value} {t : TypeId} {fr : Nat × Nat} {xs : List α} {inner : List Value} (h : W.heap[g]? = some (.cells C t fr))
    (hr : Reps (d.K W) d.sz xs inner) (hC : ∀ (j : Nat) (u : Value), inner[j]? = some u → C[j]? = some u) (hm : xs.length ≤ 9223372036854775807) : Kd.C d W (some ⟨g, 0, none⟩) xs.length xs := by
  refine ⟨rfl, hm, fun _ => ⟨_, rfl, fun j p hj => ?_⟩⟩
  refine ⟨(inner.drop (j * d.sz)).take d.sz, ?_, hr.2 j p hj, fun i u hu => ?_⟩
  · exact d.K_len (hr.2 j p hj)
  · have hl : i < d.sz := by
      have := (List.getElem?_eq_some_iff.1 hu).1
      rw [List.length_take] at this
      omega
    rw [List.getElem?_take_of_lt hl, List.getElem?_drop] at hu
    rw [add_plain, World.cell?, h]
    simp only []
    exact hC _ _ hu

theorem reps_nums (k : IntKind) (W : World) (xs : List Int) : Reps ((Kd.int k).K W) (Kd.int k).sz xs (nums k xs) := by
  refine ⟨by rw [nums_length]; exact (Nat.mul_one _).symm, fun j p hj => ?_⟩
  show ((nums k xs).drop (j * 1)).take 1 = [.int k p]
  rw [Nat.mul_one]
  have h1 : (nums k xs)[j]? = some (.int k p) := by simp [nums, hj]
  obtain ⟨hl, he⟩ := List.getElem?_eq_some_iff.1 h1
  rw [List.drop_eq_getElem_cons hl, he]
  rfl

theorem C_of_nums (k : IntKind) {W : World} {g : Nat} {C : Array Value} {t : TypeId} {fr : Nat × Nat} (xs : List Int) (h : W.heap[g]? = some (.cells C t fr)) (hC : ∀ (j : Nat) (u : Value), (nums k xs)[j]? = some u → C[j]? = some u)
    (hm : xs.length ≤ 9223372036854775807) : Kd.C (Kd.int k) W (some ⟨g, 0, none⟩) xs.length xs := C_of_block (Kd.int k) h (reps_nums k W xs) hC hm

theorem C_of_lit (k : IntKind) {W : World} {g : Nat} {C : Array Value} {t : TypeId} {fr : Nat × Nat} (xs : List Int) (h : W.heap[g]? = some (.cells C t fr)) (hC : C.toList = nums k xs)
    (hm : xs.length ≤ 9223372036854775807) : Kd.C (Kd.int k) W (some ⟨g, 0, none⟩) xs.length xs := C_of_nums k xs h (fun j u hu => by rw [← hC, Array.getElem?_toList] at hu; exact hu) hm

theorem nums_at {k : IntKind} {xs : List Int} {j : Nat} {u : Value} (h : (nums k xs)[j]? = some u) : ∃ x, xs[j]? = some x ∧ u = .int k x := by
  rw [nums, List.getElem?_map] at h
  cases e : xs[j]? with
  | none => rw [e] at h; cases h
  | some x => rw [e] at h; exact ⟨x, rfl, (Option.some.inj h).symm⟩
/-- The cells of a row of numbers that is read. -/
theorem C_cells {k : IntKind} {w : World} {A : Option Addr} {n : Nat} {xs : List Int} (h : Kd.C (Kd.int k) w A n xs) (b : Addr) (hb : A = some b) (j : Nat) (u : Value) (hu : (nums k xs)[j]? = some u) : w.cell? (b.add j) = some u := by
  obtain ⟨x, hx, rfl⟩ := nums_at hu
  have hl := (List.getElem?_eq_some_iff.1 hx).1
  obtain ⟨ad, e, hc⟩ := h.2.2 (by rw [← h.1]; omega)
  rw [hb] at e
  obtain rfl := Option.some.inj e
  obtain ⟨c, _, hr, hcell⟩ := hc j x hx
  have hc1 : c = [.int k x] := hr
  subst hc1
  have := hcell 0 _ rfl
  rwa [show j * (Kd.int k).sz + 0 = j from Nat.mul_one j] at this
theorem C_none {k : IntKind} {w : World} {A : Option Addr} {n : Nat} {xs : List Int} (h : Kd.C (Kd.int k) w A n xs) (hA : A = none) : n = 0 := by
  rcases Nat.eq_zero_or_pos n with e | e
  · exact e
  · obtain ⟨ad, e2, _⟩ := h.2.2 e
    rw [hA] at e2; cases e2

theorem C_take {α : Type} {d : Kd α} {w : World} {A : Option Addr} {n : Nat} {xs : List α} (h : Kd.C d w A n xs) (m : Nat) (hm : m ≤ n) : Kd.C d w A m (xs.take m) := by
  refine ⟨by rw [List.length_take, h.1]; omega, by have := h.2.1; omega, fun hp => ?_⟩
  obtain ⟨ad, e, hc⟩ := h.2.2 (by omega)
  refine ⟨ad, e, fun j p hj => hc j p ?_⟩
  have hl : j < m := by
    have := (List.getElem?_eq_some_iff.1 hj).1
    rw [List.length_take] at this
    omega
  rwa [List.getElem?_take_of_lt hl] at hj
/-- An append of numbers to a slice that is full ('b[:len(b):len(b)]'): the answer lies in new memory. -/
theorem append_full {P : Program} {w : World} {ops : Array Oper} {rest : List Oper} {o : Oper} {a : Act} {Q : Exit → Act → World → Prop} (k : IntKind)
    (hg : o.guard = none) (s x : Operand) (t e : TypeId) (bytes : Nat) (hop : o.op = Op.call { callee := Callee.builtin Builtin.append, args := #[s, x], argTypes := #[t, t] })
    (h1 : P.underlying t = some (.slice e)) (hi : (P.info? e).map (fun i => (i.zero, i.size, i.bytes)) = some (some (.int k 0), 1, bytes))
    (A : Option Addr) (n : Nat) (xs : List Int) (hs : a.eval s = .slice A n n) (hx : Kd.C (Kd.int k) w A n xs)
    (A2 : Option Addr) (m c2 : Nat) (ys : List Int) (he2 : a.eval x = .slice A2 m c2) (hy : Kd.C (Kd.int k) w A2 m ys) (hm : 0 < m)
    (b1 : n + m ≤ maxLen) (b2 : (n + m) * bytes ≤ 140737488355328)
    (hK : ∀ v' w', Kd.R (Kd.int k) e w' w.heap.size (fun _ => True) v' (xs ++ ys) → Below w.heap.size w w' → wpList P ops Q rest (a.put o.dst v') w') :
    wpList P ops Q (o :: rest) a w := by
  obtain ⟨i0, hi0, hz0, hz1, hz2⟩ := info_parts hi
  obtain ⟨ad, hA2, _⟩ := hy.2.2 hm
  subst hA2
  refine wpList_append_grows w hg s x t hop e i0 (.int k 0) 1 bytes h1 hi0 hz0 hz1 hz2 rfl (by decide) A n n (nums k xs) hs (fun hA => ⟨C_none hx hA, C_none hx hA⟩) (by rw [nums_length, hx.1]; omega)
    (fun b hb j u hu => C_cells hx b hb j u hu) ad m c2 (nums k ys) he2 (by rw [nums_length, hy.1]; omega) (fun j u hu => C_cells hy ad rfl j u hu)
    (fun u hu => by
      rw [nums, List.mem_map] at hu
      obtain ⟨z, _, rfl⟩ := hu
      rfl) (by omega) b1 b2 ?_
  intro v' w' ho hgr
  refine hK v' w' (Kd.R_of_own ?_ (fun _ _ => trivial)) ((Below.refl _ w).grown hgr (Nat.le_refl _) (fun k e => by cases e))
  have e1 : (xs ++ ys).length = n + m := by rw [List.length_append, hx.1, hy.1]
  have e2 : encs (Value.int k) (xs ++ ys) = nums k xs ++ nums k ys := by rw [encs_append]; rfl
  rw [e1, e2]
  exact ho

theorem below_after {B n : Nat} {w W w' : World} (h : Below B w W) (hb : Below n W w') (hn : W.heap.size = n) (hB : B ≤ n) : Below B w w' := by
  subst hn; exact below_then h hB hb

theorem heap_new (W : World) (o : Obj) : (W.alloc o).heap[W.heap.size]? = some o := heap_alloc_new W o
theorem heap_old (W : World) (o : Obj) (k : Nat) (h : k < W.heap.size) : (W.alloc o).heap[k]? = W.heap[k]? := Below.heap_alloc W o k h
theorem heap_new_drewN (W : World) (n : Nat) (o : Obj) : ((W.drewN n).alloc o).heap[W.heap.size]? = some o := heap_alloc_new (W.drewN n) o

/-! A slice of bytes that is read: what it reads as; it may lie anywhere, and is never written. -/
def Sl (w : World) (v : Value) (xs : List Int) : Prop := ∃ A c, v = .slice A xs.length c ∧ xs.length ≤ c ∧ Kd.C (Kd.int .u8) w A xs.length xs
theorem Sl.below {w w' : World} {v : Value} {xs : List Int} (h : Sl w v xs) (hb : Below w.heap.size w w') : Sl w' v xs := by
  obtain ⟨A, c, e, hc, hC⟩ := h
  exact ⟨A, c, e, hc, Kd.C_below hC hb⟩
theorem Sl.drew {w : World} {v : Value} {xs : List Int} (h : Sl w v xs) : Sl w.drew v xs := h.below (below_drew1 (Below.refl _ _))
theorem Sl.drewN {w : World} {v : Value} {xs : List Int} (h : Sl w v xs) (n : Nat) : Sl (w.drewN n) v xs := h.below (pw_below_drewN (Below.refl _ _) n)
theorem Sl.alloc {w : World} {v : Value} {xs : List Int} (h : Sl w v xs) (o : Obj) : Sl (w.alloc o) v xs := h.below (below_alloc (Below.refl _ _) o)
theorem Sl.of_R {w : World} {e base : Nat} {ok : Nat → Prop} {v : Value} {xs : List Int} (h : Kd.R (Kd.int .u8) e w base ok v xs) : Sl w v xs := Kd.R_reads h
theorem Sl.of_V {w : World} {e base : Nat} {ok : Nat → Prop} {v : Value} {xs : List Int} (h : Kd.V (Kd.int .u8) e w base ok v xs) : Sl w v xs := by
  obtain ⟨A, c, rfl, hc, hF⟩ := h
  exact ⟨A, c, rfl, hc, Kd.F_now hF⟩
theorem Sl.to_V {w : World} {e base : Nat} {v : Value} {xs : List Int} (h : Sl w v xs) : Kd.V (Kd.int .u8) e w base (fun k_ => k_ < w.heap.size) v xs := by
  obtain ⟨A, c, rfl, hc, hC⟩ := h
  refine Kd.V_mk hc (fun W' hW => ?_)
  refine ⟨hC.1, hC.2.1, fun hp => ?_⟩
  obtain ⟨ad, e, hr⟩ := hC.2.2 hp
  refine ⟨ad, e, fun j p hj => ?_⟩
  obtain ⟨c, h1, h2, h3⟩ := hr j p hj
  refine ⟨c, h1, h2, fun i u hu => ?_⟩
  have hlt := World.block_lt_of_cell? w _ (h3 i u hu)
  exact (World.cell?_of_block (hW _ hlt hlt)).trans (h3 i u hu)
theorem Sl.nil (w : World) : Sl w (.slice none 0 0) [] := ⟨none, 0, rfl, Nat.le_refl _, Kd.C_nil _ _⟩
theorem Sl.mk {w : World} {A : Option Addr} {c : Nat} {xs : List Int} (h : Kd.C (Kd.int .u8) w A xs.length xs) (hc : xs.length ≤ c) : Sl w (.slice A xs.length c) xs := ⟨A, c, rfl, hc, h⟩
theorem Sl.string {P : Program} {w : World} {src dst e : TypeId} {v : Value} {xs : List Int} (hs : P.underlying src = some (.slice e)) (he : P.underlying e = some (.int .u8)) (hd : P.underlying dst = some .string)
    (h : Sl w v xs) : (convert src dst v).run P w = .ok (.string (strOfNums xs)) w := by
  obtain ⟨A, c, rfl, _, hC⟩ := h
  exact Kd.C_string hs he hd hC
theorem below_of_drawn {w w' : World} (h : Drawn0 w w') : Below w.heap.size w w' := h.below


/-- An append of bytes to a slice that is full, as what the operation comes to. -/
theorem exec_app {P : Program} {w : World} {f : Operand → Value} {o : Oper} {s x : Operand} {t e : TypeId} {bytes : Nat} (hop : o.op = Op.call { callee := Callee.builtin Builtin.append, args := #[s, x], argTypes := #[t, t] })
    (h1 : P.underlying t = some (.slice e)) (hi : (P.info? e).map (fun i => (i.zero, i.size, i.bytes)) = some (some (.int .u8 0), 1, bytes))
    {A : Option Addr} {n : Nat} {xs : List Int} (hs : f s = .slice A n n) (hx : Kd.C (Kd.int .u8) w A n xs) {v : Value} {ys : List Int} (he : f x = v) (hy : Sl w v ys)
    (b1 : n + ys.length ≤ maxLen) (b2 : (n + ys.length) * bytes ≤ 140737488355328) :
    ∃ v' w', (execOp f o).run P w = .ok (.value v') w' ∧ Sl w' v' (xs ++ ys) ∧ Below w.heap.size w w' := by
  obtain ⟨i0, hi0, hz0, hz1, hz2⟩ := info_parts hi
  obtain ⟨A2, c2, rfl, hc2, hC2⟩ := hy
  have hxl : xs.length = n := hx.1
  rcases Nat.eq_zero_or_pos ys.length with h0 | hm
  · obtain rfl : ys = [] := List.eq_nil_of_length_eq_zero h0
    have hsrc : Src P i0.size t (.slice A2 ([] : List Int).length c2) 0 [] w := by
      cases A2 with
      | none => exact Src.ofNil _ h1 c2
      | some ad => exact Src.ofSlice _ h1 ad 0 c2 [] (by simp) (fun j u hj => by cases j <;> cases hj) (fun u hu => by cases hu)
    have hrun := run_append_nothing (P := P) w t t o.type e i0 h1 hi0 A n n (Nat.le_refl _) _ hsrc
    refine ⟨.slice A n n, w, ?_, ?_, Below.refl _ _⟩
    · have hrun' : (Builtin.append_ #[t, t] o.type #[Value.slice A n n, Value.slice A2 0 c2]).run P w = .ok (.slice A n n) w := hrun
      simp [execOp, hop, resolve, invoke, builtin, hs, he, hrun', Result.andThen]
    · rw [List.append_nil]
      subst hxl
      exact ⟨A, xs.length, rfl, Nat.le_refl _, hx⟩
  · obtain ⟨ad, hA2, _⟩ := hC2.2.2 hm
    subst hA2
    have hC : ∀ j u, (nums .u8 ys)[j]? = some u → w.cell? (ad.add j) = some u := fun j u hu => C_cells hC2 ad rfl j u hu
    have one : ∀ u ∈ nums .u8 ys, u.oneCell' = true := fun u hu => by
      rw [nums, List.mem_map] at hu
      obtain ⟨z, _, rfl⟩ := hu
      rfl
    have fin : ∀ v' w', w'.ownsRow w.heap.size e 1 v' (n + ys.length) (nums .u8 xs ++ nums .u8 ys) → Sl w' v' (xs ++ ys) := by
      intro v' w' ho
      refine Sl.of_R (e := e) (base := w.heap.size) (ok := fun _ => True) (Kd.R_of_own ?_ (fun _ _ => trivial))
      have e1 : (xs ++ ys).length = n + ys.length := by rw [List.length_append, hxl]
      have e2 : encs (Value.int .u8) (xs ++ ys) = nums .u8 xs ++ nums .u8 ys := by rw [encs_append]; rfl
      rw [e1, e2]
      exact ho
    cases A with
    | some b =>
      obtain ⟨v', w', hrun, r1, r2⟩ := run_append_arg_grows (P := P) w t o.type e i0 (.int .u8 0) 1 bytes h1 hi0 hz0 hz1 hz2 rfl (by decide) b n n (nums .u8 xs) (by rw [nums_length, hxl]; omega) (fun j u hu => C_cells hx b rfl j u hu) ad ys.length c2 (nums .u8 ys) (by rw [nums_length]; omega) hC (by omega) b1 b2
      refine ⟨v', w', ?_, fin v' w' r1, (Below.refl _ w).grown r2 (Nat.le_refl _) (fun k e => by cases e)⟩
      simp [execOp, hop, resolve, invoke, builtin, hs, he, hrun, Result.andThen]
    | none =>
      obtain rfl : n = 0 := C_none hx rfl
      obtain rfl : xs = [] := List.eq_nil_of_length_eq_zero hxl
      obtain ⟨v', w', hrun, r1, r2, _⟩ := run_append_own (P := P) w w.heap.size t o.type e i0 (.int .u8 0) 1 bytes h1 hi0 hz0 hz1 hz2 rfl (by decide) (.slice none 0 0) 0 [] (World.ownsRow_nil w _ e 1) ad ys.length c2 (nums .u8 ys) (by rw [nums_length]; omega) hC one b1 b2 (Nat.le_refl _)
      refine ⟨v', w', ?_, fin v' w' r1, (Below.refl _ w).grown r2 (Nat.le_refl _) (fun k e => by cases e)⟩
      simp [execOp, hop, resolve, invoke, builtin, hs, he, hrun, Result.andThen]
theorem Sl.toC {w : World} {A : Option Addr} {n c : Nat} {xs : List Int} (h : Sl w (.slice A n c) xs) : n = xs.length ∧ n ≤ c ∧ Kd.C (Kd.int .u8) w A n xs := by
  obtain ⟨A', c', e, hc, hC⟩ := h
  injection e with e1 e2 e3
  subst e1; subst e2; subst e3
  exact ⟨rfl, hc, hC⟩
/-- The same in a region that draws its order. -/
theorem value_app {P : Program} {oi : Oper} {ops : Array Oper} {Q : Exit → Act → World → Prop} {N : Option Tmp} {a : Act} {w : World} {K : Act → World → Prop} {s x : Operand} {t e : TypeId} {bytes : Nat} (hw : Region.wanted oi (yielded ops a.tmps) = true) (hN : oi.dst = N)
    (hop : oi.op = Op.call { callee := Callee.builtin Builtin.append, args := #[s, x], argTypes := #[t, t] })
    (h1 : P.underlying t = some (.slice e)) (hi : (P.info? e).map (fun i => (i.zero, i.size, i.bytes)) = some (some (.int .u8 0), 1, bytes))
    {A : Option Addr} {n c : Nat} {xs : List Int} (hs : a.eval s = .slice A n n) (hx : Sl w (.slice A n c) xs) {v : Value} {ys : List Int} (he : a.eval x = v) (hy : Sl w v ys)
    (b1 : n + ys.length ≤ maxLen) (b2 : (n + ys.length) * bytes ≤ 140737488355328)
    (h : ∀ v' w', Sl w' v' (xs ++ ys) → Below w.heap.size w w' → K (a.put N v') w') : if Region.wanted oi (yielded ops a.tmps) = true then Oper.wp P oi a w K Q else K (a.put N undef) w := by
  obtain ⟨v', w', hr, h1', h2⟩ := exec_app (o := oi) (f := a.eval) hop h1 hi hs hx.toC.2.2 he hy b1 b2
  exact value_ hw hN hr (h v' w' h1' h2)
end Go.Proofs.Ytbfdplmgefcogaa.Own
end
-- MERGED YtbfdplmgefcogaaPvariorumref06Kind
section
-- Written by wip/myprint.py of this session, over the kit's print.py: a Lean function for each Go function, and the proof that the code comes to it.
namespace Go.Proofs.Ytbfdplmgefcogaa.P
open Go.RowKit Go.Proofs.YtbfdplmgefcogaaW.PrintWords Go.Proofs.YtbfdplmgefcogaaW.PrintLast Go.Proofs.YtbfdplmgefcogaaW.PrintMore
attribute [local go_sem] max2_int min2_int max_two min_two max_three min_three max_four min_four   -- for this text's walks alone
set_option linter.unusedVariables false
set_option linter.unusedSimpArgs false

/-! ### variorumref06_Kind: function 35 -/
mutual
def variorumref06_Kind.j0 : Nat → Bool → Int → ByteArray → Int → Option (Int)
  | 0, _, _, _, _ => none
  | k + 1, x15, x104000, x104001, x104002 => if x15 = true then (some 1) else (if x104000 = 0 then (if x104001.toList = ([] : List UInt8) then (variorumref06_Kind.j1 k false x104000 x104001 x104002) else (variorumref06_Kind.j1 k (x104002 == 0) x104000 x104001 x104002)) else (variorumref06_Kind.j1 k false x104000 x104001 x104002))
def variorumref06_Kind.j1 : Nat → Bool → Int → ByteArray → Int → Option (Int)
  | 0, _, _, _, _ => none
  | k + 1, x28, x104000, x104001, x104002 => if x28 = true then (some 2) else (if x104000 = 0 then (if x104001.toList = ([] : List UInt8) then (if x104002 > 0 then (some 3) else (some 0)) else (some 0)) else (some 0))
end
def variorumref06_Kind.f (k : Nat) (a0_0 : Int) (a0_1 : ByteArray) (a0_2 : Int) : Option (Int) := if a0_0 > 0 then (if a0_1.toList = ([] : List UInt8) then (variorumref06_Kind.j0 k (a0_2 == 0) a0_0 a0_1 a0_2) else (variorumref06_Kind.j0 k false a0_0 a0_1 a0_2)) else (variorumref06_Kind.j0 k false a0_0 a0_1 a0_2)
theorem variorumref06_Kind.mono_l : ∀ k, (∀ y0 y1 y2 y3, LeO (variorumref06_Kind.j0 k y0 y1 y2 y3) (variorumref06_Kind.j0 (k + 1) y0 y1 y2 y3)) ∧ (∀ y0 y1 y2 y3, LeO (variorumref06_Kind.j1 k y0 y1 y2 y3) (variorumref06_Kind.j1 (k + 1) y0 y1 y2 y3))
  | 0 => ⟨fun _ _ _ _ r h => by simp [variorumref06_Kind.j0] at h, fun _ _ _ _ r h => by simp [variorumref06_Kind.j1] at h⟩
  | k + 1 => by
    obtain ⟨ih0, ih1⟩ := variorumref06_Kind.mono_l k
    refine ⟨?_, ?_⟩
    · intro y0 y1 y2 y3
      unfold variorumref06_Kind.j0
      repeat' first
      | (with_reducible exact ih0 _ _ _ _)
      | (with_reducible exact ih1 _ _ _ _)
      | (with_reducible exact LeO.refl _)
      | (with_reducible exact LeO.none _)
      | (with_reducible refine LeO.ite ?_ ?_)
      | (with_reducible refine LeO.bind ?_ (fun _ => ?_))
      | exact ih0 _ _ _ _
      | exact ih1 _ _ _ _
      | exact LeO.none _
      | refine LeO.ite ?_ ?_
      | refine LeO.bind ?_ (fun _ => ?_)
    · intro y0 y1 y2 y3
      unfold variorumref06_Kind.j1
      repeat' first
      | (with_reducible exact ih0 _ _ _ _)
      | (with_reducible exact ih1 _ _ _ _)
      | (with_reducible exact LeO.refl _)
      | (with_reducible exact LeO.none _)
      | (with_reducible refine LeO.ite ?_ ?_)
      | (with_reducible refine LeO.bind ?_ (fun _ => ?_))
      | exact ih0 _ _ _ _
      | exact ih1 _ _ _ _
      | exact LeO.none _
      | refine LeO.ite ?_ ?_
      | refine LeO.bind ?_ (fun _ => ?_)
theorem variorumref06_Kind.mono : ∀ a0 a1 a2 k, LeO (variorumref06_Kind.f k a0 a1 a2) (variorumref06_Kind.f (k + 1) a0 a1 a2) := by
  intro a0 a1 a2 k
  obtain ⟨ih0, ih1⟩ := variorumref06_Kind.mono_l k
  unfold variorumref06_Kind.f
  repeat' first
      | (with_reducible exact ih0 _ _ _ _)
      | (with_reducible exact ih1 _ _ _ _)
      | (with_reducible exact LeO.refl _)
      | (with_reducible exact LeO.none _)
      | (with_reducible refine LeO.ite ?_ ?_)
      | (with_reducible refine LeO.bind ?_ (fun _ => ?_))
      | exact ih0 _ _ _ _
      | exact ih1 _ _ _ _
      | exact LeO.none _
      | refine LeO.ite ?_ ?_
      | refine LeO.bind ?_ (fun _ => ?_)
set_option maxHeartbeats 8000000 in
set_option maxRecDepth 100000 in
theorem variorumref06_Kind.calls (k : Nat) (a0_0 : Int) (a0_1 : ByteArray) (a0_2 : Int) (r : Int) (w : World) (h : variorumref06_Kind.f k a0_0 a0_1 a0_2 = some r) :
    Calls Try.prog 35 #[.agg #[.int .i64 a0_0, .string a0_1, .int .i64 a0_2]] w fun e w' => e = .returned (.int .i64 r) ∧ Below w.heap.size w w' := by
  have hu43 := Try.underlying43
  have HB := Aside0.mk (Below.refl w.heap.size w)
  have H : (if a0_0 > 0 then (if a0_1.toList = ([] : List UInt8) then (variorumref06_Kind.j0 k (a0_2 == 0) a0_0 a0_1 a0_2) else (variorumref06_Kind.j0 k false a0_0 a0_1 a0_2)) else (variorumref06_Kind.j0 k false a0_0 a0_1 a0_2)) = some r := h
  clear h
  have HC2 := Aside0.mk H
  clear H
  go_enter Try.func35, Try.ntmps35
  go_upto_region 1 with (first | ((with_reducible refine gate_dst (N := 1) rfl ?_); refine box_event ?hg (N := 1) ?hd (cs := #[.int .i64 a0_0, .string a0_1, .int .i64 a0_2]) (t := 43) ?hr ?_; (case hd => rfl); (case hg => rfl); (case hr => first | (go_simp; done) | (go_simp; rfl)); intro gb103 hg w3 hbox hb; have n0_ := Aside0.mk (below_step (by repeat (first | (with_reducible first | exact HB.out | apply below_alloc | apply pw_below_drewN | apply below_drew1) | exact HB.out)) hb); have n1_ := Aside0.mk (hbox); have n2_ := Aside0.mk ((by rw [hg]; exact (below_size (by repeat (first | (with_reducible first | exact HB.out | apply below_alloc | apply pw_below_drewN | apply below_drew1) | exact HB.out))) : w.heap.size ≤ gb103)); have n3_ := Aside0.mk ((by rw [hg]; exact (below_size (by repeat (first | (with_reducible first | exact HB.out | apply below_alloc | apply pw_below_drewN | apply below_drew1) | exact HB.out))) : w.heap.size ≤ gb103)); clear HB; have HB := n0_; have BK103 := n1_; have GW103 := n2_; have GE103 := n3_; clear n0_ n1_ n2_ n3_; clear hb hbox hg))
  (try simp only [Act.put, List.setIfInBounds_toArray, List.set_cons_zero, List.set_cons_succ])
  go_cut [15] (fun v15 wc => ∃ (kq : Nat) (x15_1 : Bool), v15 = .bool x15_1 ∧ Aside0 (variorumref06_Kind.j0 kq x15_1 a0_0 a0_1 a0_2 = some r) ∧ Aside0 (kq ≤ k) ∧ Aside0 (wc.heap[gb103]? = some (.cells #[.int .i64 a0_0, .string a0_1, .int .i64 a0_2] 43 (0, 0))) ∧ Aside0 (Below w.heap.size w wc))
  case first =>
    have H := HC2.out
    clear HC2
    by_cases c4 : a0_0 > 0
    · rw [if_pos c4] at H
      have c4b0 : decide (0 < a0_0) = true := decide_eq_true c4
      clear c4
      (first | rw [c4b0] | (simp only [i64_w, i32_w]; rw [c4b0]) | skip)
      by_cases c5 : a0_1.toList = ([] : List UInt8)
      · rw [if_pos c5] at H
        have c5b0 : (a0_1.toList == ([] : List UInt8)) = true := beq_iff_eq.mpr c5
        have c5b1 : (a0_1.toList != ([] : List UInt8)) = false := bne_eq_false_iff_eq.mpr c5
        clear c5
        have H' := Aside0.mk H
        clear H
        have hcz6_0 : w3.cell? ⟨gb103, 0, none⟩ = some (.int .i64 a0_0) := (blk_cell BK103.out 0).trans rfl
        have hcz6_1 : w3.cell? ⟨gb103, 1, none⟩ = some (.string a0_1) := (blk_cell BK103.out 1).trans rfl
        have hcz6_2 : w3.cell? ⟨gb103, 2, none⟩ = some (.int .i64 a0_2) := (blk_cell BK103.out 2).trans rfl
        have hfz6_0 := blk_frozen BK103.out 0
        have hfz6_1 := blk_frozen BK103.out 1
        have hfz6_2 := blk_frozen BK103.out 2
        go_wp2
        go_meet
        case rel => exact ⟨_, ((a0_2 == 0)), (by first | rfl | (simp; done) | (simp [*]; done)), H', ⟨by first | omega | exact Nat.le_refl _⟩, ⟨by (with_reducible repeat (first | refine blk_drewN ?_ _ | refine blk_drew ?_ | refine blk_alloc ?_ _)); exact BK103.out⟩, ⟨by repeat (first | (with_reducible first | exact HB.out | apply below_alloc | apply pw_below_drewN | apply below_drew1 | refine below_set ?_ GE103.out) | exact HB.out)⟩⟩
      · rw [if_neg c5] at H
        have c5b0 : (a0_1.toList == ([] : List UInt8)) = false := beq_eq_false_iff_ne.mpr c5
        have c5b1 : (a0_1.toList != ([] : List UInt8)) = true := bne_iff_ne.mpr c5
        have H' := Aside0.mk H
        clear H
        have hcz7_0 : w3.cell? ⟨gb103, 0, none⟩ = some (.int .i64 a0_0) := (blk_cell BK103.out 0).trans rfl
        have hcz7_1 : w3.cell? ⟨gb103, 1, none⟩ = some (.string a0_1) := (blk_cell BK103.out 1).trans rfl
        have hcz7_2 : w3.cell? ⟨gb103, 2, none⟩ = some (.int .i64 a0_2) := (blk_cell BK103.out 2).trans rfl
        have hfz7_0 := blk_frozen BK103.out 0
        have hfz7_1 := blk_frozen BK103.out 1
        have hfz7_2 := blk_frozen BK103.out 2
        go_wp2
        go_meet
        case rel => exact ⟨_, (false), (by first | rfl | (simp; done) | (simp [*]; done)), H', ⟨by first | omega | exact Nat.le_refl _⟩, ⟨by (with_reducible repeat (first | refine blk_drewN ?_ _ | refine blk_drew ?_ | refine blk_alloc ?_ _)); exact BK103.out⟩, ⟨by repeat (first | (with_reducible first | exact HB.out | apply below_alloc | apply pw_below_drewN | apply below_drew1 | refine below_set ?_ GE103.out) | exact HB.out)⟩⟩
    · rw [if_neg c4] at H
      have c4b0 : decide (0 < a0_0) = false := decide_eq_false c4
      clear c4
      (first | rw [c4b0] | (simp only [i64_w, i32_w]; rw [c4b0]) | skip)
      have H' := Aside0.mk H
      clear H
      have hcz8_0 : w3.cell? ⟨gb103, 0, none⟩ = some (.int .i64 a0_0) := (blk_cell BK103.out 0).trans rfl
      have hcz8_1 : w3.cell? ⟨gb103, 1, none⟩ = some (.string a0_1) := (blk_cell BK103.out 1).trans rfl
      have hcz8_2 : w3.cell? ⟨gb103, 2, none⟩ = some (.int .i64 a0_2) := (blk_cell BK103.out 2).trans rfl
      have hfz8_0 := blk_frozen BK103.out 0
      have hfz8_1 := blk_frozen BK103.out 1
      have hfz8_2 := blk_frozen BK103.out 2
      go_wp2
      go_meet
      case rel => exact ⟨_, (false), (by first | rfl | (simp; done) | (simp [*]; done)), H', ⟨by first | omega | exact Nat.le_refl _⟩, ⟨by (with_reducible repeat (first | refine blk_drewN ?_ _ | refine blk_drew ?_ | refine blk_alloc ?_ _)); exact BK103.out⟩, ⟨by repeat (first | (with_reducible first | exact HB.out | apply below_alloc | apply pw_below_drewN | apply below_drew1 | refine below_set ?_ GE103.out) | exact HB.out)⟩⟩
  case rest =>
    clear HC2
    try clear p2
    try clear c3
    try clear c4
    try clear c4b0
    try clear c5
    try clear c5b0
    try clear c5b1
    try clear hcz6_0
    try clear hcz6_1
    try clear hcz6_2
    try clear hcz7_0
    try clear hcz7_1
    try clear hcz7_2
    try clear hcz8_0
    try clear hcz8_1
    try clear hcz8_2
    try clear hfz6_0
    try clear hfz6_1
    try clear hfz6_2
    try clear hfz7_0
    try clear hfz7_1
    try clear hfz7_2
    try clear hfz8_0
    try clear hfz8_1
    try clear hfz8_2
    obtain ⟨kq, x15_1, rfl, HA, HJ1, BK103, HB⟩ := hcut
    cases kq with
    | zero => exact absurd HA.out (by simp [variorumref06_Kind.j0])
    | succ kj1 =>
      have H := HA.out
      clear HA
      simp only [variorumref06_Kind.j0] at H
      by_cases c9 : x15_1 = true
      · subst c9
        have H1 : (some 1) = some r := by rw [if_pos rfl] at H; exact H
        clear H
        have H := H1
        clear H1
        obtain rfl := Option.some.inj H
        go_wp2
        go_ret
        exact ⟨by first | rfl | (simp [errW_none, errW_some] <;> rfl) | (simp [*, errW_none, errW_some] <;> rfl), by repeat (first | (with_reducible first | exact HB.out | apply below_alloc | apply pw_below_drewN | apply below_drew1 | refine below_set ?_ GE103.out) | exact HB.out)⟩
      · replace c9 := Bool.eq_false_iff.mpr c9
        subst c9
        have H1 : (if a0_0 = 0 then (if a0_1.toList = ([] : List UInt8) then (variorumref06_Kind.j1 kj1 false a0_0 a0_1 a0_2) else (variorumref06_Kind.j1 kj1 (a0_2 == 0) a0_0 a0_1 a0_2)) else (variorumref06_Kind.j1 kj1 false a0_0 a0_1 a0_2)) = some r := by rw [if_neg (show ¬ (false = true) by decide)] at H; exact H
        clear H
        have H := H1
        clear H1
        have HC10 := Aside0.mk H
        clear H
        go_upto_region 3 with (fail)
        go_cut [28] (fun v28 wc => ∃ (kq : Nat) (x28_9 : Bool), v28 = .bool x28_9 ∧ Aside0 (variorumref06_Kind.j1 kq x28_9 a0_0 a0_1 a0_2 = some r) ∧ Aside0 (kq ≤ kj1) ∧ Aside0 (wc.heap[gb103]? = some (.cells #[.int .i64 a0_0, .string a0_1, .int .i64 a0_2] 43 (0, 0))) ∧ Aside0 (Below w.heap.size w wc))
        case first =>
          have H := HC10.out
          clear HC10
          by_cases c11 : a0_0 = 0
          · rw [if_pos c11] at H
            have c11b0 : (a0_0 == 0) = true := beq_iff_eq.mpr c11
            have c11b1 : (a0_0 != 0) = false := bne_eq_false_iff_eq.mpr c11
            clear c11
            (first | rw [c11b0] | (simp only [i64_w, i32_w]; rw [c11b0]) | skip)
            by_cases c12 : a0_1.toList = ([] : List UInt8)
            · rw [if_pos c12] at H
              have c12b0 : (a0_1.toList == ([] : List UInt8)) = true := beq_iff_eq.mpr c12
              have c12b1 : (a0_1.toList != ([] : List UInt8)) = false := bne_eq_false_iff_eq.mpr c12
              clear c12
              have H' := Aside0.mk H
              clear H
              have hcz13_0 : wc.cell? ⟨gb103, 0, none⟩ = some (.int .i64 a0_0) := (blk_cell BK103.out 0).trans rfl
              have hcz13_1 : wc.cell? ⟨gb103, 1, none⟩ = some (.string a0_1) := (blk_cell BK103.out 1).trans rfl
              have hcz13_2 : wc.cell? ⟨gb103, 2, none⟩ = some (.int .i64 a0_2) := (blk_cell BK103.out 2).trans rfl
              have hfz13_0 := blk_frozen BK103.out 0
              have hfz13_1 := blk_frozen BK103.out 1
              have hfz13_2 := blk_frozen BK103.out 2
              go_wp2
              go_meet
              case rel => exact ⟨_, (false), (by first | rfl | (simp; done) | (simp [*]; done)), H', ⟨by have := HJ1.out; first | omega | exact Nat.le_refl _⟩, ⟨by (with_reducible repeat (first | refine blk_drewN ?_ _ | refine blk_drew ?_ | refine blk_alloc ?_ _)); exact BK103.out⟩, ⟨by repeat (first | (with_reducible first | exact HB.out | apply below_alloc | apply pw_below_drewN | apply below_drew1 | refine below_set ?_ GE103.out) | exact HB.out)⟩⟩
            · rw [if_neg c12] at H
              have c12b0 : (a0_1.toList == ([] : List UInt8)) = false := beq_eq_false_iff_ne.mpr c12
              have c12b1 : (a0_1.toList != ([] : List UInt8)) = true := bne_iff_ne.mpr c12
              have H' := Aside0.mk H
              clear H
              have hcz14_0 : wc.cell? ⟨gb103, 0, none⟩ = some (.int .i64 a0_0) := (blk_cell BK103.out 0).trans rfl
              have hcz14_1 : wc.cell? ⟨gb103, 1, none⟩ = some (.string a0_1) := (blk_cell BK103.out 1).trans rfl
              have hcz14_2 : wc.cell? ⟨gb103, 2, none⟩ = some (.int .i64 a0_2) := (blk_cell BK103.out 2).trans rfl
              have hfz14_0 := blk_frozen BK103.out 0
              have hfz14_1 := blk_frozen BK103.out 1
              have hfz14_2 := blk_frozen BK103.out 2
              go_wp2
              go_meet
              case rel => exact ⟨_, ((a0_2 == 0)), (by first | rfl | (simp; done) | (simp [*]; done)), H', ⟨by have := HJ1.out; first | omega | exact Nat.le_refl _⟩, ⟨by (with_reducible repeat (first | refine blk_drewN ?_ _ | refine blk_drew ?_ | refine blk_alloc ?_ _)); exact BK103.out⟩, ⟨by repeat (first | (with_reducible first | exact HB.out | apply below_alloc | apply pw_below_drewN | apply below_drew1 | refine below_set ?_ GE103.out) | exact HB.out)⟩⟩
          · rw [if_neg c11] at H
            have c11b0 : (a0_0 == 0) = false := beq_eq_false_iff_ne.mpr c11
            have c11b1 : (a0_0 != 0) = true := bne_iff_ne.mpr c11
            (first | rw [c11b0] | (simp only [i64_w, i32_w]; rw [c11b0]) | skip)
            have H' := Aside0.mk H
            clear H
            have hcz15_0 : wc.cell? ⟨gb103, 0, none⟩ = some (.int .i64 a0_0) := (blk_cell BK103.out 0).trans rfl
            have hcz15_1 : wc.cell? ⟨gb103, 1, none⟩ = some (.string a0_1) := (blk_cell BK103.out 1).trans rfl
            have hcz15_2 : wc.cell? ⟨gb103, 2, none⟩ = some (.int .i64 a0_2) := (blk_cell BK103.out 2).trans rfl
            have hfz15_0 := blk_frozen BK103.out 0
            have hfz15_1 := blk_frozen BK103.out 1
            have hfz15_2 := blk_frozen BK103.out 2
            go_wp2
            go_meet
            case rel => exact ⟨_, (false), (by first | rfl | (simp; done) | (simp [*]; done)), H', ⟨by have := HJ1.out; first | omega | exact Nat.le_refl _⟩, ⟨by (with_reducible repeat (first | refine blk_drewN ?_ _ | refine blk_drew ?_ | refine blk_alloc ?_ _)); exact BK103.out⟩, ⟨by repeat (first | (with_reducible first | exact HB.out | apply below_alloc | apply pw_below_drewN | apply below_drew1 | refine below_set ?_ GE103.out) | exact HB.out)⟩⟩
        case rest =>
          clear HC10
          try clear c1
          try clear p2
          try clear c3
          try clear c4
          try clear c4b0
          try clear c5
          try clear c5b0
          try clear c5b1
          try clear c9
          try clear c11
          try clear c11b0
          try clear c11b1
          try clear c12
          try clear c12b0
          try clear c12b1
          try clear hcz13_0
          try clear hcz13_1
          try clear hcz13_2
          try clear hcz14_0
          try clear hcz14_1
          try clear hcz14_2
          try clear hcz15_0
          try clear hcz15_1
          try clear hcz15_2
          try clear hcz6_0
          try clear hcz6_1
          try clear hcz6_2
          try clear hcz7_0
          try clear hcz7_1
          try clear hcz7_2
          try clear hcz8_0
          try clear hcz8_1
          try clear hcz8_2
          try clear hfz13_0
          try clear hfz13_1
          try clear hfz13_2
          try clear hfz14_0
          try clear hfz14_1
          try clear hfz14_2
          try clear hfz15_0
          try clear hfz15_1
          try clear hfz15_2
          try clear hfz6_0
          try clear hfz6_1
          try clear hfz6_2
          try clear hfz7_0
          try clear hfz7_1
          try clear hfz7_2
          try clear hfz8_0
          try clear hfz8_1
          try clear hfz8_2
          try clear p2
          obtain ⟨kq, x28_9, rfl, HA, HJ9, BK103, HB⟩ := hcut
          cases kq with
          | zero => exact absurd HA.out (by simp [variorumref06_Kind.j1])
          | succ kj9 =>
            have H := HA.out
            clear HA
            simp only [variorumref06_Kind.j1] at H
            by_cases c16 : x28_9 = true
            · subst c16
              have H1 : (some 2) = some r := by rw [if_pos rfl] at H; exact H
              clear H
              have H := H1
              clear H1
              obtain rfl := Option.some.inj H
              go_wp2
              go_ret
              exact ⟨by first | rfl | (simp [errW_none, errW_some] <;> rfl) | (simp [*, errW_none, errW_some] <;> rfl), by repeat (first | (with_reducible first | exact HB.out | apply below_alloc | apply pw_below_drewN | apply below_drew1 | refine below_set ?_ GE103.out) | exact HB.out)⟩
            · replace c16 := Bool.eq_false_iff.mpr c16
              subst c16
              have H1 : (if a0_0 = 0 then (if a0_1.toList = ([] : List UInt8) then (if a0_2 > 0 then (some 3) else (some 0)) else (some 0)) else (some 0)) = some r := by rw [if_neg (show ¬ (false = true) by decide)] at H; exact H
              clear H
              have H := H1
              clear H1
              by_cases c17 : a0_0 = 0
              · rw [if_pos c17] at H
                have c17b0 : (a0_0 == 0) = true := beq_iff_eq.mpr c17
                have c17b1 : (a0_0 != 0) = false := bne_eq_false_iff_eq.mpr c17
                clear c17
                by_cases c18 : a0_1.toList = ([] : List UInt8)
                · rw [if_pos c18] at H
                  have c18b0 : (a0_1.toList == ([] : List UInt8)) = true := beq_iff_eq.mpr c18
                  have c18b1 : (a0_1.toList != ([] : List UInt8)) = false := bne_eq_false_iff_eq.mpr c18
                  clear c18
                  by_cases c19 : a0_2 > 0
                  · rw [if_pos c19] at H
                    have c19b0 : decide (0 < a0_2) = true := decide_eq_true c19
                    clear c19
                    obtain rfl := Option.some.inj H
                    have hcz20_0 : wc.cell? ⟨gb103, 0, none⟩ = some (.int .i64 a0_0) := (blk_cell BK103.out 0).trans rfl
                    have hcz20_1 : wc.cell? ⟨gb103, 1, none⟩ = some (.string a0_1) := (blk_cell BK103.out 1).trans rfl
                    have hcz20_2 : wc.cell? ⟨gb103, 2, none⟩ = some (.int .i64 a0_2) := (blk_cell BK103.out 2).trans rfl
                    have hfz20_0 := blk_frozen BK103.out 0
                    have hfz20_1 := blk_frozen BK103.out 1
                    have hfz20_2 := blk_frozen BK103.out 2
                    go_wp2
                    go_ret
                    exact ⟨by first | rfl | (simp [errW_none, errW_some] <;> rfl) | (simp [*, errW_none, errW_some] <;> rfl), by repeat (first | (with_reducible first | exact HB.out | apply below_alloc | apply pw_below_drewN | apply below_drew1 | refine below_set ?_ GE103.out) | exact HB.out)⟩
                  · rw [if_neg c19] at H
                    have c19b0 : decide (0 < a0_2) = false := decide_eq_false c19
                    clear c19
                    obtain rfl := Option.some.inj H
                    have hcz21_0 : wc.cell? ⟨gb103, 0, none⟩ = some (.int .i64 a0_0) := (blk_cell BK103.out 0).trans rfl
                    have hcz21_1 : wc.cell? ⟨gb103, 1, none⟩ = some (.string a0_1) := (blk_cell BK103.out 1).trans rfl
                    have hcz21_2 : wc.cell? ⟨gb103, 2, none⟩ = some (.int .i64 a0_2) := (blk_cell BK103.out 2).trans rfl
                    have hfz21_0 := blk_frozen BK103.out 0
                    have hfz21_1 := blk_frozen BK103.out 1
                    have hfz21_2 := blk_frozen BK103.out 2
                    go_wp2
                    go_ret
                    exact ⟨by first | rfl | (simp [errW_none, errW_some] <;> rfl) | (simp [*, errW_none, errW_some] <;> rfl), by repeat (first | (with_reducible first | exact HB.out | apply below_alloc | apply pw_below_drewN | apply below_drew1 | refine below_set ?_ GE103.out) | exact HB.out)⟩
                · rw [if_neg c18] at H
                  have c18b0 : (a0_1.toList == ([] : List UInt8)) = false := beq_eq_false_iff_ne.mpr c18
                  have c18b1 : (a0_1.toList != ([] : List UInt8)) = true := bne_iff_ne.mpr c18
                  obtain rfl := Option.some.inj H
                  have hcz22_0 : wc.cell? ⟨gb103, 0, none⟩ = some (.int .i64 a0_0) := (blk_cell BK103.out 0).trans rfl
                  have hcz22_1 : wc.cell? ⟨gb103, 1, none⟩ = some (.string a0_1) := (blk_cell BK103.out 1).trans rfl
                  have hcz22_2 : wc.cell? ⟨gb103, 2, none⟩ = some (.int .i64 a0_2) := (blk_cell BK103.out 2).trans rfl
                  have hfz22_0 := blk_frozen BK103.out 0
                  have hfz22_1 := blk_frozen BK103.out 1
                  have hfz22_2 := blk_frozen BK103.out 2
                  go_wp2
                  go_ret
                  exact ⟨by first | rfl | (simp [errW_none, errW_some] <;> rfl) | (simp [*, errW_none, errW_some] <;> rfl), by repeat (first | (with_reducible first | exact HB.out | apply below_alloc | apply pw_below_drewN | apply below_drew1 | refine below_set ?_ GE103.out) | exact HB.out)⟩
              · rw [if_neg c17] at H
                have c17b0 : (a0_0 == 0) = false := beq_eq_false_iff_ne.mpr c17
                have c17b1 : (a0_0 != 0) = true := bne_iff_ne.mpr c17
                obtain rfl := Option.some.inj H
                have hcz23_0 : wc.cell? ⟨gb103, 0, none⟩ = some (.int .i64 a0_0) := (blk_cell BK103.out 0).trans rfl
                have hcz23_1 : wc.cell? ⟨gb103, 1, none⟩ = some (.string a0_1) := (blk_cell BK103.out 1).trans rfl
                have hcz23_2 : wc.cell? ⟨gb103, 2, none⟩ = some (.int .i64 a0_2) := (blk_cell BK103.out 2).trans rfl
                have hfz23_0 := blk_frozen BK103.out 0
                have hfz23_1 := blk_frozen BK103.out 1
                have hfz23_2 := blk_frozen BK103.out 2
                go_wp2
                go_ret
                exact ⟨by first | rfl | (simp [errW_none, errW_some] <;> rfl) | (simp [*, errW_none, errW_some] <;> rfl), by repeat (first | (with_reducible first | exact HB.out | apply below_alloc | apply pw_below_drewN | apply below_drew1 | refine below_set ?_ GE103.out) | exact HB.out)⟩

end Go.Proofs.Ytbfdplmgefcogaa.P
end
-- MERGED YtbfdplmgefcogaaPvariorumref06sums
section
-- Written by wip/myprint.py of this session, over the kit's print.py: a Lean function for each Go function, and the proof that the code comes to it.
namespace Go.Proofs.Ytbfdplmgefcogaa.P
open Go.RowKit Go.Proofs.YtbfdplmgefcogaaW.PrintWords Go.Proofs.YtbfdplmgefcogaaW.PrintLast Go.Proofs.YtbfdplmgefcogaaW.PrintMore
attribute [local go_sem] max2_int min2_int max_two min_two max_three min_three max_four min_four   -- for this text's walks alone
set_option linter.unusedVariables false
set_option linter.unusedSimpArgs false

/-! ### variorumref06_sums: function 36 -/
def variorumref06_sums.l0 : Nat → List (S43) → Int → Int → Int → Option (Int × Int × Bool)
  | 0, _, _, _, _ => none
  | k + 1, x0, x5, x6, x7 => if x7 < (x0.length : Int) then (if 0 ≤ x7 then (if ((rd_T43 x0 x7).f0) > (wrap64 (16777216 - x5)) then (some (0, 0, false)) else (if ((rd_T43 x0 x7).f2) > (wrap64 (16777216 - x5)) then (some (0, 0, false)) else (if ((rd_T43 x0 x7).f0) > (wrap64 (16777216 - x6)) then (some (0, 0, false)) else (if (((rd_T43 x0 x7).f1).size : Int) > (wrap64 (16777216 - x6)) then (some (0, 0, false)) else (variorumref06_sums.l0 k x0 (wrap64 ((wrap64 (x5 + ((rd_T43 x0 x7).f0))) + ((rd_T43 x0 x7).f2))) (wrap64 ((wrap64 (x6 + ((rd_T43 x0 x7).f0))) + (((rd_T43 x0 x7).f1).size : Int))) (wrap64 (x7 + 1))))))) else (none)) else (some (x5, x6, true))
def variorumref06_sums.f (k : Nat) (l0 : List (S43)) : Option (Int × Int × Bool) := variorumref06_sums.l0 k l0 0 0 0
theorem variorumref06_sums.mono_l : ∀ k, (∀ y0 y1 y2 y3, LeO (variorumref06_sums.l0 k y0 y1 y2 y3) (variorumref06_sums.l0 (k + 1) y0 y1 y2 y3))
  | 0 => fun _ _ _ _ r h => by simp [variorumref06_sums.l0] at h
  | k + 1 => by
    have ih0 := variorumref06_sums.mono_l k
    · intro y0 y1 y2 y3
      unfold variorumref06_sums.l0
      repeat' first
      | (with_reducible exact ih0 _ _ _ _)
      | (with_reducible exact LeO.refl _)
      | (with_reducible exact LeO.none _)
      | (with_reducible refine LeO.ite ?_ ?_)
      | (with_reducible refine LeO.bind ?_ (fun _ => ?_))
      | exact ih0 _ _ _ _
      | exact LeO.none _
      | refine LeO.ite ?_ ?_
      | refine LeO.bind ?_ (fun _ => ?_)
theorem variorumref06_sums.mono : ∀ a0 k, LeO (variorumref06_sums.f k a0) (variorumref06_sums.f (k + 1) a0) := by
  intro a0 k
  have ih0 := variorumref06_sums.mono_l k
  unfold variorumref06_sums.f
  repeat' first
      | (with_reducible exact ih0 _ _ _ _)
      | (with_reducible exact LeO.refl _)
      | (with_reducible exact LeO.none _)
      | (with_reducible refine LeO.ite ?_ ?_)
      | (with_reducible refine LeO.bind ?_ (fun _ => ?_))
      | exact ih0 _ _ _ _
      | exact LeO.none _
      | refine LeO.ite ?_ ?_
      | refine LeO.bind ?_ (fun _ => ?_)
set_option maxHeartbeats 8000000 in
set_option maxRecDepth 100000 in
theorem variorumref06_sums.calls (k : Nat) (A0 : Option Addr) (c0 : Nat) (l0 : List (S43)) (r1 : Int) (r2 : Int) (r3 : Bool) (w : World) (hr0 : Kd.C k43 w A0 l0.length l0) (hc0 : l0.length ≤ c0) (h : variorumref06_sums.f k l0 = some (r1, r2, r3)) :
    Calls Try.prog 36 #[.slice A0 l0.length c0] w fun e w' => e = .returned (.tuple #[.int .i64 r1, .int .i64 r2, .bool r3]) ∧ Below w.heap.size w w' := by
  have hu43 := Try.underlying43
  have HR0 := Aside0.mk hr0
  have HC0 := Aside0.mk hc0
  clear hr0 hc0
  have HB := Aside0.mk (Below.refl w.heap.size w)
  have H : (variorumref06_sums.l0 k l0 0 0 0) = some (r1, r2, r3) := h
  clear h
  have H' := Aside0.mk H
  clear H
  go_enter Try.func36, Try.ntmps36
  go_wp2
  go_loopg [5, 6, 7] k (fun kq v5 v6 v7 w' => ∃ (x5_1 : Int) (x6_1 : Int) (x7_1 : Int), v5 = .int .i64 x5_1 ∧ v6 = .int .i64 x6_1 ∧ v7 = .int .i64 x7_1 ∧ Aside0 (variorumref06_sums.l0 kq l0 x5_1 x6_1 x7_1 = some (r1, r2, r3)) ∧ Aside0 (kq ≤ k) ∧ Aside0 (Below w.heap.size w w'))
  case atStart => exact ⟨(0), (0), (0), (by first | rfl | (simp; done) | (simp [*]; done)), (by first | rfl | (simp; done) | (simp [*]; done)), (by first | rfl | (simp; done) | (simp [*]; done)), H', ⟨Nat.le_refl _⟩, ⟨by repeat (first | (with_reducible first | exact HB.out | apply below_alloc | apply pw_below_drewN | apply below_drew1) | exact HB.out)⟩⟩
  case round =>
    clear H'
    obtain ⟨x5_1, x6_1, x7_1, rfl, rfl, rfl, HA, HK1, HB⟩ := hrel
    cases gk with
    | zero => exact absurd HA.out (by simp [variorumref06_sums.l0])
    | succ k1 =>
      have H := HA.out
      clear HA
      simp only [variorumref06_sums.l0] at H
      by_cases c2 : x7_1 < (l0.length : Int)
      · rw [if_pos c2] at H
        have c2b0 : decide (x7_1 < (l0.length : Int)) = true := decide_eq_true c2
        clear c2
        by_cases c3 : 0 ≤ x7_1
        · rw [if_pos c3] at H
          have c3b0 : decide (0 ≤ x7_1) = true := decide_eq_true c3
          clear c3
          by_cases c4 : ((rd_T43 l0 x7_1).f0) > (wrap64 (16777216 - x5_1))
          · rw [if_pos c4] at H
            have c4b0 : decide ((wrap64 (16777216 - x5_1)) < ((rd_T43 l0 x7_1).f0)) = true := decide_eq_true c4
            clear c4
            simp only [Option.some.injEq, Prod.mk.injEq] at H
            obtain ⟨rfl, rfl, rfl⟩ := H
            have p104 : 0 ≤ (x7_1 : Int) := of_decide_eq_true (by first | (with_reducible assumption) | assumption)
            have q104 : x7_1 < (l0.length : Int) := of_decide_eq_true (by first | (with_reducible assumption) | assumption)
            obtain ⟨ad104, e104, hx104_0, hx104_1, hx104_2⟩ := at_T43 HR0.out x7_1 p104 q104
            cases e104
            replace hx104_0 := (HB.out.cell (World.block_lt_of_cell? w _ hx104_0)).trans hx104_0
            replace hx104_1 := (HB.out.cell (World.block_lt_of_cell? w _ hx104_1)).trans hx104_1
            replace hx104_2 := (HB.out.cell (World.block_lt_of_cell? w _ hx104_2)).trans hx104_2
            replace p104 := eq_true p104
            replace q104 := eq_true q104
            go_wp2_with (first | ((with_reducible refine gate_dst (N := 8) rfl ?_); (try (refine gate_guard (by rfl) ?_; dsimp only)); refine box_event ?hg (N := 8) ?hd (cs := #[.int .i64 0, .string (⟨#[]⟩ : ByteArray), .int .i64 0]) (t := 43) ?hr ?_; (case hd => rfl); (case hg => rfl); (case hr => first | (go_simp; done) | (go_simp; rfl)); intro gb105 hg w5 hbox hb; have n0_ := Aside0.mk (below_step (by repeat (first | (with_reducible first | exact HB.out | apply below_alloc | apply pw_below_drewN | apply below_drew1) | exact HB.out)) hb); have n1_ := Aside0.mk (hbox); have n2_ := Aside0.mk ((by rw [hg]; exact (below_size (by repeat (first | (with_reducible first | exact HB.out | apply below_alloc | apply pw_below_drewN | apply below_drew1) | exact HB.out))) : w.heap.size ≤ gb105)); have n3_ := Aside0.mk ((by rw [hg]; exact (below_size (by repeat (first | (with_reducible first | exact HB.out | apply below_alloc | apply pw_below_drewN | apply below_drew1) | exact HB.out))) : w.heap.size ≤ gb105)); clear HB; have HB := n0_; have BK105 := n1_; have GW105 := n2_; have GE105 := n3_; clear n0_ n1_ n2_ n3_; clear hb hbox hg; have hcz6_0 : w5.cell? ⟨gb105, 0, none⟩ = some (.int .i64 0) := (blk_cell BK105.out 0).trans rfl; have hcz6_1 : w5.cell? ⟨gb105, 1, none⟩ = some (.string (⟨#[]⟩ : ByteArray)) := (blk_cell BK105.out 1).trans rfl; have hcz6_2 : w5.cell? ⟨gb105, 2, none⟩ = some (.int .i64 0) := (blk_cell BK105.out 2).trans rfl; have hfz6_0 := blk_frozen BK105.out 0; have hfz6_1 := blk_frozen BK105.out 1; have hfz6_2 := blk_frozen BK105.out 2))
            go_ret3
            exact ⟨by first | rfl | (simp [errW_none, errW_some] <;> rfl) | (simp [*, errW_none, errW_some] <;> rfl), by repeat (first | (with_reducible first | exact HB.out | apply below_alloc | apply pw_below_drewN | apply below_drew1 | refine below_set ?_ GE105.out) | exact HB.out)⟩
          · rw [if_neg c4] at H
            have c4b0 : decide ((wrap64 (16777216 - x5_1)) < ((rd_T43 l0 x7_1).f0)) = false := decide_eq_false c4
            clear c4
            by_cases c7 : ((rd_T43 l0 x7_1).f2) > (wrap64 (16777216 - x5_1))
            · rw [if_pos c7] at H
              have c7b0 : decide ((wrap64 (16777216 - x5_1)) < ((rd_T43 l0 x7_1).f2)) = true := decide_eq_true c7
              clear c7
              simp only [Option.some.injEq, Prod.mk.injEq] at H
              obtain ⟨rfl, rfl, rfl⟩ := H
              have p104 : 0 ≤ (x7_1 : Int) := of_decide_eq_true (by first | (with_reducible assumption) | assumption)
              have q104 : x7_1 < (l0.length : Int) := of_decide_eq_true (by first | (with_reducible assumption) | assumption)
              obtain ⟨ad104, e104, hx104_0, hx104_1, hx104_2⟩ := at_T43 HR0.out x7_1 p104 q104
              cases e104
              replace hx104_0 := (HB.out.cell (World.block_lt_of_cell? w _ hx104_0)).trans hx104_0
              replace hx104_1 := (HB.out.cell (World.block_lt_of_cell? w _ hx104_1)).trans hx104_1
              replace hx104_2 := (HB.out.cell (World.block_lt_of_cell? w _ hx104_2)).trans hx104_2
              replace p104 := eq_true p104
              replace q104 := eq_true q104
              go_wp2_with (first | ((with_reducible refine gate_dst (N := 8) rfl ?_); (try (refine gate_guard (by rfl) ?_; dsimp only)); refine box_event ?hg (N := 8) ?hd (cs := #[.int .i64 0, .string (⟨#[]⟩ : ByteArray), .int .i64 0]) (t := 43) ?hr ?_; (case hd => rfl); (case hg => rfl); (case hr => first | (go_simp; done) | (go_simp; rfl)); intro gb105 hg w8 hbox hb; have n0_ := Aside0.mk (below_step (by repeat (first | (with_reducible first | exact HB.out | apply below_alloc | apply pw_below_drewN | apply below_drew1) | exact HB.out)) hb); have n1_ := Aside0.mk (hbox); have n2_ := Aside0.mk ((by rw [hg]; exact (below_size (by repeat (first | (with_reducible first | exact HB.out | apply below_alloc | apply pw_below_drewN | apply below_drew1) | exact HB.out))) : w.heap.size ≤ gb105)); have n3_ := Aside0.mk ((by rw [hg]; exact (below_size (by repeat (first | (with_reducible first | exact HB.out | apply below_alloc | apply pw_below_drewN | apply below_drew1) | exact HB.out))) : w.heap.size ≤ gb105)); clear HB; have HB := n0_; have BK105 := n1_; have GW105 := n2_; have GE105 := n3_; clear n0_ n1_ n2_ n3_; clear hb hbox hg; have hcz9_0 : w8.cell? ⟨gb105, 0, none⟩ = some (.int .i64 0) := (blk_cell BK105.out 0).trans rfl; have hcz9_1 : w8.cell? ⟨gb105, 1, none⟩ = some (.string (⟨#[]⟩ : ByteArray)) := (blk_cell BK105.out 1).trans rfl; have hcz9_2 : w8.cell? ⟨gb105, 2, none⟩ = some (.int .i64 0) := (blk_cell BK105.out 2).trans rfl; have hfz9_0 := blk_frozen BK105.out 0; have hfz9_1 := blk_frozen BK105.out 1; have hfz9_2 := blk_frozen BK105.out 2))
              go_ret3
              exact ⟨by first | rfl | (simp [errW_none, errW_some] <;> rfl) | (simp [*, errW_none, errW_some] <;> rfl), by repeat (first | (with_reducible first | exact HB.out | apply below_alloc | apply pw_below_drewN | apply below_drew1 | refine below_set ?_ GE105.out) | exact HB.out)⟩
            · rw [if_neg c7] at H
              have c7b0 : decide ((wrap64 (16777216 - x5_1)) < ((rd_T43 l0 x7_1).f2)) = false := decide_eq_false c7
              clear c7
              by_cases c10 : ((rd_T43 l0 x7_1).f0) > (wrap64 (16777216 - x6_1))
              · rw [if_pos c10] at H
                have c10b0 : decide ((wrap64 (16777216 - x6_1)) < ((rd_T43 l0 x7_1).f0)) = true := decide_eq_true c10
                clear c10
                simp only [Option.some.injEq, Prod.mk.injEq] at H
                obtain ⟨rfl, rfl, rfl⟩ := H
                have p104 : 0 ≤ (x7_1 : Int) := of_decide_eq_true (by first | (with_reducible assumption) | assumption)
                have q104 : x7_1 < (l0.length : Int) := of_decide_eq_true (by first | (with_reducible assumption) | assumption)
                obtain ⟨ad104, e104, hx104_0, hx104_1, hx104_2⟩ := at_T43 HR0.out x7_1 p104 q104
                cases e104
                replace hx104_0 := (HB.out.cell (World.block_lt_of_cell? w _ hx104_0)).trans hx104_0
                replace hx104_1 := (HB.out.cell (World.block_lt_of_cell? w _ hx104_1)).trans hx104_1
                replace hx104_2 := (HB.out.cell (World.block_lt_of_cell? w _ hx104_2)).trans hx104_2
                replace p104 := eq_true p104
                replace q104 := eq_true q104
                go_wp2_with (first | ((with_reducible refine gate_dst (N := 8) rfl ?_); (try (refine gate_guard (by rfl) ?_; dsimp only)); refine box_event ?hg (N := 8) ?hd (cs := #[.int .i64 0, .string (⟨#[]⟩ : ByteArray), .int .i64 0]) (t := 43) ?hr ?_; (case hd => rfl); (case hg => rfl); (case hr => first | (go_simp; done) | (go_simp; rfl)); intro gb105 hg w11 hbox hb; have n0_ := Aside0.mk (below_step (by repeat (first | (with_reducible first | exact HB.out | apply below_alloc | apply pw_below_drewN | apply below_drew1) | exact HB.out)) hb); have n1_ := Aside0.mk (hbox); have n2_ := Aside0.mk ((by rw [hg]; exact (below_size (by repeat (first | (with_reducible first | exact HB.out | apply below_alloc | apply pw_below_drewN | apply below_drew1) | exact HB.out))) : w.heap.size ≤ gb105)); have n3_ := Aside0.mk ((by rw [hg]; exact (below_size (by repeat (first | (with_reducible first | exact HB.out | apply below_alloc | apply pw_below_drewN | apply below_drew1) | exact HB.out))) : w.heap.size ≤ gb105)); clear HB; have HB := n0_; have BK105 := n1_; have GW105 := n2_; have GE105 := n3_; clear n0_ n1_ n2_ n3_; clear hb hbox hg; have hcz12_0 : w11.cell? ⟨gb105, 0, none⟩ = some (.int .i64 0) := (blk_cell BK105.out 0).trans rfl; have hcz12_1 : w11.cell? ⟨gb105, 1, none⟩ = some (.string (⟨#[]⟩ : ByteArray)) := (blk_cell BK105.out 1).trans rfl; have hcz12_2 : w11.cell? ⟨gb105, 2, none⟩ = some (.int .i64 0) := (blk_cell BK105.out 2).trans rfl; have hfz12_0 := blk_frozen BK105.out 0; have hfz12_1 := blk_frozen BK105.out 1; have hfz12_2 := blk_frozen BK105.out 2))
                go_ret3
                exact ⟨by first | rfl | (simp [errW_none, errW_some] <;> rfl) | (simp [*, errW_none, errW_some] <;> rfl), by repeat (first | (with_reducible first | exact HB.out | apply below_alloc | apply pw_below_drewN | apply below_drew1 | refine below_set ?_ GE105.out) | exact HB.out)⟩
              · rw [if_neg c10] at H
                have c10b0 : decide ((wrap64 (16777216 - x6_1)) < ((rd_T43 l0 x7_1).f0)) = false := decide_eq_false c10
                clear c10
                by_cases c13 : (((rd_T43 l0 x7_1).f1).size : Int) > (wrap64 (16777216 - x6_1))
                · rw [if_pos c13] at H
                  have c13b0 : decide ((wrap64 (16777216 - x6_1)) < (((rd_T43 l0 x7_1).f1).size : Int)) = true := decide_eq_true c13
                  clear c13
                  simp only [Option.some.injEq, Prod.mk.injEq] at H
                  obtain ⟨rfl, rfl, rfl⟩ := H
                  have p104 : 0 ≤ (x7_1 : Int) := of_decide_eq_true (by first | (with_reducible assumption) | assumption)
                  have q104 : x7_1 < (l0.length : Int) := of_decide_eq_true (by first | (with_reducible assumption) | assumption)
                  obtain ⟨ad104, e104, hx104_0, hx104_1, hx104_2⟩ := at_T43 HR0.out x7_1 p104 q104
                  cases e104
                  replace hx104_0 := (HB.out.cell (World.block_lt_of_cell? w _ hx104_0)).trans hx104_0
                  replace hx104_1 := (HB.out.cell (World.block_lt_of_cell? w _ hx104_1)).trans hx104_1
                  replace hx104_2 := (HB.out.cell (World.block_lt_of_cell? w _ hx104_2)).trans hx104_2
                  replace p104 := eq_true p104
                  replace q104 := eq_true q104
                  go_wp2_with (first | ((with_reducible refine gate_dst (N := 8) rfl ?_); (try (refine gate_guard (by rfl) ?_; dsimp only)); refine box_event ?hg (N := 8) ?hd (cs := #[.int .i64 0, .string (⟨#[]⟩ : ByteArray), .int .i64 0]) (t := 43) ?hr ?_; (case hd => rfl); (case hg => rfl); (case hr => first | (go_simp; done) | (go_simp; rfl)); intro gb105 hg w14 hbox hb; have n0_ := Aside0.mk (below_step (by repeat (first | (with_reducible first | exact HB.out | apply below_alloc | apply pw_below_drewN | apply below_drew1) | exact HB.out)) hb); have n1_ := Aside0.mk (hbox); have n2_ := Aside0.mk ((by rw [hg]; exact (below_size (by repeat (first | (with_reducible first | exact HB.out | apply below_alloc | apply pw_below_drewN | apply below_drew1) | exact HB.out))) : w.heap.size ≤ gb105)); have n3_ := Aside0.mk ((by rw [hg]; exact (below_size (by repeat (first | (with_reducible first | exact HB.out | apply below_alloc | apply pw_below_drewN | apply below_drew1) | exact HB.out))) : w.heap.size ≤ gb105)); clear HB; have HB := n0_; have BK105 := n1_; have GW105 := n2_; have GE105 := n3_; clear n0_ n1_ n2_ n3_; clear hb hbox hg; have hcz15_0 : w14.cell? ⟨gb105, 0, none⟩ = some (.int .i64 0) := (blk_cell BK105.out 0).trans rfl; have hcz15_1 : w14.cell? ⟨gb105, 1, none⟩ = some (.string (⟨#[]⟩ : ByteArray)) := (blk_cell BK105.out 1).trans rfl; have hcz15_2 : w14.cell? ⟨gb105, 2, none⟩ = some (.int .i64 0) := (blk_cell BK105.out 2).trans rfl; have hfz15_0 := blk_frozen BK105.out 0; have hfz15_1 := blk_frozen BK105.out 1; have hfz15_2 := blk_frozen BK105.out 2))
                  go_ret3
                  exact ⟨by first | rfl | (simp [errW_none, errW_some] <;> rfl) | (simp [*, errW_none, errW_some] <;> rfl), by repeat (first | (with_reducible first | exact HB.out | apply below_alloc | apply pw_below_drewN | apply below_drew1 | refine below_set ?_ GE105.out) | exact HB.out)⟩
                · rw [if_neg c13] at H
                  have c13b0 : decide ((wrap64 (16777216 - x6_1)) < (((rd_T43 l0 x7_1).f1).size : Int)) = false := decide_eq_false c13
                  clear c13
                  have H' := Aside0.mk H
                  clear H
                  have p104 : 0 ≤ (x7_1 : Int) := of_decide_eq_true (by first | (with_reducible assumption) | assumption)
                  have q104 : x7_1 < (l0.length : Int) := of_decide_eq_true (by first | (with_reducible assumption) | assumption)
                  obtain ⟨ad104, e104, hx104_0, hx104_1, hx104_2⟩ := at_T43 HR0.out x7_1 p104 q104
                  cases e104
                  replace hx104_0 := (HB.out.cell (World.block_lt_of_cell? w _ hx104_0)).trans hx104_0
                  replace hx104_1 := (HB.out.cell (World.block_lt_of_cell? w _ hx104_1)).trans hx104_1
                  replace hx104_2 := (HB.out.cell (World.block_lt_of_cell? w _ hx104_2)).trans hx104_2
                  replace p104 := eq_true p104
                  replace q104 := eq_true q104
                  go_wp2_with (first | ((with_reducible refine gate_dst (N := 8) rfl ?_); (try (refine gate_guard (by rfl) ?_; dsimp only)); refine box_event ?hg (N := 8) ?hd (cs := #[.int .i64 0, .string (⟨#[]⟩ : ByteArray), .int .i64 0]) (t := 43) ?hr ?_; (case hd => rfl); (case hg => rfl); (case hr => first | (go_simp; done) | (go_simp; rfl)); intro gb105 hg w16 hbox hb; have n0_ := Aside0.mk (below_step (by repeat (first | (with_reducible first | exact HB.out | apply below_alloc | apply pw_below_drewN | apply below_drew1) | exact HB.out)) hb); have n1_ := Aside0.mk (hbox); have n2_ := Aside0.mk ((by rw [hg]; exact (below_size (by repeat (first | (with_reducible first | exact HB.out | apply below_alloc | apply pw_below_drewN | apply below_drew1) | exact HB.out))) : w.heap.size ≤ gb105)); have n3_ := Aside0.mk ((by rw [hg]; exact (below_size (by repeat (first | (with_reducible first | exact HB.out | apply below_alloc | apply pw_below_drewN | apply below_drew1) | exact HB.out))) : w.heap.size ≤ gb105)); clear HB; have HB := n0_; have BK105 := n1_; have GW105 := n2_; have GE105 := n3_; clear n0_ n1_ n2_ n3_; clear hb hbox hg; have hcz17_0 : w16.cell? ⟨gb105, 0, none⟩ = some (.int .i64 0) := (blk_cell BK105.out 0).trans rfl; have hcz17_1 : w16.cell? ⟨gb105, 1, none⟩ = some (.string (⟨#[]⟩ : ByteArray)) := (blk_cell BK105.out 1).trans rfl; have hcz17_2 : w16.cell? ⟨gb105, 2, none⟩ = some (.int .i64 0) := (blk_cell BK105.out 2).trans rfl; have hfz17_0 := blk_frozen BK105.out 0; have hfz17_1 := blk_frozen BK105.out 1; have hfz17_2 := blk_frozen BK105.out 2))
                  go_roundg k1
                  case measure => have := HK1.out; omega
                  case rel => exact ⟨(wrap64 ((wrap64 (x5_1 + ((rd_T43 l0 x7_1).f0))) + ((rd_T43 l0 x7_1).f2))), (wrap64 ((wrap64 (x6_1 + ((rd_T43 l0 x7_1).f0))) + (((rd_T43 l0 x7_1).f1).size : Int))), (wrap64 (x7_1 + 1)), (by first | rfl | (simp; done) | (simp [*]; done)), (by first | rfl | (simp; done) | (simp [*]; done)), (by first | rfl | (simp; done) | (simp [*]; done)), H', ⟨by have := HK1.out; omega⟩, ⟨by repeat (first | (with_reducible first | exact HB.out | apply below_alloc | apply pw_below_drewN | apply below_drew1 | refine below_set ?_ GE105.out) | exact HB.out)⟩⟩
        · rw [if_neg c3] at H
          exact absurd H (by simp)
      · rw [if_neg c2] at H
        have c2b0 : decide (x7_1 < (l0.length : Int)) = false := decide_eq_false c2
        clear c2
        simp only [Option.some.injEq, Prod.mk.injEq] at H
        obtain ⟨rfl, rfl, rfl⟩ := H
        go_wp2
        go_ret3
        exact ⟨by first | rfl | (simp [errW_none, errW_some] <;> rfl) | (simp [*, errW_none, errW_some] <;> rfl), by repeat (first | (with_reducible first | exact HB.out | apply below_alloc | apply pw_below_drewN | apply below_drew1) | exact HB.out)⟩

end Go.Proofs.Ytbfdplmgefcogaa.P
end
-- MERGED YtbfdplmgefcogaaEditK
section
/- The walk of the reference's Good of edits. -/
namespace Go.Proofs.Ytbfdplmgefcogaa.EditK
open Go.RowKit Go.Proofs.Ytbfdplmgefcogaa.P Go.Proofs.YtbfdplmgefcogaaW.PrintWords Go.Proofs.YtbfdplmgefcogaaW.PrintLast Go.Proofs.YtbfdplmgefcogaaW.PrintMore Go.Proofs.Ytbfdplmgefcogaa.EditL
set_option linter.unusedSimpArgs false
set_option linter.unusedVariables false

theorem w64 {x : Int} (h1 : -9223372036854775808 ≤ x) (h2 : x ≤ 9223372036854775807) : wrap64 x = x := by unfold wrap64; omega
theorem tl_nil {s : ByteArray} : (s.toList = ([] : List UInt8)) ↔ s.size = 0 := by
  rw [ByteArray.toList_eq]
  constructor
  · intro h
    show s.data.size = 0
    rw [← Array.length_toList, h]; rfl
  · intro h
    have : s.data.toList.length = 0 := by rw [Array.length_toList]; exact h
    exact List.eq_nil_of_length_eq_zero this
theorem tl_beq {s : ByteArray} : (s.toList == ([] : List UInt8)) = decide (s.size = 0) := by
  rw [Bool.eq_iff_iff]
  simp only [beq_iff_eq, decide_eq_true_eq]
  exact tl_nil
theorem rd_at {l pre suf : List Rn} {r : Rn} (h : l = pre ++ r :: suf) : rd_T43 l (pre.length : Int) = r := by
  unfold rd_T43
  rw [Int.toNat_natCast, h]
  simp [List.getD_eq_getElem?_getD]
theorem snoc {l pre suf : List Rn} {r : Rn} (h : l = pre ++ r :: suf) : l = (pre ++ [r]) ++ suf ∧ ((pre ++ [r]).length : Int) = (pre.length : Int) + 1 ∧ (pre.length : Int) < (l.length : Int) := by
  subst h
  simp
  omega
theorem rkind_f (r : Rn) (k : Nat) : variorumref06_Kind.f (k + 2) r.f0 r.f1 r.f2 = some (knd r) := by
  unfold variorumref06_Kind.f knd
  simp only [variorumref06_Kind.j0, variorumref06_Kind.j1, tl_nil]
  generalize r.f1.size = n
  generalize r.f0 = a
  generalize r.f2 = d
  by_cases c0 : 0 < a <;> by_cases c1 : n = 0 <;> by_cases c2 : d = 0 <;> by_cases c3 : a = 0 <;> by_cases c4 : 0 < d <;> simp [c0, c1, c2, c3, c4] <;> omega
theorem rkind_c (r : Rn) (w : World) : Calls Try.prog 35 #[.agg #[.int .i64 r.f0, .string r.f1, .int .i64 r.f2]] w fun e w' => e = .returned (.int .i64 (knd r)) ∧ Below w.heap.size w w' :=
  variorumref06_Kind.calls 2 _ _ _ _ w (rkind_f r 0)
theorem rsums_l (l0 : List Rn) (hb : l0.length ≤ 140737488351232) : ∀ (suf pre : List Rn) (k : Nat) (i o : Int), l0 = pre ++ suf → suf.length < k → (∀ r ∈ suf, knd r ≠ 0) → 0 ≤ i → i ≤ 16777216 → 0 ≤ o → o ≤ 16777216 →
    variorumref06_sums.l0 k l0 i o (pre.length : Int) = some (cond (fits suf i o) (i + inL suf, o + outL suf, true) (0, 0, false)) := by
  intro suf
  induction suf with
  | nil =>
    intro pre k i o hl hk _ _ _ _ _
    obtain ⟨k, rfl⟩ : ∃ m, k = m + 1 := ⟨k - 1, by simp at hk; omega⟩
    have : l0.length = pre.length := by rw [hl]; simp
    simp only [variorumref06_sums.l0]
    rw [if_neg (by omega)]
    simp [fits, inL, outL]
  | cons r suf ih =>
    intro pre k i o hl hk hok hi0 hi ho0 ho
    obtain ⟨k, rfl⟩ : ∃ m, k = m + 1 := ⟨k - 1, by simp at hk; omega⟩
    obtain ⟨hl2, hn, hlt⟩ := snoc hl
    have hr := knd_cases r
    have h0 := hok r List.mem_cons_self
    have hp := knd_pos h0
    simp only [variorumref06_sums.l0]
    rw [if_pos hlt, if_pos (by omega), rd_at hl, w64 (x := 16777216 - i) (by omega) (by omega), w64 (x := 16777216 - o) (by omega) (by omega)]
    simp only [fits, inL, outL]
    by_cases c1 : r.f0 ≤ 16777216 - i
    · rw [if_neg (by omega), decide_eq_true c1]
      by_cases c2 : r.f2 ≤ 16777216 - i
      · rw [if_neg (by omega), decide_eq_true c2]
        by_cases c3 : r.f0 ≤ 16777216 - o
        · rw [if_neg (by omega), decide_eq_true c3]
          by_cases c4 : (r.f1.size : Int) ≤ 16777216 - o
          · rw [if_neg (by omega), decide_eq_true c4, Bool.true_and, Bool.true_and, Bool.true_and, Bool.true_and,
              w64 (x := i + r.f0) (by omega) (by omega), w64 (x := i + r.f0 + r.f2) (by omega) (by omega), w64 (x := o + r.f0) (by omega) (by omega), w64 (x := o + r.f0 + (r.f1.size : Int)) (by omega) (by omega), w64 (x := (pre.length : Int) + 1) (by omega) (by omega), ← hn,
              show i + r.f0 + r.f2 = i + (r.f0 + r.f2) by omega, show o + r.f0 + (r.f1.size : Int) = o + (r.f0 + (r.f1.size : Int)) by omega]
            rw [ih (pre ++ [r]) k _ _ hl2 (by simp at hk; omega) (fun x hx => hok x (List.mem_cons_of_mem _ hx)) (by omega) (by rcases hr with h | h | h | h <;> omega) (by omega) (by rcases hr with h | h | h | h <;> omega)]
            cases fits suf (i + (r.f0 + r.f2)) (o + (r.f0 + (r.f1.size : Int))) with
            | false => rfl
            | true => simp only [cond_true, Option.some.injEq, Prod.mk.injEq, and_true]; omega
          · rw [if_pos (by omega), decide_eq_false c4]; rfl
        · rw [if_pos (by omega), decide_eq_false c3]; rfl
      · rw [if_pos (by omega), decide_eq_false c2]; rfl
    · rw [if_pos (by omega), decide_eq_false c1]; rfl
theorem rsums_f {l : List Rn} (hb : l.length ≤ 140737488351232) (hok : ∀ r ∈ l, knd r ≠ 0) (k : Nat) (hk : l.length < k) : variorumref06_sums.f k l = some (cond (fits l 0 0) (inL l, outL l, true) (0, 0, false)) := by
  unfold variorumref06_sums.f
  have := rsums_l l hb l [] k 0 0 rfl hk hok (by omega) (by omega) (by omega) (by omega)
  simp only [Int.zero_add] at this
  exact this
/-- The kind of the run ahead. -/
def prev (l : List Rn) (j : Nat) : Int := if j = 0 then 0 else knd (l.getD (j - 1) z43)
theorem drop_get {l : List Rn} {j : Nat} (h : j < l.length) : l.drop j = l.getD j z43 :: l.drop (j + 1) := by
  rw [List.drop_eq_getElem_cons h, List.getD_eq_getElem?_getD, List.getElem?_eq_getElem h]; rfl
theorem ord_step {l : List Rn} {j : Nat} (h : j < l.length) : ord (l.drop j) (prev l j) = ((decide (knd (l.getD j z43) ≠ 0) && decide (knd (l.getD j z43) ≠ prev l j) && decide (¬ (prev l j = 3 ∧ knd (l.getD j z43) = 2))) && ord (l.drop (j + 1)) (prev l (j + 1))) := by
  rw [drop_get h]
  show _ = _
  simp only [ord]
  rw [show prev l (j + 1) = knd (l.getD j z43) from by unfold prev; rw [if_neg (by omega), Nat.add_sub_cancel]]
theorem at_nat {w : World} {A : Option Addr} {n : Nat} {xs : List Rn} (h : Kd.C k43 w A n xs) (j : Nat) (h1 : j < n) : ∃ ad , A = some ad ∧ w.cell? (ad.add (j * 3)) = some (.int .i64 (xs.getD j z43).f0) ∧ w.cell? ⟨(ad.add (j * 3)).block, (ad.add (j * 3)).off + 1, none⟩ = some (.string (xs.getD j z43).f1) ∧ w.cell? ⟨(ad.add (j * 3)).block, (ad.add (j * 3)).off + 2, none⟩ = some (.int .i64 (xs.getD j z43).f2) := by
  have := at_T43 h (j : Int) (by omega) (by omega)
  unfold rd_T43 at this
  rwa [Int.toNat_natCast] at this
set_option maxHeartbeats 4000000 in
set_option maxRecDepth 100000 in
theorem good_c (A0 : Option Addr) (c0 : Nat) (l0 : List Rn) (w : World) (hr0 : Kd.C k43 w A0 l0.length l0) (hc0 : l0.length ≤ c0) (hl : l0.length ≤ 140737488351232) :
    Calls Try.prog 20 #[.slice A0 l0.length c0] w fun e w' => e = .returned (.bool (good l0)) ∧ Below w.heap.size w w' := by
  have HR := Aside0.mk hr0
  have HC := Aside0.mk hc0
  have HG := Aside0.mk (show good l0 = ((ord l0 0 && decide (l0.length ≤ 65536)) && fits l0 0 0) from rfl)
  clear hr0 hc0
  by_cases h1 : l0.length ≤ 65536
  · have h1' : (l0.length : Int) ≤ 65536 := by omega
    have HG1 := Aside0.mk (show good l0 = (ord l0 0 && fits l0 0 0) by rw [HG.out, decide_eq_true h1, Bool.and_true])
    have HL := Aside0.mk h1
    clear HG hl h1
    go_enter Try.func20, Try.ntmps20
    go_wp2_with fail
    go_loopw [3] (fun iv wr => ∃ j : Nat, j ≤ l0.length ∧ iv = .int .i64 (j : Int) ∧ ord (l0.drop j) (prev l0 j) = ord l0 0 ∧ Below w.heap.size w wr) (fun iv _ => l0.length - (intOf iv).toNat)
    case atStart => exact ⟨0, Nat.zero_le _, rfl, rfl, Below.refl _ _⟩
    case round =>
      obtain ⟨j, hj, rfl, ho, hb⟩ := hrel
      have HB := Aside0.mk hb
      have HO := Aside0.mk ho
      clear hb ho
      by_cases hlt : j < l0.length
      · have hs := ord_step hlt
        obtain ⟨ad, rfl, x0, x1, x2⟩ := at_nat (Kd.C_below HR.out HB.out) j hlt
        obtain ⟨r, hr⟩ : ∃ r, r = l0.getD j z43 := ⟨_, rfl⟩
        rw [← hr] at x0 x1 x2 hs
        have HRR := Aside0.mk hr
        have HSS := Aside0.mk hs
        have hlt' : (j : Int) < (l0.length : Int) := by omega
        clear hr hs
        go_wp2_with fail
        refine (rkind_c r _).mono ?_
        rintro e w1 ⟨rfl, hb⟩
        have HB1 := Aside0.mk (HB.out.trans (hb.mono HB.out.size))
        obtain ⟨t, ht⟩ : ∃ t, t = knd r := ⟨_, rfl⟩
        rw [← ht] at HSS ⊢
        have HT := Aside0.mk ht
        clear hb ht x0 x1 x2
        by_cases c1 : t = 0
        · subst c1
          have HF := Aside0.mk (show good l0 = false by rw [HG1.out, ← HO.out, HSS.out]; simp)
          go_wp2_with fail
          go_ret
          exact ⟨by rw [HF.out]; rfl, HB1.out⟩
        · have c1b : (t == 0) = false := by simpa using c1
          have c1c : (t != 0) = true := by simpa using c1
          by_cases hj0 : j = 0
          · subst hj0
            have HN := Aside0.mk (show ord (l0.drop 1) (prev l0 1) = ord l0 0 by
              rw [← HO.out, HSS.out, show prev l0 0 = 0 from rfl, decide_eq_true (show t ≠ 0 from c1), decide_eq_true (show ¬ ((0 : Int) = 3 ∧ t = 2) by omega)]; rfl)
            clear c1
            go_wp2_with fail
            go_roundw
            case rel => exact ⟨1, by omega, rfl, HN.out, HB1.out⟩
            case measure => simp [intOf]; omega
          · have hj1 : 0 < j := by omega
            have hj2 : (0 : Int) < (j : Int) := by omega
            obtain ⟨ad', e', y0, y1, y2⟩ := at_nat (Kd.C_below HR.out HB1.out) (j - 1) (by omega)
            cases e'
            have hjn : ((j : Int) - 1).toNat = j - 1 := by omega
            obtain ⟨q, hq⟩ : ∃ q, q = l0.getD (j - 1) z43 := ⟨_, rfl⟩
            rw [← hq] at y0 y1 y2
            have HP := Aside0.mk (show prev l0 j = knd q by rw [hq]; unfold prev; rw [if_neg hj0])
            obtain ⟨u, hu⟩ : ∃ u, u = knd q := ⟨_, rfl⟩
            have HU := Aside0.mk hu
            have HQ := Aside0.mk hq
            rw [← hu] at HP
            clear hq hu hj0
            have hKQ := rkind_c q
            rw [← HU.out] at hKQ
            have HKQ := Aside0.mk hKQ
            clear hKQ
            by_cases c2 : u = t
            · subst c2
              have HF := Aside0.mk (show good l0 = false by rw [HG1.out, ← HO.out, HSS.out, HP.out]; simp)
              clear c1
              go_wp2_with fail
              refine (HKQ.out _).mono ?_
              rintro e w2 ⟨rfl, hb⟩
              have HB2 := Aside0.mk (HB1.out.trans (hb.mono HB1.out.size))
              clear hb y0 y1 y2
              go_wp2_with fail
              go_ret
              exact ⟨by rw [HF.out]; rfl, HB2.out⟩
            · have c2b : (u == t) = false := by simpa using c2
              have c2c : (u != t) = true := by simpa using c2
              have hy : ∀ w2, Below w.heap.size w w2 → w2.cell? (ad.add ((j - 1) * 3)) = some (.int .i64 q.f0) ∧ w2.cell? ⟨(ad.add ((j - 1) * 3)).block, (ad.add ((j - 1) * 3)).off + 1, none⟩ = some (.string q.f1) ∧ w2.cell? ⟨(ad.add ((j - 1) * 3)).block, (ad.add ((j - 1) * 3)).off + 2, none⟩ = some (.int .i64 q.f2) := by
                intro w2 hb2
                obtain ⟨ad2, e2, z0, z1, z2⟩ := at_nat (Kd.C_below HR.out hb2) (j - 1) (by omega)
                cases e2
                rw [HQ.out]
                exact ⟨z0, z1, z2⟩
              have HY := Aside0.mk hy
              clear hy
              go_wp2_with fail
              refine (HKQ.out _).mono ?_
              rintro e w2 ⟨rfl, hb⟩
              have HB2 := Aside0.mk (HB1.out.trans (hb.mono HB1.out.size))
              clear hb y0 y1 y2
              obtain ⟨y0, y1, y2⟩ := HY.out _ HB2.out
              by_cases c3 : u = 3
              · subst c3
                by_cases c4 : t = 2
                · subst c4
                  have HF := Aside0.mk (show good l0 = false by rw [HG1.out, ← HO.out, HSS.out, HP.out]; simp)
                  clear c1
                  go_wp2_with fail
                  refine (HKQ.out _).mono ?_
                  rintro e w3 ⟨rfl, hb⟩
                  have HB3 := Aside0.mk (HB2.out.trans (hb.mono HB2.out.size))
                  clear hb y0 y1 y2
                  go_wp2_with fail
                  go_ret
                  exact ⟨by rw [HF.out]; rfl, HB3.out⟩
                · have c4b : (t == 2) = false := by simpa using c4
                  have HN := Aside0.mk (show ord (l0.drop (j + 1)) (prev l0 (j + 1)) = ord l0 0 by
                    rw [← HO.out, HSS.out, HP.out, decide_eq_true (show t ≠ 0 from c1), decide_eq_true (show t ≠ 3 by omega), decide_eq_true (show ¬ ((3 : Int) = 3 ∧ t = 2) by omega)]; rfl)
                  clear c1 c2 c4
                  go_wp2_with fail
                  refine (HKQ.out _).mono ?_
                  rintro e w3 ⟨rfl, hb⟩
                  have HB3 := Aside0.mk (HB2.out.trans (hb.mono HB2.out.size))
                  clear hb y0 y1 y2
                  go_wp2_with fail
                  go_roundw
                  case rel => exact ⟨j + 1, by omega, by go_num, HN.out, HB3.out⟩
                  case measure => simp [intOf]; omega
              · have c3b : (u == 3) = false := by simpa using c3
                have HN := Aside0.mk (show ord (l0.drop (j + 1)) (prev l0 (j + 1)) = ord l0 0 by
                  rw [← HO.out, HSS.out, HP.out, decide_eq_true (show t ≠ 0 from c1), decide_eq_true (show t ≠ u by omega), decide_eq_true (show ¬ (u = 3 ∧ t = 2) by omega)]; rfl)
                clear c1 c2 c3
                go_wp2_with fail
                refine (HKQ.out _).mono ?_
                rintro e w3 ⟨rfl, hb⟩
                have HB3 := Aside0.mk (HB2.out.trans (hb.mono HB2.out.size))
                clear hb y0 y1 y2
                go_wp2_with fail
                go_roundw
                case rel => exact ⟨j + 1, by omega, by go_num, HN.out, HB3.out⟩
                case measure => simp [intOf]; omega
      · have hj3 : j = l0.length := by omega
        have HOT := Aside0.mk (show ord l0 0 = true by rw [← HO.out, hj3, List.drop_length]; rfl)
        have hf := rsums_f (show l0.length ≤ 140737488351232 by have := HL.out; omega) (ord_ok HOT.out) (l0.length + 1) (by omega)
        rw [show cond (fits l0 0 0) (inL l0, outL l0, true) (0, 0, false) = ((cond (fits l0 0 0) (inL l0) 0, cond (fits l0 0 0) (outL l0) 0, fits l0 0 0) : Int × Int × Bool) from by cases fits l0 0 0 <;> rfl] at hf
        have HS := Aside0.mk (variorumref06_sums.calls (l0.length + 1) A0 c0 l0 _ _ _ wr (Kd.C_below HR.out HB.out) HC.out hf)
        have HF := Aside0.mk (show good l0 = fits l0 0 0 by rw [HG1.out, HOT.out, Bool.true_and])
        have hge : ¬ ((j : Int) < (l0.length : Int)) := by omega
        clear hf hlt hj3
        go_wp2_with fail
        refine HS.out.mono ?_
        rintro e w1 ⟨rfl, hb⟩
        have HB1 := Aside0.mk (HB.out.trans (hb.mono HB.out.size))
        clear hb
        go_wp2_with fail
        go_ret
        exact ⟨by rw [HF.out]; rfl, HB1.out⟩
  · have h1' : (65536 : Int) < (l0.length : Int) := by omega
    have HF := Aside0.mk (show good l0 = false by rw [HG.out, decide_eq_false h1, Bool.and_false]; rfl)
    clear HG h1
    go_enter Try.func20, Try.ntmps20
    go_wp2_with fail
    go_ret
    exact ⟨by rw [HF.out]; rfl, Below.refl _ _⟩
end Go.Proofs.Ytbfdplmgefcogaa.EditK
end
-- MERGED YtbfdplmgefcogaaRangeSt
section
/- A range over a function whose iterator keeps a state of its own in cells: one law, over one invariant of the loop's and the iterator's cells together. -/
namespace Go.Proofs.Ytbfdplmgefcogaa.RangeSt
open Go Go.RowKit

variable {F : Fence} {n : Nat} {P : Program}

/-- How a round's body may be left. -/
def leftBy {σ : Type} (B : Nat) (I : σ → World → Prop) (Ix : Code → σ → World → Prop) (s : σ) (W : World) : Exit → Act → World → Prop
  | .normal, _, W' => KeepsFrom B W W' ∧ I s W'
  | .ret, _, W' => KeepsFrom B W W' ∧ Ix .ret s W'
  | .exit id, _, W' => KeepsFrom B W W' ∧ Ix (.exit id) s W'
  | .goto t, _, W' => KeepsFrom B W W' ∧ Ix (.goto t) s W'
  | .panic _, _, _ => False
  | .outgrown, _, _ => False
/-- The loop's own two blocks lie as they were laid. -/
def Lies (l D : Nat) (r : Loop) (W : World) : Prop := W.heap[l]? = some (.loop r) ∧ W.heap[D]? = some (.deferred (some []))
theorem Lies.keeps {l D B : Nat} {r : Loop} {W W' : World} (h : Lies l D r W) (hl : B ≤ l) (hD : B ≤ D) (hk : KeepsFrom B W W') : Lies l D r W' := ⟨hk.same _ _ hl h.1 rfl, hk.same _ _ hD h.2 rfl⟩
theorem Lies.lt {l D : Nat} {r : Loop} {W : World} (h : Lies l D r W) : l < W.heap.size := (Array.getElem?_eq_some_iff.1 h.1).1
theorem Lies.turned {l D : Nat} {r : Loop} {W : World} (h : Lies l D r W) (hne : D ≠ l) (r' : Loop) : Lies l D r' (W.putObj l (.loop r')) :=
  ⟨World.putObj_heap_same h.lt, (World.putObj_heap_other hne).trans h.2⟩

theorem range_st {α σ : Type} {g : Operand} {ps : Array Tmp} {assign body : Code} {Q : Exit → Act → World → Prop} {a : Act} {w : World}
    (hro : F.round = none) (h1 : 1 ≤ n) {gf : Nat} {lb : Array Value} (hg : a.eval g = .func (.func gf) #[] lb) (hFg : F.fn gf) (eg : ∀ args w, (callFunc gf args).run P w = .ok (.enter gf args) w)
    (encs : α → Array Value) (hps : ∀ x, (encs x).size = ps.size) (nx : σ → α → σ) (may : σ → α → Prop) (Fin : σ → Prop)
    (I : σ → World → Prop) (Ix : Code → σ → World → Prop) (hI : OwnFrom w.heap.size I) (hIx : ∀ c, OwnFrom w.heap.size (Ix c)) (s0 : σ) (h0 : I s0 w)
    (Ax : α → Act → World → Prop) (hAx : ∀ x a', OwnFrom w.heap.size (fun (_ : Unit) W => Ax x a' W))
    (hassign : ∀ (l : Nat) (s : σ) (x : α) (W : World) (K : Act → World → Prop), I s W → (∀ a' W', KeepsFrom w.heap.size W W' → I s W' → Ax x a' W' → K a' W') →
      assign.wpIn (F.inRound l) (n - 1 - 1) P (Exit.then K (fun _ _ _ => False)) { tmps := (ps.zip (encs x)).foldl (fun t (p, v) => t.setIfInBounds p v) a.tmps, defers := [] } W)
    (hbody : ∀ (l : Nat) (s : σ) (x : α) (a' : Act) (W : World), I s W → Ax x a' W → may s x → body.wpIn (F.inRound l) (n - 1 - 1) P (leftBy w.heap.size I Ix (nx s x) W) a' W)
    (hiter : ∀ (l : Nat) (St : World → Prop) (Dn : Code → World → Prop) (W1 : World), (∀ W W', St W → KeepsFrom w.heap.size W W' → St W') → (∀ c W W', Dn c W → KeepsFrom w.heap.size W W' → Dn c W') →
      W1.heap.size = w.heap.size + 2 → Below w.heap.size w W1 → I s0 W1 → St W1 →
      (∀ s x W, I s W → St W → may s x → YieldAt F (n - 1 - 1) P l (encs x) W fun e W' =>
        (e = .returned (.bool true) ∧ I (nx s x) W' ∧ St W') ∨ (e = .returned (.bool false) ∧ ∃ c, Ix c (nx s x) W' ∧ Dn c W')) →
      CallsIn F (n - 1) P gf (#[.func (.yield l) #[] #[]] ++ lb) W1 fun e W' => (∃ v, e = .returned v) ∧ ((∃ s, Fin s ∧ I s W' ∧ St W') ∨ (∃ c s, Ix c s W' ∧ Dn c W')))
    (hdone : ∀ (D : Nat) (s : σ) (W : World), w.heap.size ≤ D → Fin s → I s W → W.heap[D]? = some (.deferred (some [])) → Q .normal { a with defers := { target := .collected D, args := #[] } :: a.defers } W)
    (hstop : ∀ (D : Nat) (c : Code) (s : σ) (W : World), w.heap.size ≤ D → Ix c s W → W.heap[D]? = some (.deferred (some [])) → c.wpIn F n P Q { a with defers := { target := .collected D, args := #[] } :: a.defers } W) :
    (Code.rangeFunc g ps assign body).wpIn F n P Q a w := by
  refine wpIn_rangeFunc fun fn hfn => ?_
  rw [hro]
  obtain ⟨rc, hrc⟩ : ∃ rc : LoopState → Option Code → Loop, rc = fun st pe => { state := st, pending := pe, fn, tmps := a.tmps, params := ps, assign, body, defers := w.heap.size } := ⟨_, rfl⟩
  obtain ⟨W1, hW1⟩ : ∃ W1, W1 = (w.alloc (.deferred (some []))).alloc (.loop (rc .ready none)) := ⟨_, rfl⟩
  obtain ⟨l, hl⟩ : ∃ l, l = w.heap.size + 1 := ⟨_, rfl⟩
  have hne : w.heap.size ≠ l := by omega
  have hle : w.heap.size ≤ l := by omega
  have hL1 : Lies l w.heap.size (rc .ready none) W1 := by
    subst hW1 hl
    refine ⟨?_, (Below.heap_alloc _ _ _ (by simp)).trans (World.alloc_heap_new w _)⟩
    have := World.alloc_heap_new (w.alloc (.deferred (some []))) (.loop (rc .ready none))
    rwa [World.size_alloc] at this
  have hI1 : I s0 W1 := by rw [hW1]; exact hI.alloc _ (hI.alloc _ h0)
  have hb1 : Below w.heap.size w W1 := by rw [hW1]; exact ((Below.refl _ w).alloc (Nat.le_refl _) _).alloc (by simp) _
  have hz1 : W1.heap.size = w.heap.size + 2 := by rw [hW1]; simp
  refine ⟨l, [{ target := .collected w.heap.size, args := #[] }], W1, { target := .fn (.func gf) lb, args := #[.func (.yield l) #[] #[]] }, W1, gf, #[.func (.yield l) #[] #[]] ++ lb, W1, ?_, ?_, ?_, ?_, fun _ => h1, ?_⟩
  · rw [hW1, hrc, hl]; exact run_enterLoop_outer _ _ _ _ _
  · simp only [resolve, hg]
    simp [go_sem]
  · intro f' hf'
    simp [Target.leads] at hf'
    subst hf'
    exact hFg
  · simp [invoke, go_sem, eg]
  refine (hiter l (Lies l w.heap.size (rc .ready none)) (fun c => Lies l w.heap.size (rc .done (some c))) W1 (fun W W' h hk => h.keeps hle (Nat.le_refl _) hk) (fun c W W' h hk => h.keeps hle (Nat.le_refl _) hk) hz1 hb1 hI1 hL1 ?_).mono ?_
  · -- a round
    intro s x W hi hL hmay
    have hy := run_yield (P := P) (args := encs x) hL.1 (by rw [hrc]; exact hps x)
    rw [hrc] at hy
    refine ⟨fn, _, assign, body, hy, roundIn_of_wpIn hfn (hassign _ s x W _ hi ?_)⟩
    intro a' Wa hka hia hax
    have hLa := hL.keeps hle (Nat.le_refl _) hka
    have hLb := hLa.turned hne { rc .ready none with state := .busy }
    refine ⟨_, run_beginRound hLa.1 (by rw [hrc]), ?_⟩
    refine wpIn_mono (hbody _ s x a' _ (hI.putObj _ hia hle hLa.1 rfl) ((hAx x a').putObj (s := ()) _ hax hle hLa.1 rfl) hmay) ?_
    have fin : ∀ (jump : Option Code) (W3 : World), KeepsFrom w.heap.size (Wa.putObj l (.loop { rc .ready none with state := .busy })) W3 →
        (Instr.endRound l jump).run P W3 = .ok (.bool jump.isNone) (W3.putObj l (.loop (rc (if jump.isNone then .ready else .done) jump))) ∧ Lies l w.heap.size { rc .ready none with state := .busy } W3 := by
      intro jump W3 hk3
      have hL3 := hLb.keeps hle (Nat.le_refl _) hk3
      have h := run_endRound (P := P) jump hL3.1
      refine ⟨?_, hL3⟩
      rw [hrc] at h ⊢
      exact h
    rintro e a3 W3 hp
    cases e with
    | normal =>
      obtain ⟨hr, hL3⟩ := fin none W3 hp.1
      exact ⟨_, _, hr, .inl ⟨rfl, hI.putObj _ hp.2 hle hL3.1 rfl, hL3.turned hne _⟩⟩
    | ret =>
      obtain ⟨hr, hL3⟩ := fin (some .ret) W3 hp.1
      exact ⟨_, _, hr, .inr ⟨rfl, .ret, (hIx _).putObj _ hp.2 hle hL3.1 rfl, hL3.turned hne _⟩⟩
    | exit id =>
      obtain ⟨hr, hL3⟩ := fin (some (.exit id)) W3 hp.1
      exact ⟨_, _, hr, .inr ⟨rfl, .exit id, (hIx _).putObj _ hp.2 hle hL3.1 rfl, hL3.turned hne _⟩⟩
    | goto t =>
      obtain ⟨hr, hL3⟩ := fin (some (.goto t)) W3 hp.1
      exact ⟨_, _, hr, .inr ⟨rfl, .goto t, (hIx _).putObj _ hp.2 hle hL3.1 rfl, hL3.turned hne _⟩⟩
    | panic ch => exact hp.elim
    | outgrown => exact hp.elim
  · -- behind the iterator
    rintro e W2 ⟨⟨v, rfl⟩, (⟨s, hf, hi, hL⟩ | ⟨c, s, hi, hL⟩)⟩
    · have hend := run_endLoop (P := P) hL.1 (by rw [hrc]; simp)
      rw [hrc] at hend
      refine ⟨none, _, hend, ?_⟩
      rw [hrc] at hL
      exact hdone _ s _ (Nat.le_refl _) hf (hI.putObj _ hi hle hL.1 rfl) (hL.turned hne _).2
    · have hend := run_endLoop (P := P) hL.1 (by rw [hrc]; simp)
      rw [hrc] at hend
      refine ⟨some c, _, hend, ?_⟩
      rw [hrc] at hL
      exact hstop _ c s _ (Nat.le_refl _) ((hIx c).putObj _ hi hle hL.1 rfl) (hL.turned hne _).2
end Go.Proofs.Ytbfdplmgefcogaa.RangeSt
end
-- MERGED YtbfdplmgefcogaaRangeG
section
/- A range over a function whose iterator keeps a state of its own in cells that it lays itself: what is the iterator's is named, block by block; the loop's own state abides whatever the iterator does with them. -/
namespace Go.Proofs.Ytbfdplmgefcogaa.RangeG
open Go Go.RowKit Go.Proofs.Ytbfdplmgefcogaa.RangeSt

variable {P : Program}

theorem room_none {F : Fence} (hd : F.depth = none) (k : Nat) : F.room k := fun d h => by rw [hd] at h; cases h
theorem round_any {F : Fence} (hd : F.depth = none) {m m' : Nat} {l : Nat} {f : FuncId} {tmps : Array Value} {assign body : Code} {w : World} {R : Ending → World → Prop}
    (h : RoundIn F m P l f tmps assign body w R) : RoundIn F m' P l f tmps assign body w R := ⟨h.1, fun c cs _ => h.2 c cs (room_none hd _)⟩
theorem yield_any {m : Nat} (m' : Nat) {l : Nat} {args : Array Value} {W : World} {R : Ending → World → Prop} (h : YieldAt Fence.wide m P l args W R) : YieldAt Fence.wide m' P l args W R := by
  obtain ⟨fn, tmps, assign, body, hy, hR⟩ := h
  exact ⟨fn, tmps, assign, body, hy, round_any rfl hR⟩

/-- What is the iterator's: which blocks, and what lies in them. -/
abbrev Priv := Nat → Option Obj
def Priv.none : Priv := fun _ => Option.none
def Priv.put (G : Priv) (b : Nat) (o : Obj) : Priv := fun k => if k = b then some o else G k
theorem Priv.put_same (G : Priv) (b : Nat) (o : Obj) : G.put b o b = some o := if_pos rfl
theorem Priv.put_other (G : Priv) {b k : Nat} (o : Obj) (h : k ≠ b) : G.put b o k = G k := if_neg h
/-- A turn of the iterator's: it writes its own blocks, and lays new ones. -/
structure Turn (G : Priv) (W W' : World) : Prop where
  os : W'.os = W.os
  tape : W'.tape = W.tape
  output : W'.output = W.output
  size : W.heap.size ≤ W'.heap.size
  block : ∀ k, k < W.heap.size → G k = Option.none → W'.heap[k]? = W.heap[k]?
theorem Turn.of_below {G : Priv} {W W' : World} (h : Below W.heap.size W W') : Turn G W W' := ⟨h.os, h.tape, h.output, h.size, fun k hk _ => h.block k hk⟩
theorem Turn.trans {G : Priv} {A B C : World} (h : Turn G A B) (k : Turn G B C) : Turn G A C :=
  ⟨k.os.trans h.os, k.tape.trans h.tape, k.output.trans h.output, Nat.le_trans h.size k.size, fun i hi hG => (k.block i (Nat.lt_of_lt_of_le hi h.size) hG).trans (h.block i hi hG)⟩
theorem Turn.setCell {G : Priv} (W : World) (b o : Nat) (u : Value) (hb : G b ≠ Option.none) : Turn G W (W.setCell ⟨b, o, Option.none⟩ u) :=
  ⟨rfl, rfl, rfl, by simp [World.setCell], fun k _ hG => Below.heap_setCell _ _ _ _ (fun e => hb (by show G b = Option.none; rw [← show k = b from e]; exact hG))⟩
/-- The loop's state abides the iterator's turns. -/
structure Party {α : Type} (J : List α → Priv → World → Prop) : Prop where
  lies : ∀ pre G W, J pre G W → ∀ k o, G k = some o → W.heap[k]? = some o
  turn : ∀ pre G G' W W', J pre G W → Turn G W W' → (∀ k o, G' k = some o → W'.heap[k]? = some o ∧ o.isCells = true ∧ (G k ≠ Option.none ∨ W.heap.size ≤ k)) → J pre G' W'
  cells : ∀ pre G W, J pre G W → ∀ k o, G k = some o → o.isCells = true
section
variable {α : Type} {J : List α → Priv → World → Prop} (hP : Party J) {pre : List α} {G : Priv} {W W' : World}
include hP
theorem Party.lt (h : J pre G W) {b : Nat} {o : Obj} (hb : G b = some o) : b < W.heap.size := (Array.getElem?_eq_some_iff.1 (hP.lies _ _ _ h _ _ hb)).1
theorem Party.below (h : J pre G W) (hb : Below W.heap.size W W') : J pre G W' :=
  hP.turn _ _ _ _ _ h (Turn.of_below hb) fun k o hk => ⟨(hb.block k (hP.lt h hk)).trans (hP.lies _ _ _ h _ _ hk), hP.cells _ _ _ h _ _ hk, .inl (by rw [hk]; exact fun e => by cases e)⟩
/-- New blocks become the iterator's. -/
theorem Party.lay (h : J pre G W) (hb : Below W.heap.size W W') {b : Nat} {o : Obj} (hn : W.heap.size ≤ b) (ho : W'.heap[b]? = some o) (hc : o.isCells = true) : J pre (G.put b o) W' :=
  hP.turn _ _ _ _ _ h (Turn.of_below hb) fun k o' hk => by
    by_cases e : k = b
    · subst e
      rw [Priv.put_same] at hk
      obtain rfl := Option.some.inj hk
      exact ⟨ho, hc, .inr hn⟩
    · rw [Priv.put_other _ _ e] at hk
      exact ⟨(hb.block k (hP.lt h hk)).trans (hP.lies _ _ _ h _ _ hk), hP.cells _ _ _ h _ _ hk, .inl (by rw [hk]; exact fun e => by cases e)⟩
/-- A block of the iterator's own is written. -/
theorem Party.set (h : J pre G W) {b : Nat} {o o' : Obj} (hG : G b = some o) (hT : ∀ k, k ≠ b → W'.heap[k]? = W.heap[k]?) (hz : W'.heap.size = W.heap.size) (hos : W'.os = W.os) (htp : W'.tape = W.tape) (hou : W'.output = W.output) (ho : W'.heap[b]? = some o') (hc : o'.isCells = true) : J pre (G.put b o') W' :=
  hP.turn _ _ _ _ _ h ⟨hos, htp, hou, by rw [hz]; exact Nat.le_refl _, fun k _ hk => hT k (fun e => by subst e; rw [hG] at hk; cases hk)⟩ fun k o2 hk => by
    by_cases e : k = b
    · subst e
      rw [Priv.put_same] at hk
      obtain rfl := Option.some.inj hk
      exact ⟨ho, hc, .inl (by rw [hG]; exact fun e => by cases e)⟩
    · rw [Priv.put_other _ _ e] at hk
      exact ⟨(hT k e).trans (hP.lies _ _ _ h _ _ hk), hP.cells _ _ _ h _ _ hk, .inl (by rw [hk]; exact fun e => by cases e)⟩
theorem Party.setCell (h : J pre G W) {b : Nat} {cs : Array Value} {t : TypeId} {fr : Nat × Nat} (hG : G b = some (.cells cs t fr)) (i : Nat) (u : Value) (hput : (W.setCell ⟨b, i, Option.none⟩ u).heap[b]? = some (.cells (cs.setIfInBounds i u) t fr)) :
    J pre (G.put b (.cells (cs.setIfInBounds i u) t fr)) (W.setCell ⟨b, i, Option.none⟩ u) :=
  hP.set h hG (fun k hk => Below.heap_setCell _ _ _ _ hk) (by simp [World.setCell]) rfl rfl rfl hput rfl
end
/-- What an iterator gives: L, in order, while no round says 'no more'. -/
def Gives {α : Type} (P : Program) (gf : Nat) (lb : Array Value) (encs : α → Array Value) (L : List α) (K0 : World → Prop) : Prop :=
  ∀ (n l : Nat) (J : List α → Priv → World → Prop) (X : World → Prop) (W1 : World), Party J → (∀ pre G W, J pre G W → K0 W) →
    (∀ m pre x suf G W, L = pre ++ x :: suf → J pre G W → YieldAt Fence.wide m P l (encs x) W fun e W' => (e = .returned (.bool true) ∧ J (pre ++ [x]) G W') ∨ (e = .returned (.bool false) ∧ X W')) →
    J [] Priv.none W1 → CallsIn Fence.wide n P gf (#[.func (.yield l) #[] #[]] ++ lb) W1 fun e W' => (∃ v, e = .returned v) ∧ ((∃ G, J L G W') ∨ X W')

theorem range_g {α : Type} {n : Nat} {g : Operand} {ps : Array Tmp} {assign body : Code} {Q : Exit → Act → World → Prop} {a : Act} {w : World}
    (h1 : 1 ≤ n) {gf : Nat} {lb : Array Value} (hg : a.eval g = .func (.func gf) #[] lb) (eg : ∀ args w, (callFunc gf args).run P w = .ok (.enter gf args) w)
    (encs : α → Array Value) (hps : ∀ x, (encs x).size = ps.size) (L : List α) (K0 : World → Prop) (hgives : Gives P gf lb encs L K0)
    (J : List α → Priv → World → Prop) (hP : Party J) (hK : ∀ pre G W, J pre G W → K0 W) (hJo : OwnFrom w.heap.size (fun (s : List α × Priv) W => J s.1 s.2 W))
    (Ix : Code → List α × Priv → World → Prop) (hIx : ∀ c, OwnFrom w.heap.size (Ix c)) (h0 : J [] Priv.none w)
    (Ax : α → Act → World → Prop) (hAx : ∀ x a', OwnFrom w.heap.size (fun (_ : Unit) W => Ax x a' W))
    (hassign : ∀ (l : Nat) (pre : List α) (G : Priv) (x : α) (W : World) (K : Act → World → Prop), J pre G W → (∀ a' W', KeepsFrom w.heap.size W W' → J pre G W' → Ax x a' W' → K a' W') →
      assign.wpIn (Fence.wide.inRound l) (n - 1 - 1) P (Exit.then K (fun _ _ _ => False)) { tmps := (ps.zip (encs x)).foldl (fun t (p, v) => t.setIfInBounds p v) a.tmps, defers := [] } W)
    (hbody : ∀ (l : Nat) (pre : List α) (x : α) (suf : List α) (G : Priv) (a' : Act) (W : World), L = pre ++ x :: suf → J pre G W → Ax x a' W →
      body.wpIn (Fence.wide.inRound l) (n - 1 - 1) P (leftBy w.heap.size (fun (s : List α × Priv) W => J s.1 s.2 W) Ix (pre ++ [x], G) W) a' W)
    (hdone : ∀ (D : Nat) (G : Priv) (W : World), w.heap.size ≤ D → J L G W → W.heap[D]? = some (.deferred (some [])) → Q .normal { a with defers := { target := .collected D, args := #[] } :: a.defers } W)
    (hstop : ∀ (D : Nat) (c : Code) (s : List α × Priv) (W : World), w.heap.size ≤ D → Ix c s W → W.heap[D]? = some (.deferred (some [])) → c.wpIn Fence.wide n P Q { a with defers := { target := .collected D, args := #[] } :: a.defers } W) :
    (Code.rangeFunc g ps assign body).wpIn Fence.wide n P Q a w := by
  refine range_st (F := Fence.wide) (n := n) (σ := List α × Priv) (w := w) rfl h1 hg trivial eg encs hps (fun s x => (s.1 ++ [x], s.2)) (fun s x => ∃ suf, L = s.1 ++ x :: suf) (fun s => s.1 = L) (fun s W => J s.1 s.2 W) Ix hJo hIx ([], Priv.none) h0 Ax hAx
    (fun l s x W K hi hK => hassign l s.1 s.2 x W K hi hK) (fun l s x a' W hi hax hm => hm.elim fun suf hs => hbody l s.1 x suf s.2 a' W hs hi hax) ?_ (fun D s W hD hf hi hd => hdone D s.2 W hD (by rw [← hf]; exact hi) hd) (fun D c s W hD hi hd => hstop D c s W hD hi hd)
  intro l St Dn W1 hSt hDn hz1 hb1 hI1 hSt1 hY
  have hP2 : Party (fun pre G W => J pre G W ∧ St W) := by
    refine ⟨fun pre G W h => hP.lies _ _ _ h.1, fun pre G G' W W' h ht hG => ⟨hP.turn _ _ _ _ _ h.1 ht hG, hSt _ _ h.2 ⟨ht.size, fun k o _ hk hc => ?_⟩⟩, fun pre G W h => hP.cells _ _ _ h.1⟩
    refine (ht.block k (Array.getElem?_eq_some_iff.1 hk).1 ?_).trans hk
    cases e : G k with
    | none => rfl
    | some o' =>
      have e1 := hP.lies _ _ _ h.1 _ _ e
      rw [hk] at e1
      obtain rfl := Option.some.inj e1
      rw [hP.cells _ _ _ h.1 _ _ e] at hc
      cases hc
  refine (hgives (n - 1) l (fun pre G W => J pre G W ∧ St W) (fun W => ∃ c s, Ix c s W ∧ Dn c W) W1 hP2 (fun pre G W h => hK _ _ _ h.1) ?_ ⟨hI1, hSt1⟩).mono ?_
  · intro m pre x suf G W hL hj
    refine yield_any m ((hY (pre, G) x W hj.1 hj.2 ⟨suf, hL⟩).mono fun e W' h => ?_)
    rcases h with ⟨he, h1, h2⟩ | ⟨he, c, h1, h2⟩
    · exact .inl ⟨he, h1, h2⟩
    · exact .inr ⟨he, c, _, h1, h2⟩
  · rintro e W' ⟨hv, h⟩
    refine ⟨hv, ?_⟩
    rcases h with ⟨G, h1, h2⟩ | ⟨c, s, h1, h2⟩
    · exact .inl ⟨(L, G), rfl, h1, h2⟩
    · exact .inr ⟨c, s, h1, h2⟩
end Go.Proofs.Ytbfdplmgefcogaa.RangeG
end
-- MERGED YtbfdplmgefcogaaPPart1
section
-- Written by wip/myprint.py of this session, over the kit's print.py: a Lean function for each Go function, and the proof that the code comes to it.
namespace Go.Proofs.Ytbfdplmgefcogaa.P
open Go.RowKit Go.Proofs.YtbfdplmgefcogaaW.PrintWords Go.Proofs.YtbfdplmgefcogaaW.PrintLast Go.Proofs.YtbfdplmgefcogaaW.PrintMore
attribute [local go_sem] max2_int min2_int max_two min_two max_three min_three max_four min_four   -- for this text's walks alone
set_option linter.unusedVariables false
set_option linter.unusedSimpArgs false

theorem eqA43 (d : Nat) (w : World) (x0 y0 : Int) (x1 y1 : ByteArray) (x2 y2 : Int) :
    (Op.equalIn (d + 2) 43 (.agg #[.int .i64 x0, .string x1, .int .i64 x2]) (.agg #[.int .i64 y0, .string y1, .int .i64 y2])).run Try.prog w = .ok (x0 == y0 && (x1.toList == y1.toList && (x2 == y2))) w := by
  refine eqA_of Try.underlying43 (by kernel_rfl) ?_
  refine eqf_cons (by rfl) (by go_simp; rfl) (by go_simp; rfl) (by go_simp) ?_
  refine eqf_cons (by rfl) (by go_simp; rfl) (by go_simp; rfl) (by go_simp) ?_
  exact eqf_last (by rfl) (by go_simp; rfl) (by go_simp; rfl) (by go_simp)
end Go.Proofs.Ytbfdplmgefcogaa.P
end
-- MERGED YtbfdplmgefcogaaPeditkind
section
-- Written by wip/myprint.py of this session, over the kit's print.py: a Lean function for each Go function, and the proof that the code comes to it.
namespace Go.Proofs.Ytbfdplmgefcogaa.P
open Go.RowKit Go.Proofs.YtbfdplmgefcogaaW.PrintWords Go.Proofs.YtbfdplmgefcogaaW.PrintLast Go.Proofs.YtbfdplmgefcogaaW.PrintMore
attribute [local go_sem] max2_int min2_int max_two min_two max_three min_three max_four min_four   -- for this text's walks alone
set_option linter.unusedVariables false
set_option linter.unusedSimpArgs false

/-! ### edit_kind: function 42 -/
-- NEEDS Derived.Test.YtbfdplmgefcogaaEditL
def edit_kind.f (a0_0 : Int) (a0_1 : ByteArray) (a0_2 : Int) : Option (Int) := some (EditL.knd ⟨a0_0, a0_1, a0_2⟩)
attribute [local go_sem high] eqA43
theorem edit_kind.lnil (s : ByteArray) (h : s.size ≠ 0) : (s.toList == ([] : List UInt8)) = false := by
  rw [beq_eq_false_iff_ne, ByteArray.toList_eq]
  intro e
  apply h
  show s.data.size = 0
  rw [← Array.length_toList, e]; rfl
set_option maxHeartbeats 8000000 in
set_option maxRecDepth 100000 in
theorem edit_kind.calls (a0_0 : Int) (a0_1 : ByteArray) (a0_2 : Int) (r : Int) (w : World) (h : edit_kind.f a0_0 a0_1 a0_2 = some r) :
    Calls Try.prog 42 #[.agg #[.int .i64 a0_0, .string a0_1, .int .i64 a0_2]] w fun e w' => e = .returned (.int .i64 r) ∧ Below w.heap.size w w' := by
  obtain rfl := Option.some.inj h
  clear h
  have HB := Aside0.mk (below_alloc (Below.refl w.heap.size w) (.cells #[.int .i64 a0_0, .string a0_1, .int .i64 a0_2] 43))
  obtain ⟨n, hn⟩ : ∃ n, n = a0_1.size := ⟨_, rfl⟩
  have HK := Aside0.mk (show ∀ x y : Int, x = a0_0 → y = a0_2 → EditL.knd ⟨a0_0, a0_1, a0_2⟩ = if 0 < x ∧ n = 0 ∧ y = 0 then 1 else if x = 0 ∧ n ≠ 0 ∧ y = 0 then 2 else if x = 0 ∧ n = 0 ∧ 0 < y then 3 else 0 from fun x y hx hy => by rw [hx, hy, hn]; rfl)
  have HN := Aside0.mk hn
  obtain ⟨K, hK⟩ : ∃ K, K = EditL.knd ⟨a0_0, a0_1, a0_2⟩ := ⟨_, rfl⟩
  rw [← hK] at HK ⊢
  clear hK hn
  have h0 : a0_0 < 0 ∨ a0_0 = 0 ∨ 0 < a0_0 := by omega
  have h2 : a0_2 < 0 ∨ a0_2 = 0 ∨ 0 < a0_2 := by omega
  by_cases h1 : a0_1.size = 0
  · have e1 : a0_1 = ⟨#[]⟩ := EditL.eq_E h1
    subst e1
    have HZ := Aside0.mk (HN.out.trans h1)
    clear h1 HN
    rcases h0 with h0 | rfl | h0
    all_goals rcases h2 with h2 | rfl | h2
    all_goals try have g0 : (a0_0 == 0) = false := by simp; omega
    all_goals try have g2 : (a0_2 == 0) = false := by simp; omega
    all_goals try have g0' : ¬ 0 < a0_0 := by omega
    all_goals try have g2' : ¬ 0 < a0_2 := by omega
    all_goals
      go_enter Try.func42, Try.ntmps42
      go_wp2_with fail
      go_ret
      refine ⟨?_, HB.out⟩
      refine congrArg (fun x : Int => Ending.returned (Value.int IntKind.i64 x)) ?_
      rw [HK.out _ _ rfl rfl]
      have := HZ.out
      clear HK HZ HB
      (repeat' split) <;> omega
  · have g1 := edit_kind.lnil a0_1 h1
    have HZ := Aside0.mk (show n ≠ 0 by rw [HN.out]; exact h1)
    clear h1 HN
    rcases h0 with h0 | rfl | h0
    all_goals rcases h2 with h2 | rfl | h2
    all_goals try have g0 : (a0_0 == 0) = false := by simp; omega
    all_goals try have g2 : (a0_2 == 0) = false := by simp; omega
    all_goals try have g0' : ¬ 0 < a0_0 := by omega
    all_goals try have g2' : ¬ 0 < a0_2 := by omega
    all_goals
      go_enter Try.func42, Try.ntmps42
      go_wp2_with fail
      go_ret
      refine ⟨?_, HB.out⟩
      refine congrArg (fun x : Int => Ending.returned (Value.int IntKind.i64 x)) ?_
      rw [HK.out _ _ rfl rfl]
      have := HZ.out
      clear HK HZ HB
      (repeat' split) <;> omega

end Go.Proofs.Ytbfdplmgefcogaa.P
end
-- MERGED YtbfdplmgefcogaaEditJ
section
/- The walk of the iterator of joined runs, and of its flush. -/
namespace Go.Proofs.Ytbfdplmgefcogaa.EditJ
open Go.RowKit Go.Shelf Go.Proofs.Ytbfdplmgefcogaa.P Go.Proofs.YtbfdplmgefcogaaW.PrintWords Go.Proofs.YtbfdplmgefcogaaW.PrintLast Go.Proofs.YtbfdplmgefcogaaW.PrintMore Go.Proofs.Ytbfdplmgefcogaa.Own Go.Proofs.Ytbfdplmgefcogaa.EditL Go.Proofs.Ytbfdplmgefcogaa.EditK Go.Proofs.Ytbfdplmgefcogaa.RangeG
attribute [local go_sem] Oper.semAt_some
attribute [local go_sem high] eqA43
set_option linter.unusedSimpArgs false
set_option linter.unusedVariables false

def rv (r : Rn) : Value := .agg #[.int .i64 r.f0, .string r.f1, .int .i64 r.f2]
def enc (r : Rn) : Array Value := #[.agg #[.int .i64 r.f0, .string r.f1, .int .i64 r.f2]]
def rcs (k : Int) (a : ByteArray) (d : Int) : Obj := .cells #[.int .i64 k, .string a, .int .i64 d] 43 (0, 0)
def ybox (l : Nat) : Obj := .cells #[.func (.yield l) #[] #[]] 66 (0, 0)
def rest (k : Int) (a : ByteArray) (d : Int) : Nat → List Rn
  | 0 => fl k a d
  | 1 => (if a.size ≠ 0 then [⟨0, a, 0⟩] else []) ++ (if 0 < d then [⟨0, E, d⟩] else [])
  | 2 => if 0 < d then [⟨0, E, d⟩] else []
  | _ => []
def Flushed (J : List Rn → Priv → World → Prop) (X : World → Prop) (pre : List Rn) (G : Priv) (e : Ending) (W' : World) : Prop :=
  (e = .returned (.bool true) ∧ J pre G W') ∨ (e = .returned (.bool false) ∧ X W')
theorem rest0_yes {k d : Int} {a : ByteArray} (h : 0 < k) : rest k a d 0 = ⟨k, E, 0⟩ :: rest k a d 1 := by unfold rest fl; rw [if_pos h]; rfl
theorem rest0_no {k d : Int} {a : ByteArray} (h : ¬ 0 < k) : rest k a d 0 = rest k a d 1 := by unfold rest fl; rw [if_neg h]; rfl
theorem rest1_yes {k d : Int} {a : ByteArray} (h : a.size ≠ 0) : rest k a d 1 = ⟨0, a, 0⟩ :: rest k a d 2 := by unfold rest; rw [if_pos h]; rfl
theorem rest1_no {k d : Int} {a : ByteArray} (h : ¬ a.size ≠ 0) : rest k a d 1 = rest k a d 2 := by unfold rest; rw [if_neg h]; rfl
theorem rest2_yes {k d : Int} {a : ByteArray} (h : 0 < d) : rest k a d 2 = ⟨0, E, d⟩ :: rest k a d 3 := by show (if 0 < d then _ else _) = _; rw [if_pos h]; rfl
theorem rest2_no {k d : Int} {a : ByteArray} (h : ¬ 0 < d) : rest k a d 2 = rest k a d 3 := by show (if 0 < d then _ else _) = _; rw [if_neg h]; rfl
theorem index0 (a b c d e f g h i : Value) (W : World) : (Instr.index 76 (.agg #[a, b, c, d, e, f, g, h, i]) (.int .i64 0)).run Try.prog W = .ok (.agg #[a, b, c]) W := rfl
theorem index1 (a b c d e f g h i : Value) (W : World) : (Instr.index 76 (.agg #[a, b, c, d, e, f, g, h, i]) (.int .i64 1)).run Try.prog W = .ok (.agg #[d, e, f]) W := rfl
theorem index2 (a b c d e f g h i : Value) (W : World) : (Instr.index 76 (.agg #[a, b, c, d, e, f, g, h, i]) (.int .i64 2)).run Try.prog W = .ok (.agg #[g, h, i]) W := rfl
theorem blk_cells {W : World} {b : Nat} {k d : Int} {a : ByteArray} (h : W.heap[b]? = some (rcs k a d)) : W.cell? ⟨b, 0, none⟩ = some (.int .i64 k) ∧ W.cell? ⟨b, 1, none⟩ = some (.string a) ∧ W.cell? ⟨b, 2, none⟩ = some (.int .i64 d) := by
  unfold rcs at h
  exact ⟨by rw [cell_of_row W _ 0 _ _ _ h]; rfl, by rw [cell_of_row W _ 1 _ _ _ h]; rfl, by rw [cell_of_row W _ 2 _ _ _ h]; rfl⟩
set_option maxHeartbeats 4000000 in
set_option maxRecDepth 100000 in
theorem flush_c (n l : Nat) (J : List Rn → Priv → World → Prop) (X : World → Prop) (hP : Party J) (L : List Rn)
    (hY : ∀ m pre x suf G W, L = pre ++ x :: suf → J pre G W → YieldAt Fence.wide m Try.prog l (enc x) W fun e W' => (e = .returned (.bool true) ∧ J (pre ++ [x]) G W') ∨ (e = .returned (.bool false) ∧ X W'))
    (pre : List Rn) (k : Int) (a : ByteArray) (d : Int) (suf : List Rn) (G : Priv) (W : World) (B3 B2 : Nat) (hk : 0 ≤ k) (hd : 0 ≤ d) (hL : L = (pre ++ fl k a d) ++ suf) (hJ : J pre G W) (h3 : G B3 = some (rcs k a d)) (h2 : G B2 = some (ybox l)) (hne : B2 ≠ B3) :
    CallsIn Fence.wide n Try.prog 47 #[.pointer (some ⟨B3, 0, none⟩), .pointer (some ⟨B2, 0, none⟩)] W (Flushed J X (pre ++ fl k a d) (G.put B3 (rcs 0 E 0))) := by
  refine callsIn_of_wp Try.func47 rfl trivial ?_ rfl
  have HP := Aside0.mk hP
  have HY := Aside0.mk hY
  have HL := Aside0.mk hL
  have HJ := Aside0.mk hJ
  have H3 := Aside0.mk h3
  have H2 := Aside0.mk h2
  have HNE := Aside0.mk hne
  have hw3 := hP.lies _ _ _ hJ _ _ h3
  obtain ⟨c0, c1, c2⟩ := blk_cells hw3
  have f0 : ∀ o, W.frozen? ⟨B3, o, none⟩ = false := fun o => frozen_of_row W _ o _ _ hw3
  have g0 := f0 0
  have g1 := f0 1
  have g2 := f0 2
  have hB3 := hP.lt hJ h3
  have HB3 := Aside0.mk hB3
  clear hP hY hL hJ h3 h2 hne hw3 f0
  simp only [Try.ntmps47, List.size_toArray, List.length_cons, List.length_nil, Nat.reduceAdd, Nat.reduceSub, Array.replicate_succ, Array.replicate_zero, List.push_toArray, List.append_toArray, List.nil_append, List.cons_append]
  gi_wp2
  obtain ⟨W1, hW1⟩ : ∃ W1, W1 = ((((W.setCell ⟨B3, 0, none⟩ (.int .i64 0)).setCell ⟨B3, 1, none⟩ (.string ⟨#[]⟩)).setCell ⟨B3, 2, none⟩ (.int .i64 0)).alloc (.cells #[.int .i64 k, .string a, .int .i64 d] 43)) := ⟨_, rfl⟩
  have hJ1 : J pre (G.put B3 (rcs 0 E 0)) W1 := by
    have hw3 := HP.out.lies _ _ _ HJ.out _ _ H3.out
    have h1 := blk_put (blk_put (blk_put hw3 0 (.int .i64 0) rfl) 1 (.string ⟨#[]⟩) rfl) 2 (.int .i64 0) rfl
    rw [hW1]
    refine HP.out.below (W := (((W.setCell ⟨B3, 0, none⟩ (.int .i64 0)).setCell ⟨B3, 1, none⟩ (.string ⟨#[]⟩)).setCell ⟨B3, 2, none⟩ (.int .i64 0))) ?_ (below_alloc (Below.refl _ _) _)
    exact HP.out.set HJ.out H3.out (fun q hq => by rw [Below.heap_setCell _ _ _ _ hq, Below.heap_setCell _ _ _ _ hq, Below.heap_setCell _ _ _ _ hq]) (by simp [World.setCell]) rfl rfl rfl h1 rfl
  rw [← hW1]
  have HJ0 := Aside0.mk hJ1
  have HG30 := Aside0.mk (Priv.put_same G B3 (rcs 0 E 0))
  have HG20 := Aside0.mk ((Priv.put_other G (rcs 0 E 0) HNE.out).trans H2.out)
  clear hW1 hJ1 c0 c1 c2 g0 g1 g2 hB3 HJ H3 H2
  have i0 := index0
  have i1 := index1
  have i2 := index2
  obtain ⟨G', hG'⟩ : ∃ G', G' = G.put B3 (rcs 0 E 0) := ⟨_, rfl⟩
  rw [← hG'] at HJ0 HG30 HG20 ⊢
  have HGE := Aside0.mk hG'
  clear hG'
  gi_loopw [18] (fun iv wr => ∃ (j : Nat) (pre' : List Rn), j ≤ 3 ∧ iv = .int .i64 (j : Int) ∧ J pre' G' wr ∧ pre' ++ rest k a d j = pre ++ fl k a d) (fun iv _ => 3 - (intOf iv).toNat)
  case atStart => exact ⟨0, pre, by omega, rfl, HJ0.out, rfl⟩
  case round =>
    clear HJ0
    obtain ⟨j, pre', hj, rfl, hjr, he⟩ := hrel
    have HJr := Aside0.mk hjr
    have HE := Aside0.mk he
    have HG3 := HG30
    have HG2 := HG20
    clear hjr he
    have h5 : j = 0 ∨ j = 1 ∨ j = 2 ∨ j = 3 := by omega
    rcases h5 with rfl | rfl | rfl | rfl
    -- ROUNDS
    · clear hj
      by_cases hy : 0 < k
      · have HR := Aside0.mk (show pre' ++ ⟨k, E, 0⟩ :: rest k a d 1 = pre ++ fl k a d by rw [← HE.out, rest0_yes hy])
        have q0 : (k == 0) = false := by simp; omega
        have hb1 := below_alloc (Below.refl wr.heap.size wr) (.cells #[.int .i64 k, .string ⟨#[]⟩, .int .i64 0] 43)
        have HJ1 := Aside0.mk (HP.out.below HJr.out hb1)
        have hbx := HP.out.lies _ _ _ HJ1.out _ _ HG2.out
        unfold ybox at hbx
        have cy : (wr.alloc (.cells #[.int .i64 k, .string ⟨#[]⟩, .int .i64 0] 43)).cell? ⟨B2, 0, none⟩ = some (.func (.yield l) #[] #[]) := by rw [cell_of_row _ _ 0 _ _ _ hbx]; rfl
        obtain ⟨fn, tmps, assign, body, hyy, hR⟩ := HY.out (n - 1) pre' ⟨k, E, 0⟩ (rest k a d 1 ++ suf) _ _ (by rw [HL.out, ← HR.out]; simp) HJ1.out
        unfold enc at hyy
        simp only [E] at hyy
        have HRR := Aside0.mk hR
        clear hR hbx hb1 hy
        gi_wp2
        refine ⟨fun h => absurd h (by decide), ?_⟩
        refine HRR.out.mono ?_
        rintro e w3 (⟨rfl, hj3⟩ | ⟨rfl, hx3⟩)
        · have HJ3 := Aside0.mk hj3
          clear hj3
          gi_wp2
          go_roundw
          case rel => exact ⟨1, pre' ++ [⟨k, E, 0⟩], by omega, rfl, HJ3.out, by rw [← HR.out]; simp⟩
          case measure => simp [intOf]
        · have HX3 := Aside0.mk hx3
          clear hx3
          gi_wp2
          go_ret
          exact .inr ⟨rfl, HX3.out⟩
      · have HR := Aside0.mk (show pre' ++ rest k a d 1 = pre ++ fl k a d by rw [← HE.out, rest0_no hy])
        obtain rfl : k = 0 := by omega
        have HJ1 := Aside0.mk (HP.out.below HJr.out (below_alloc (Below.refl wr.heap.size wr) (.cells #[.int .i64 0, .string ⟨#[]⟩, .int .i64 0] 43)))
        clear hy
        gi_wp2
        refine ⟨(fun f hf => by cases hf), ?_⟩
        gi_wp2
        go_roundw
        case rel => exact ⟨1, pre', by omega, rfl, HJ1.out, HR.out⟩
        case measure => simp [intOf]
    · clear hj
      by_cases hy : a.size ≠ 0
      · have HR := Aside0.mk (show pre' ++ ⟨0, a, 0⟩ :: rest k a d 2 = pre ++ fl k a d by rw [← HE.out, rest1_yes hy])
        have q0 : (a.toList == ([] : List UInt8)) = false := by rw [tl_beq]; simpa using hy
        have q1 : ¬ a.toList = [] := by rw [tl_nil]; exact hy
        have hb1 := below_alloc (Below.refl wr.heap.size wr) (.cells #[.int .i64 0, .string a, .int .i64 0] 43)
        have HJ1 := Aside0.mk (HP.out.below HJr.out hb1)
        have hbx := HP.out.lies _ _ _ HJ1.out _ _ HG2.out
        unfold ybox at hbx
        have cy : (wr.alloc (.cells #[.int .i64 0, .string a, .int .i64 0] 43)).cell? ⟨B2, 0, none⟩ = some (.func (.yield l) #[] #[]) := by rw [cell_of_row _ _ 0 _ _ _ hbx]; rfl
        obtain ⟨fn, tmps, assign, body, hyy, hR⟩ := HY.out (n - 1) pre' ⟨0, a, 0⟩ (rest k a d 2 ++ suf) _ _ (by rw [HL.out, ← HR.out]; simp) HJ1.out
        unfold enc at hyy
        simp only [E] at hyy
        have HRR := Aside0.mk hR
        clear hR hbx hb1 hy
        gi_wp2
        refine ⟨fun h => absurd h (by decide), ?_⟩
        refine HRR.out.mono ?_
        rintro e w3 (⟨rfl, hj3⟩ | ⟨rfl, hx3⟩)
        · have HJ3 := Aside0.mk hj3
          clear hj3
          gi_wp2
          go_roundw
          case rel => exact ⟨2, pre' ++ [⟨0, a, 0⟩], by omega, rfl, HJ3.out, by rw [← HR.out]; simp⟩
          case measure => simp [intOf]
        · have HX3 := Aside0.mk hx3
          clear hx3
          gi_wp2
          go_ret
          exact .inr ⟨rfl, HX3.out⟩
      · have HR := Aside0.mk (show pre' ++ rest k a d 2 = pre ++ fl k a d by rw [← HE.out, rest1_no hy])
        obtain rfl : a = ⟨#[]⟩ := eq_E (by omega)
        have HJ1 := Aside0.mk (HP.out.below HJr.out (below_alloc (Below.refl wr.heap.size wr) (.cells #[.int .i64 0, .string ⟨#[]⟩, .int .i64 0] 43)))
        clear hy
        gi_wp2
        refine ⟨(fun f hf => by cases hf), ?_⟩
        gi_wp2
        go_roundw
        case rel => exact ⟨2, pre', by omega, rfl, HJ1.out, HR.out⟩
        case measure => simp [intOf]
    · clear hj
      by_cases hy : 0 < d
      · have HR := Aside0.mk (show pre' ++ ⟨0, E, d⟩ :: rest k a d 3 = pre ++ fl k a d by rw [← HE.out, rest2_yes hy])
        have q0 : (d == 0) = false := by simp; omega
        have hb1 := below_alloc (Below.refl wr.heap.size wr) (.cells #[.int .i64 0, .string ⟨#[]⟩, .int .i64 d] 43)
        have HJ1 := Aside0.mk (HP.out.below HJr.out hb1)
        have hbx := HP.out.lies _ _ _ HJ1.out _ _ HG2.out
        unfold ybox at hbx
        have cy : (wr.alloc (.cells #[.int .i64 0, .string ⟨#[]⟩, .int .i64 d] 43)).cell? ⟨B2, 0, none⟩ = some (.func (.yield l) #[] #[]) := by rw [cell_of_row _ _ 0 _ _ _ hbx]; rfl
        obtain ⟨fn, tmps, assign, body, hyy, hR⟩ := HY.out (n - 1) pre' ⟨0, E, d⟩ (rest k a d 3 ++ suf) _ _ (by rw [HL.out, ← HR.out]; simp) HJ1.out
        unfold enc at hyy
        simp only [E] at hyy
        have HRR := Aside0.mk hR
        clear hR hbx hb1 hy
        gi_wp2
        refine ⟨fun h => absurd h (by decide), ?_⟩
        refine HRR.out.mono ?_
        rintro e w3 (⟨rfl, hj3⟩ | ⟨rfl, hx3⟩)
        · have HJ3 := Aside0.mk hj3
          clear hj3
          gi_wp2
          go_roundw
          case rel => exact ⟨3, pre' ++ [⟨0, E, d⟩], by omega, rfl, HJ3.out, by rw [← HR.out]; simp⟩
          case measure => simp [intOf]
        · have HX3 := Aside0.mk hx3
          clear hx3
          gi_wp2
          go_ret
          exact .inr ⟨rfl, HX3.out⟩
      · have HR := Aside0.mk (show pre' ++ rest k a d 3 = pre ++ fl k a d by rw [← HE.out, rest2_no hy])
        obtain rfl : d = 0 := by omega
        have HJ1 := Aside0.mk (HP.out.below HJr.out (below_alloc (Below.refl wr.heap.size wr) (.cells #[.int .i64 0, .string ⟨#[]⟩, .int .i64 0] 43)))
        clear hy
        gi_wp2
        refine ⟨(fun f hf => by cases hf), ?_⟩
        gi_wp2
        go_roundw
        case rel => exact ⟨3, pre', by omega, rfl, HJ1.out, HR.out⟩
        case measure => simp [intOf]
    -- END ROUNDS
    · gi_wp2
      go_ret
      have := HE.out
      rw [show rest k a d 3 = [] from rfl, List.append_nil] at this
      exact .inl ⟨rfl, by rw [← this, ← HGE.out]; exact HJr.out⟩
end Go.Proofs.Ytbfdplmgefcogaa.EditJ
end
-- MERGED YtbfdplmgefcogaaEditI
section
/- The walk of the iterator of joined runs. -/
namespace Go.Proofs.Ytbfdplmgefcogaa.EditI
open Go.RowKit Go.Shelf Go.Proofs.Ytbfdplmgefcogaa.P Go.Proofs.YtbfdplmgefcogaaW.PrintWords Go.Proofs.YtbfdplmgefcogaaW.PrintLast Go.Proofs.YtbfdplmgefcogaaW.PrintMore Go.Proofs.Ytbfdplmgefcogaa.Own Go.Proofs.Ytbfdplmgefcogaa.EditL Go.Proofs.Ytbfdplmgefcogaa.EditK Go.Proofs.Ytbfdplmgefcogaa.RangeG Go.Proofs.Ytbfdplmgefcogaa.EditJ
attribute [local go_sem] Oper.semAt_some
attribute [local go_sem high] eqA43
set_option linter.unusedSimpArgs false
set_option linter.unusedVariables false

theorem kind_c (r : Rn) (w : World) : Calls Try.prog 42 #[.agg #[.int .i64 r.f0, .string r.f1, .int .i64 r.f2]] w fun e w' => e = .returned (.int .i64 (knd r)) ∧ Below w.heap.size w w' := edit_kind.calls _ _ _ _ w rfl
/-- What the iterator reads: its runs, in a box. -/
def Held (A : Option Addr) (c T : Nat) (f : List Rn) (W : World) : Prop := W.heap[T]? = some (.cells #[.slice A f.length c] 22 (0, 0)) ∧ Kd.C k43 W A f.length f
theorem jn_flush {r : Rn} {l : List Rn} {k d : Int} {a : ByteArray} (h1 : knd r = 1) (h2 : a.size ≠ 0 ∨ 0 < d) : jn (r :: l) k a d = fl k a d ++ jn l r.f0 r.f1 r.f2 := by
  show (if _ then _ else _) = _; rw [if_pos ⟨h1, h2⟩]
theorem jn_on {r : Rn} {l : List Rn} {k d : Int} {a : ByteArray} (h : ¬ (knd r = 1 ∧ (a.size ≠ 0 ∨ 0 < d))) : jn (r :: l) k a d = jn l (k + r.f0) (a ++ r.f1) (d + r.f2) := by
  show (if _ then _ else _) = _; rw [if_neg h]
theorem E_add (s : ByteArray) : E ++ s = s := by
  apply ByteArray.ext
  simp [E]
theorem size_add (a b : ByteArray) : (a ++ b).size = a.size + b.size := ByteArray.size_append ..
structure Sums (k d : Int) (a : ByteArray) (l : List Rn) : Prop where
  k0 : 0 ≤ k
  d0 : 0 ≤ d
  i : k + d + inL l ≤ 16777216
  o : k + (a.size : Int) + outL l ≤ 16777216
set_option maxHeartbeats 8000000 in
set_option maxRecDepth 100000 in
theorem joined_it (A : Option Addr) (c T : Nat) (f : List Rn) (hc : f.length ≤ c) (hf : ∀ r ∈ f, knd r ≠ 0) (hs : Sums 0 0 E f) (hl : f.length ≤ 140737488351232) : Gives Try.prog 46 #[.pointer (some ⟨T, 0, none⟩)] enc (jn f 0 E 0) (Held A c T f) := by
  intro n l J X W1 hP hK hY hJ
  obtain ⟨L, hL⟩ : ∃ L, L = jn f 0 E 0 := ⟨_, rfl⟩
  rw [← hL] at hY ⊢
  refine callsIn_of_wp Try.func46 rfl trivial ?_ rfl
  have HP := Aside0.mk hP
  have HK := Aside0.mk hK
  have HY := Aside0.mk hY
  have HL := Aside0.mk hL
  have HJ := Aside0.mk hJ
  have HF := Aside0.mk hf
  have HS := Aside0.mk hs
  have HC := Aside0.mk hc
  have hh := hK _ _ _ hJ
  have cT : W1.cell? ⟨T, 0, none⟩ = some (.slice A f.length c) := by rw [cell_of_row _ _ 0 _ _ _ hh.1]; rfl
  have hT := (Array.getElem?_eq_some_iff.1 hh.1).1
  clear hP hK hY hL hJ hf hs hc hh
  simp only [Try.ntmps46, List.size_toArray, List.length_cons, List.length_nil, Nat.reduceAdd, Nat.reduceSub, Array.replicate_succ, Array.replicate_zero, List.push_toArray, List.append_toArray, List.nil_append, List.cons_append]
  gi_wp2
  obtain ⟨W2, hW2⟩ : ∃ W2, W2 = (W1.alloc (.cells #[.func (.yield l) #[] #[]] 66)).alloc (.cells #[.int .i64 0, .string ⟨#[]⟩, .int .i64 0] 43) := ⟨_, rfl⟩
  have hJ2 : J [] ((Priv.none.put W1.heap.size (ybox l)).put (W1.heap.size + 1) (rcs 0 E 0)) W2 := by
    rw [hW2]
    refine HP.out.lay (HP.out.lay HJ.out (below_alloc (Below.refl _ _) _) (Nat.le_refl _) (Own.heap_new _ _) rfl) (below_alloc (Below.refl _ _) _) (by simp) ?_ rfl
    have := Own.heap_new (W1.alloc (.cells #[.func (.yield l) #[] #[]] 66)) (.cells #[.int .i64 0, .string ⟨#[]⟩, .int .i64 0] 43)
    rwa [World.size_alloc] at this
  rw [← hW2]
  clear hW2
  obtain ⟨B3, hB3⟩ : ∃ b, b = W1.heap.size + 1 := ⟨_, rfl⟩
  rw [← hB3] at hJ2 ⊢
  obtain ⟨B2, hB2⟩ : ∃ b, b = W1.heap.size := ⟨_, rfl⟩
  rw [← hB2] at hJ2 ⊢
  have HN32 := Aside0.mk (show B2 ≠ B3 by omega)
  have HJ2 := Aside0.mk hJ2
  clear hJ2 hB2 hB3 cT hT HJ
  gi_loopw [11] (fun iv wr => ∃ (i : Nat) (pre : List Rn) (k : Int) (a : ByteArray) (d : Int) (G : Priv), i ≤ f.length ∧ iv = .int .i64 (i : Int) ∧ J pre G wr ∧ pre ++ jn (f.drop i) k a d = L ∧ G B3 = some (rcs k a d) ∧ G B2 = some (ybox l) ∧ Sums k d a (f.drop i)) (fun iv _ => f.length - (intOf iv).toNat)
  case atStart => exact ⟨0, [], 0, E, 0, _, Nat.zero_le _, rfl, HJ2.out, HL.out.symm, Priv.put_same _ _ _, (Priv.put_other _ _ HN32.out).trans (Priv.put_same _ _ _), HS.out⟩
  case round =>
    clear HJ2
    obtain ⟨i, pre, k, a, d, G, hi, rfl, hj, he, hg3, hg2, hsm⟩ := hrel
    have HJr := Aside0.mk hj
    have HE := Aside0.mk he
    have HG3 := Aside0.mk hg3
    have HG2 := Aside0.mk hg2
    have HSM := Aside0.mk hsm
    clear hj he hg3 hg2 hsm
    by_cases hlt : i < f.length
    · obtain ⟨ad, rfl, x0, x1, x2⟩ := at_nat (HK.out _ _ _ HJr.out).2 i hlt
      have hd' := EditK.drop_get hlt
      have hmem : f.getD i z43 ∈ f := by rw [List.getD_eq_getElem?_getD, List.getElem?_eq_getElem hlt]; exact List.getElem_mem hlt
      obtain ⟨r, hr⟩ : ∃ r, r = f.getD i z43 := ⟨_, rfl⟩
      rw [← hr] at x0 x1 x2 hd' hmem
      have HD := Aside0.mk hd'
      have hkc : (0 < r.f0 ∧ r.f1.size = 0 ∧ r.f2 = 0 ∧ knd r = 1) ∨ (r.f0 = 0 ∧ 0 < r.f1.size ∧ r.f2 = 0 ∧ knd r = 2) ∨ (r.f0 = 0 ∧ r.f1.size = 0 ∧ 0 < r.f2 ∧ knd r = 3) := by
        rcases knd_cases r with h | h | h | h
        · exact .inl h
        · exact .inr (.inl h)
        · exact .inr (.inr h)
        · exact absurd h.1 (HF.out r hmem)
      have hsum : 0 ≤ k ∧ 0 ≤ d ∧ 0 ≤ r.f0 ∧ 0 ≤ r.f2 ∧ k + d + (r.f0 + r.f2) + inL (f.drop (i + 1)) ≤ 16777216 ∧ k + (a.size : Int) + (r.f0 + (r.f1.size : Int)) + outL (f.drop (i + 1)) ≤ 16777216 ∧ 0 ≤ inL (f.drop (i + 1)) ∧ 0 ≤ outL (f.drop (i + 1)) := by
        have h1 := HSM.out
        rw [HD.out] at h1
        have h2 := h1.i
        have h3 := h1.o
        simp only [inL, outL] at h2 h3
        have h4 := inL_nonneg (l := f.drop (i + 1)) (fun x hx => HF.out x (List.mem_of_mem_drop hx))
        have h5 := knd_pos (HF.out r hmem)
        exact ⟨h1.k0, h1.d0, h5.1, h5.2, by omega, by omega, h4.1, h4.2⟩
      obtain ⟨hk0, hd0, hf00, hf20, hI, hO, hi0, ho0⟩ := hsum
      have SMO := Aside0.mk (show Sums (k + r.f0) (d + r.f2) (a ++ r.f1) (f.drop (i + 1)) from ⟨by omega, by omega, by omega, by rw [size_add]; omega⟩)
      have SMF := Aside0.mk (show Sums r.f0 r.f2 r.f1 (f.drop (i + 1)) from ⟨by omega, by omega, by omega, by omega⟩)
      have hkM : k ≤ 16777216 := by omega
      have hdM : d ≤ 16777216 := by omega
      have hf0M : r.f0 ≤ 16777216 := by omega
      have hf2M : r.f2 ≤ 16777216 := by omega
      have haM : (a.size : Int) ≤ 16777216 := by omega
      have hf1M : (r.f1.size : Int) ≤ 16777216 := by omega
      have hlt' : (i : Int) < (f.length : Int) := by omega
      clear hr hd' hmem hI hO hi0 ho0
      gi_wp2
      refine ⟨trivial, fun h => absurd h (by decide), ?_⟩
      refine (callsIn_wide.2 (kind_c r _)).mono ?_
      rintro e w1 ⟨rfl, hb⟩
      have hj6 := HP.out.below (HP.out.lay HJr.out (below_alloc (Below.refl _ _) (.cells #[.int .i64 r.f0, .string r.f1, .int .i64 r.f2] 43)) (Nat.le_refl _) (Own.heap_new _ _) rfl) hb
      have hb3 := HP.out.lt HJr.out HG3.out
      have hb2 := HP.out.lt HJr.out HG2.out
      obtain ⟨B6, hB6⟩ : ∃ b, b = wr.heap.size := ⟨_, rfl⟩
      rw [← hB6] at hj6 hb3 hb2 ⊢
      obtain ⟨G6, hG6⟩ : ∃ g, g = G.put B6 (.cells #[.int .i64 r.f0, .string r.f1, .int .i64 r.f2] 43) := ⟨_, rfl⟩
      rw [← hG6] at hj6
      have HGB6 := Aside0.mk (show G6 B6 = some (rcs r.f0 r.f1 r.f2) by rw [hG6]; exact Priv.put_same _ _ _)
      have HGB3 := Aside0.mk (show G6 B3 = some (rcs k a d) by rw [hG6, Priv.put_other _ _ (by omega)]; exact HG3.out)
      have HGB2 := Aside0.mk (show G6 B2 = some (ybox l) by rw [hG6, Priv.put_other _ _ (by omega)]; exact HG2.out)
      have n63 : B6 ≠ B3 := by omega
      have n36 : B3 ≠ B6 := by omega
      have HJ1 := Aside0.mk hj6
      clear hb hb3 hb2 hG6 hj6 hB6 x0 x1 x2 HJr HG3 HG2 HSM
      obtain ⟨y0, y1, y2⟩ := blk_cells (HP.out.lies _ _ _ HJ1.out _ _ HGB3.out)
      obtain ⟨x0, x1, x2⟩ := blk_cells (HP.out.lies _ _ _ HJ1.out _ _ HGB6.out)
      -- WAYS
      rcases hkc with ⟨hr0, hr1, hr2, hkr⟩ | ⟨hr0, hr1, hr2, hkr⟩ | ⟨hr0, hr1, hr2, hkr⟩
      · have HKR := Aside0.mk hkr
        rw [hkr]
        clear hkr
        by_cases ha : a.size = 0
        · obtain rfl : a = ⟨#[]⟩ := eq_E ha
          by_cases hd : 0 < d
          · have HFL := Aside0.mk (flush_c (n - 1) l J X HP.out L HY.out pre k ⟨#[]⟩ d (jn (f.drop (i + 1)) r.f0 r.f1 r.f2) G6 w1 B3 B2 hk0 hd0 (by rw [← HE.out, HD.out, jn_flush HKR.out (.inr hd), List.append_assoc]) HJ1.out HGB3.out HGB2.out HN32.out)
            gi_wp2
            refine ⟨trivial, fun h => absurd h (by decide), ?_⟩
            refine HFL.out.mono ?_
            rintro e w2 (⟨rfl, hj2⟩ | ⟨rfl, hx2⟩)
            · have HJ2 := Aside0.mk hj2
              obtain ⟨G7, hG7⟩ : ∃ G7, G7 = G6.put B3 (rcs 0 E 0) := ⟨_, rfl⟩
              rw [← hG7] at HJ2
              have HG73 := Aside0.mk (show G7 B3 = some (rcs 0 E 0) by rw [hG7]; exact Priv.put_same _ _ _)
              have HG72 := Aside0.mk (show G7 B2 = some (ybox l) by rw [hG7, Priv.put_other _ _ HN32.out]; exact HGB2.out)
              have HG76 := Aside0.mk (show G7 B6 = some (rcs r.f0 r.f1 r.f2) by rw [hG7, Priv.put_other _ _ n63]; exact HGB6.out)
              clear hj2 hG7
              obtain ⟨y0, y1, y2⟩ := blk_cells (HP.out.lies _ _ _ HJ2.out _ _ HG73.out)
              obtain ⟨x0, x1, x2⟩ := blk_cells (HP.out.lies _ _ _ HJ2.out _ _ HG76.out)
              have ff : ∀ o, w2.frozen? ⟨B3, o, none⟩ = false := fun o => frozen_of_row w2 _ o _ _ (HP.out.lies _ _ _ HJ2.out _ _ HG73.out)
              have f0 := ff 0
              have f1 := ff 1
              have f2 := ff 2
              clear ff
              gi_wp2
              go_roundw
              case rel =>
                have h3 := HP.out.lies _ _ _ HJ2.out _ _ HG73.out
                refine ⟨i + 1, pre ++ fl k ⟨#[]⟩ d, _, _, _, _, by omega, by go_num, HP.out.set HJ2.out HG73.out (fun q hq => by rw [Below.heap_setCell _ _ _ _ hq, Below.heap_setCell _ _ _ _ hq, Below.heap_setCell _ _ _ _ hq]) (by simp [World.setCell]) rfl rfl rfl (blk_put (blk_put (blk_put h3 0 _ rfl) 1 _ rfl) 2 _ rfl) rfl, ?_, Priv.put_same _ _ _, (Priv.put_other _ _ HN32.out).trans HG72.out, ?_⟩
                · rw [← HE.out, HD.out, jn_flush HKR.out (.inr hd), List.append_assoc]; simp only [hr0, hr2, Int.add_zero, Int.zero_add, E_add]
                · have h := SMF.out; simp only [hr0, hr2, Int.add_zero, Int.zero_add, E_add] at h ⊢; exact h
              case measure => simp [intOf]; omega
            · have HX2 := Aside0.mk hx2
              clear hx2
              gi_wp2
              refine bodyPost_ret (results_none rfl _ _ _) rfl ?_
              exact ⟨⟨_, rfl⟩, .inr HX2.out⟩
          · obtain rfl : d = 0 := by omega
            obtain ⟨y0, y1, y2⟩ := blk_cells (HP.out.lies _ _ _ HJ1.out _ _ HGB3.out)
            obtain ⟨x0, x1, x2⟩ := blk_cells (HP.out.lies _ _ _ HJ1.out _ _ HGB6.out)
            have ff : ∀ o, w1.frozen? ⟨B3, o, none⟩ = false := fun o => frozen_of_row w1 _ o _ _ (HP.out.lies _ _ _ HJ1.out _ _ HGB3.out)
            have f0 := ff 0
            have f1 := ff 1
            have f2 := ff 2
            clear ff
            gi_wp2
            refine ⟨(fun f hf => by cases hf), ?_⟩
            gi_wp2
            go_roundw
            case rel =>
              have h3 := HP.out.lies _ _ _ HJ1.out _ _ HGB3.out
              refine ⟨i + 1, pre, _, _, _, _, by omega, by go_num, HP.out.set HJ1.out HGB3.out (fun q hq => by rw [Below.heap_setCell _ _ _ _ hq, Below.heap_setCell _ _ _ _ hq, Below.heap_setCell _ _ _ _ hq]) (by simp [World.setCell]) rfl rfl rfl (blk_put (blk_put (blk_put h3 0 _ rfl) 1 _ rfl) 2 _ rfl) rfl, ?_, Priv.put_same _ _ _, (Priv.put_other _ _ HN32.out).trans HGB2.out, ?_⟩
              · rw [← HE.out, HD.out, jn_on (fun h => h.2.elim (fun h => h rfl) (fun h => absurd h (by decide)))]; simp only [hr0, hr2, Int.add_zero, Int.zero_add, E_add]
              · have h := SMO.out; simp only [hr0, hr2, Int.add_zero, Int.zero_add, E_add] at h ⊢; exact h
            case measure => simp [intOf]; omega
        · have q1 : (a.toList == ([] : List UInt8)) = false := by rw [tl_beq]; simpa using ha
          have q2 : ¬ a.toList = [] := by rw [tl_nil]; exact ha
          have HA := Aside0.mk ha
          clear ha
          have HFL := Aside0.mk (flush_c (n - 1) l J X HP.out L HY.out pre k a d (jn (f.drop (i + 1)) r.f0 r.f1 r.f2) G6 w1 B3 B2 hk0 hd0 (by rw [← HE.out, HD.out, jn_flush HKR.out (.inl HA.out), List.append_assoc]) HJ1.out HGB3.out HGB2.out HN32.out)
          gi_wp2
          refine ⟨trivial, fun h => absurd h (by decide), ?_⟩
          refine HFL.out.mono ?_
          rintro e w2 (⟨rfl, hj2⟩ | ⟨rfl, hx2⟩)
          · have HJ2 := Aside0.mk hj2
            obtain ⟨G7, hG7⟩ : ∃ G7, G7 = G6.put B3 (rcs 0 E 0) := ⟨_, rfl⟩
            rw [← hG7] at HJ2
            have HG73 := Aside0.mk (show G7 B3 = some (rcs 0 E 0) by rw [hG7]; exact Priv.put_same _ _ _)
            have HG72 := Aside0.mk (show G7 B2 = some (ybox l) by rw [hG7, Priv.put_other _ _ HN32.out]; exact HGB2.out)
            have HG76 := Aside0.mk (show G7 B6 = some (rcs r.f0 r.f1 r.f2) by rw [hG7, Priv.put_other _ _ n63]; exact HGB6.out)
            clear hj2 hG7
            obtain ⟨y0, y1, y2⟩ := blk_cells (HP.out.lies _ _ _ HJ2.out _ _ HG73.out)
            obtain ⟨x0, x1, x2⟩ := blk_cells (HP.out.lies _ _ _ HJ2.out _ _ HG76.out)
            have ff : ∀ o, w2.frozen? ⟨B3, o, none⟩ = false := fun o => frozen_of_row w2 _ o _ _ (HP.out.lies _ _ _ HJ2.out _ _ HG73.out)
            have f0 := ff 0
            have f1 := ff 1
            have f2 := ff 2
            clear ff
            gi_wp2
            go_roundw
            case rel =>
              have h3 := HP.out.lies _ _ _ HJ2.out _ _ HG73.out
              refine ⟨i + 1, pre ++ fl k a d, _, _, _, _, by omega, by go_num, HP.out.set HJ2.out HG73.out (fun q hq => by rw [Below.heap_setCell _ _ _ _ hq, Below.heap_setCell _ _ _ _ hq, Below.heap_setCell _ _ _ _ hq]) (by simp [World.setCell]) rfl rfl rfl (blk_put (blk_put (blk_put h3 0 _ rfl) 1 _ rfl) 2 _ rfl) rfl, ?_, Priv.put_same _ _ _, (Priv.put_other _ _ HN32.out).trans HG72.out, ?_⟩
              · rw [← HE.out, HD.out, jn_flush HKR.out (.inl HA.out), List.append_assoc]; simp only [hr0, hr2, Int.add_zero, Int.zero_add, E_add]
              · have h := SMF.out; simp only [hr0, hr2, Int.add_zero, Int.zero_add, E_add] at h ⊢; exact h
            case measure => simp [intOf]; omega
          · have HX2 := Aside0.mk hx2
            clear hx2
            gi_wp2
            refine bodyPost_ret (results_none rfl _ _ _) rfl ?_
            exact ⟨⟨_, rfl⟩, .inr HX2.out⟩
      · have HKR := Aside0.mk hkr
        rw [hkr]
        clear hkr
        obtain ⟨y0, y1, y2⟩ := blk_cells (HP.out.lies _ _ _ HJ1.out _ _ HGB3.out)
        obtain ⟨x0, x1, x2⟩ := blk_cells (HP.out.lies _ _ _ HJ1.out _ _ HGB6.out)
        have ff : ∀ o, w1.frozen? ⟨B3, o, none⟩ = false := fun o => frozen_of_row w1 _ o _ _ (HP.out.lies _ _ _ HJ1.out _ _ HGB3.out)
        have f0 := ff 0
        have f1 := ff 1
        have f2 := ff 2
        clear ff
        gi_wp2
        refine ⟨(fun f hf => by cases hf), ?_⟩
        gi_wp2
        go_roundw
        case rel =>
          have h3 := HP.out.lies _ _ _ HJ1.out _ _ HGB3.out
          refine ⟨i + 1, pre, _, _, _, _, by omega, by go_num, HP.out.set HJ1.out HGB3.out (fun q hq => by rw [Below.heap_setCell _ _ _ _ hq, Below.heap_setCell _ _ _ _ hq, Below.heap_setCell _ _ _ _ hq]) (by simp [World.setCell]) rfl rfl rfl (blk_put (blk_put (blk_put h3 0 _ rfl) 1 _ rfl) 2 _ rfl) rfl, ?_, Priv.put_same _ _ _, (Priv.put_other _ _ HN32.out).trans HGB2.out, ?_⟩
          · rw [← HE.out, HD.out, jn_on (fun h => absurd (HKR.out.symm.trans h.1) (by decide))]; simp only [hr0, hr2, Int.add_zero, Int.zero_add, E_add]
          · have h := SMO.out; simp only [hr0, hr2, Int.add_zero, Int.zero_add, E_add] at h ⊢; exact h
        case measure => simp [intOf]; omega
      · have HKR := Aside0.mk hkr
        rw [hkr]
        clear hkr
        obtain ⟨y0, y1, y2⟩ := blk_cells (HP.out.lies _ _ _ HJ1.out _ _ HGB3.out)
        obtain ⟨x0, x1, x2⟩ := blk_cells (HP.out.lies _ _ _ HJ1.out _ _ HGB6.out)
        have ff : ∀ o, w1.frozen? ⟨B3, o, none⟩ = false := fun o => frozen_of_row w1 _ o _ _ (HP.out.lies _ _ _ HJ1.out _ _ HGB3.out)
        have f0 := ff 0
        have f1 := ff 1
        have f2 := ff 2
        clear ff
        gi_wp2
        refine ⟨(fun f hf => by cases hf), ?_⟩
        gi_wp2
        go_roundw
        case rel =>
          have h3 := HP.out.lies _ _ _ HJ1.out _ _ HGB3.out
          refine ⟨i + 1, pre, _, _, _, _, by omega, by go_num, HP.out.set HJ1.out HGB3.out (fun q hq => by rw [Below.heap_setCell _ _ _ _ hq, Below.heap_setCell _ _ _ _ hq, Below.heap_setCell _ _ _ _ hq]) (by simp [World.setCell]) rfl rfl rfl (blk_put (blk_put (blk_put h3 0 _ rfl) 1 _ rfl) 2 _ rfl) rfl, ?_, Priv.put_same _ _ _, (Priv.put_other _ _ HN32.out).trans HGB2.out, ?_⟩
          · rw [← HE.out, HD.out, jn_on (fun h => absurd (HKR.out.symm.trans h.1) (by decide))]; simp only [hr0, hr2, Int.add_zero, Int.zero_add, E_add]
          · have h := SMO.out; simp only [hr0, hr2, Int.add_zero, Int.zero_add, E_add] at h ⊢; exact h
        case measure => simp [intOf]; omega
      -- END WAYS
    · have hil : i = f.length := by omega
      have hge : ¬ ((i : Int) < (f.length : Int)) := by omega
      have hz : f.drop i = [] := by rw [hil]; exact List.drop_length
      have HE2 := Aside0.mk (show pre ++ fl k a d = L by have := HE.out; rw [hz] at this; exact this)
      have hk0 := HSM.out.k0
      have hd0 := HSM.out.d0
      have HFL := Aside0.mk (flush_c (n - 1) l J X HP.out L HY.out pre k a d [] G wr B3 B2 hk0 hd0 (by rw [HE2.out, List.append_nil]) HJr.out HG3.out HG2.out HN32.out)
      clear hz hil hlt
      gi_wp2
      refine ⟨trivial, fun h => absurd h (by decide), ?_⟩
      refine HFL.out.mono ?_
      rintro e w2 (⟨rfl, hj2⟩ | ⟨rfl, hx2⟩)
      · have HJ2 := Aside0.mk hj2
        clear hj2
        gi_wp2
        refine bodyPost_end (results_none rfl _ _ _) rfl ?_
        exact ⟨⟨_, rfl⟩, .inl ⟨_, by rw [← HE2.out]; exact HJ2.out⟩⟩
      · have HX2 := Aside0.mk hx2
        clear hx2
        gi_wp2
        refine bodyPost_end (results_none rfl _ _ _) rfl ?_
        exact ⟨⟨_, rfl⟩, .inr HX2.out⟩
end Go.Proofs.Ytbfdplmgefcogaa.EditI
end
-- MERGED YtbfdplmgefcogaaVaryR0
section
/- All but one block is as it was: small words (for seats that read no numbers). -/
namespace Go.Proofs.Ytbfdplmgefcogaa.VaryR
open Go.RowKit
abbrev But (g : Nat) (w w' : World) : Prop := w.grownBy w' (some g)
theorem But.refl (g : Nat) (w : World) : But g w w := ⟨rfl, rfl, rfl, Nat.le_refl _, fun _ _ _ => rfl⟩
theorem But.trans {g : Nat} {w w1 w2 : World} (h : But g w w1) (h2 : But g w1 w2) : But g w w2 :=
  ⟨h2.os.trans h.os, h2.tape.trans h.tape, h2.output.trans h.output, Nat.le_trans h.size h2.size, fun k hk hn => (h2.block k (Nat.lt_of_lt_of_le hk h.size) hn).trans (h.block k hk hn)⟩
end Go.Proofs.Ytbfdplmgefcogaa.VaryR
end
-- MERGED YtbfdplmgefcogaaEditR
section
/- Rows of runs that grow; the state of a loop that collects what an iterator gives. -/
namespace Go.Proofs.Ytbfdplmgefcogaa.EditR
open Go.RowKit Go.Shelf Go.Proofs.Ytbfdplmgefcogaa.P Go.Proofs.YtbfdplmgefcogaaW.PrintWords Go.Proofs.YtbfdplmgefcogaaW.PrintLast Go.Proofs.YtbfdplmgefcogaaW.PrintMore Go.Proofs.Ytbfdplmgefcogaa.Own Go.Proofs.Ytbfdplmgefcogaa.EditL Go.Proofs.Ytbfdplmgefcogaa.EditK Go.Proofs.Ytbfdplmgefcogaa.RangeG Go.Proofs.Ytbfdplmgefcogaa.EditJ Go.Proofs.Ytbfdplmgefcogaa.EditI Go.Proofs.Ytbfdplmgefcogaa.VaryR
set_option linter.unusedSimpArgs false
set_option linter.unusedVariables false

def rcells (l : List Rn) : List Value := l.flatMap fun r => [.int .i64 r.f0, .string r.f1, .int .i64 r.f2]
theorem rcells_length (l : List Rn) : (rcells l).length = l.length * 3 := by
  unfold rcells
  induction l with
  | nil => rfl
  | cons p l ih => rw [List.flatMap_cons, List.length_append, ih, List.length_cons]; simp; omega
theorem rcells_snoc (l : List Rn) (r : Rn) : rcells (l ++ [r]) = rcells l ++ [.int .i64 r.f0, .string r.f1, .int .i64 r.f2] := by simp [rcells]
theorem rcells_at (l : List Rn) : ∀ (j : Nat) (r : Rn), l[j]? = some r → ((rcells l).drop (j * 3)).take 3 = [.int .i64 r.f0, .string r.f1, .int .i64 r.f2] := by
  induction l with
  | nil => intro j r h; simp at h
  | cons p l ih =>
    intro j r h
    have e : rcells (p :: l) = [.int .i64 p.f0, .string p.f1, .int .i64 p.f2] ++ rcells l := rfl
    cases j with
    | zero =>
      obtain rfl : p = r := by simpa using h
      rw [e]; simp
    | succ j =>
      have h2 : l[j]? = some r := by simpa using h
      rw [e, show (j + 1) * 3 = 3 + j * 3 by omega, ← List.drop_drop]
      exact ih j r h2
/-- A row of runs of the call's own. -/
abbrev RO (w : World) (B : Nat) (v : Value) (l : List Rn) : Prop := w.ownsRow B 43 3 v l.length (rcells l)
theorem RO.R {w : World} {B : Nat} {v : Value} {l : List Rn} (h : RO w B v l) : Kd.R k43 43 w B (fun _ => True) v l :=
  ⟨fun _ _ => trivial, rcells l, h, by rw [rcells_length]; rfl, fun j p hj => by
    have e := rcells_at l j p hj
    show k43.M _ _ _ p (((rcells l).drop (j * 3)).take 3)
    rw [e]; exact k43_mkM _ _ _ p⟩
theorem RO.below {w w' : World} {B : Nat} {v : Value} {l : List Rn} (h : RO w B v l) (hb : Below w.heap.size w w') : RO w' B v l := own_move h fun k hk => hb.block k (own_lt h k hk)
/-- A row of runs that is read. -/
def RC (w : World) (A : Option Addr) (l : List Rn) : Prop := Kd.C k43 w A l.length l
theorem RC.below {w w' : World} {A : Option Addr} {l : List Rn} (h : RC w A l) (hb : Below w.heap.size w w') : RC w' A l := Kd.C_below h hb
theorem _root_.Go.Boxed.below {W W' : World} {B : Nat} {t : TypeId} {v : Value} (h : Boxed W B t v) (hb : Below W.heap.size W W') : Boxed W' B t v := (hb.block B h.lt).trans h
theorem C_same {w w' : World} {A : Option Addr} {n : Nat} {xs : List Rn} (h : Kd.C k43 w A n xs) (hs : ∀ ad, A = some ad → 0 < n → w'.heap[ad.block]? = w.heap[ad.block]?) : Kd.C k43 w' A n xs := by
  refine ⟨h.1, h.2.1, fun hp => ?_⟩
  obtain ⟨ad, e, hr⟩ := h.2.2 hp
  refine ⟨ad, e, fun j p hj => ?_⟩
  obtain ⟨c, h1, h2, h3⟩ := hr j p hj
  refine ⟨c, h1, ?_, fun i u hu => ?_⟩
  · obtain rfl := k43_open h2
    exact k43_mk _ p
  · refine (World.cell?_of_block ?_).trans (h3 i u hu)
    have hb : ∀ m, (ad.add m).block = ad.block := fun m => by unfold Addr.add; split <;> rfl
    rw [hb]
    exact hs ad e hp
theorem RC.lt {w : World} {A : Option Addr} {l : List Rn} (h : RC w A l) : ∀ ad, A = some ad → 0 < l.length → ad.block < w.heap.size := by
  intro ad e hp
  obtain ⟨ad2, e2, h0, _⟩ := at_nat h 0 hp
  rw [e] at e2
  obtain rfl := Option.some.inj e2
  have := World.block_lt_of_cell? w _ h0
  rwa [show (ad.add (0 * 3)).block = ad.block by unfold Addr.add; split <;> rfl] at this
theorem infoRn : (Try.prog.info? 43).map (fun i => (i.zero, i.size, i.bytes)) = some (some (.agg #[.int .i64 0, .string ⟨#[]⟩, .int .i64 0]), 3, 32) := by kernel_rfl
theorem cells3_new (W : World) (a b c : Value) (T : TypeId) : ∀ (j : Nat) (u : Value), [a, b, c][j]? = some u → (W.alloc (.cells #[a, b, c] T)).cell? ((⟨W.heap.size, 0, none⟩ : Addr).add j) = some u := by
  intro j u h
  have e : ((⟨W.heap.size, 0, none⟩ : Addr).add j) = ⟨W.heap.size, j, none⟩ := by simp [Addr.add]; exact fun h => h.symm
  rw [e, cell_of_row _ _ j _ _ _ (Own.heap_new W (.cells #[a, b, c] T))]
  simpa using h
/-- What an append of one run comes to. -/
structure Grew (W w' : World) (B : Nat) (v v' : Value) (xs : List Rn) (r : Rn) : Prop where
  own : RO w' B v' (xs ++ [r])
  grown : W.grownBy w' v.ownBlock
  at_ : v'.ownBlock = v.ownBlock ∨ ∃ b, v'.ownBlock = some b ∧ W.heap.size ≤ b
  form : ∃ g cap, v' = .slice (some ⟨g, 0, none⟩) (xs.length + 1) cap
theorem exec_run {P : Program} (hP : P = Try.prog) {W : World} {f : Operand → Value} {o : Oper} {s x : Operand} (hop : o.op = Op.call { callee := Callee.builtin Builtin.append, args := #[s, x], argTypes := #[22, 22] })
    {B : Nat} (hB : B ≤ W.heap.size) {v : Value} {xs : List Rn} (hs : f s = v) (hx : RO W B v xs) (r : Rn)
    (he : f x = .slice (some ⟨W.heap.size, 0, none⟩) 1 1) (hl : xs.length + 1 ≤ 4398046511104) :
    ∃ v' w', (execOp f o).run P (W.alloc (.cells #[.int .i64 r.f0, .string r.f1, .int .i64 r.f2] 43)) = .ok (.value v') w' ∧ Grew W w' B v v' xs r := by
  subst hP
  obtain ⟨i0, hi0, hz0, hz1, hz2⟩ := info_parts infoRn
  obtain ⟨tmp, ht⟩ : ∃ tmp : Obj, tmp = .cells #[.int .i64 r.f0, .string r.f1, .int .i64 r.f2] 43 := ⟨_, rfl⟩
  have hxa := hx.alloc tmp
  have hnew := cells3_new W (.int .i64 r.f0) (.string r.f1) (.int .i64 r.f2) 43
  rw [← ht] at hnew ⊢
  obtain ⟨v', w', hrun, h1, h2, h3, h4⟩ := run_append_own_at (P := Try.prog) (w := W.alloc tmp) B 22 o.type 43 i0 _ 3 32 Try.underlying22 hi0 hz0 hz1 hz2 rfl (by decide) v xs.length (rcells xs) hxa ⟨W.heap.size, 0, none⟩ 1 1 [.int .i64 r.f0, .string r.f1, .int .i64 r.f2] rfl hnew (by simp [Value.oneCell']) (by unfold maxLen; omega) (by omega) (by simp; omega)
  refine ⟨v', w', ?_, ⟨?_, ?_, ?_, ?_⟩⟩
  · simp [execOp, hop, resolve, invoke, builtin, hs, he, hrun, Result.andThen]
  · show w'.ownsRow B _ 3 v' (xs ++ [r]).length (rcells (xs ++ [r]))
    rw [List.length_append, rcells_snoc]; exact h1
  · exact ⟨h2.os, h2.tape, h2.output, by have := h2.size; simp at this; omega, fun k hk hn => (h2.block k (by simp; omega) hn).trans (Own.heap_old W tmp k hk)⟩
  · rcases h4 with h4 | h4
    · exact .inl h4
    · exact .inr ⟨_, h4, by simp⟩
  · exact ownsRow_succ h1
theorem wpList_run {ops : Array Oper} {rest : List Oper} {o : Oper} {a : Act} {W : World} {Q : Exit → Act → World → Prop} {s x : Operand} (hg : o.guard = none)
    (hop : o.op = Op.call { callee := Callee.builtin Builtin.append, args := #[s, x], argTypes := #[22, 22] })
    {B : Nat} (hB : B ≤ W.heap.size) {v : Value} {xs : List Rn} (hs : a.eval s = v) (hx : RO W B v xs) (r : Rn) (he : a.eval x = .slice (some ⟨W.heap.size, 0, none⟩) 1 1) (hl : xs.length + 1 ≤ 4398046511104)
    (hK : ∀ v' w', Grew W w' B v v' xs r → wpList Try.prog ops Q rest (a.put o.dst v') w') :
    wpList Try.prog ops Q (o :: rest) a (W.alloc (.cells #[.int .i64 r.f0, .string r.f1, .int .i64 r.f2] 43)) := by
  obtain ⟨v', w', hrun, h⟩ := exec_run rfl (o := o) (f := a.eval) hop hB hs hx r he hl
  refine wpList_plain hg fun K hK' => ?_
  unfold Oper.wp
  rw [hrun]
  exact hK' _ _ (hK v' w' h)
theorem wpListIn_run {F : Fence} {n : Nat} {ops : Array Oper} {rest : List Oper} {o : Oper} {a : Act} {W : World} {Q : Exit → Act → World → Prop} {s x : Operand} (hg : o.guard = none)
    (hop : o.op = Op.call { callee := Callee.builtin Builtin.append, args := #[s, x], argTypes := #[22, 22] })
    {B : Nat} (hB : B ≤ W.heap.size) {v : Value} {xs : List Rn} (hs : a.eval s = v) (hx : RO W B v xs) (r : Rn) (he : a.eval x = .slice (some ⟨W.heap.size, 0, none⟩) 1 1) (hl : xs.length + 1 ≤ 4398046511104)
    (hK : ∀ v' w', Grew W w' B v v' xs r → wpListIn F n Try.prog ops Q rest (a.put o.dst v') w') :
    wpListIn F n Try.prog ops Q (o :: rest) a (W.alloc (.cells #[.int .i64 r.f0, .string r.f1, .int .i64 r.f2] 43)) := by
  obtain ⟨v', w', hrun, h⟩ := exec_run rfl (o := o) (f := a.eval) hop hB hs hx r he hl
  refine wpListIn_plain hg fun K hK' => ?_
  unfold Oper.wpIn
  refine ⟨by simp [Oper.about, hop, resolve, Target.leads, Sem.run_pure], ?_⟩
  rw [Oper.semAt_plain F _ _ (by rw [hop]; intro c hc'; cases hc'), hrun]
  exact hK' _ _ (hK v' w' h)
theorem grownBy_setCell (W : World) (b o : Nat) (v : Value) : W.grownBy (W.setCell ⟨b, o, none⟩ v) (some b) :=
  ⟨rfl, rfl, rfl, by simp, fun k _ hk => Below.heap_setCell _ _ _ k (fun e => hk (by rw [e]))⟩

/-! The loop 'for r := range it { out = append(out, r) }'; out lies in the box O. -/
structure Jc (w0 : World) (O : Nat) (pre : List Rn) (G : Priv) (W : World) : Prop where
  row : ∃ o, Boxed W O 22 o ∧ RO W w0.heap.size o pre ∧ ∀ k, G k ≠ none → o.ownBlock ≠ some k
  but : But O w0 W
  priv : ∀ k ob, G k = some ob → W.heap[k]? = some ob ∧ ob.isCells = true ∧ w0.heap.size ≤ k
theorem jc_party {w0 : World} {O : Nat} (hO : O < w0.heap.size) : Party (Jc w0 O) := by
  refine ⟨fun pre G W h k o hk => (h.priv k o hk).1, fun pre G G' W W' h ht hG => ?_, fun pre G W h k o hk => (h.priv k o hk).2.1⟩
  obtain ⟨o, hb, hr, hn⟩ := h.row
  have hGO : G O = none := by
    cases e : G O with
    | none => rfl
    | some q => have := (h.priv O q e).2.2; omega
  have hGr : ∀ k, o.ownBlock = some k → G k = none := fun k hk => by
    cases e : G k with
    | none => rfl
    | some q => exact absurd hk (hn k (by rw [e]; exact fun h => by cases h))
  refine ⟨⟨o, (ht.block O hb.lt hGO).trans hb, own_move hr (fun k hk => ht.block k (own_lt hr k hk) (hGr k hk)), fun k hk => ?_⟩, ?_, fun k ob hk => ?_⟩
  · cases e : G' k with
    | none => exact absurd e hk
    | some q =>
      rcases (hG k q e).2.2 with h1 | h1
      · exact hn k h1
      · intro h2; have := own_lt hr k h2; omega
  · refine ⟨ht.os.trans h.but.os, ht.tape.trans h.but.tape, ht.output.trans h.but.output, Nat.le_trans h.but.size ht.size, fun k hk hne => ?_⟩
    refine (ht.block k (Nat.lt_of_lt_of_le hk h.but.size) ?_).trans (h.but.block k hk hne)
    cases e : G k with
    | none => rfl
    | some q => have := (h.priv k q e).2.2; omega
  · obtain ⟨h1, h2, h3⟩ := hG k ob hk
    refine ⟨h1, h2, ?_⟩
    rcases h3 with h3 | h3
    · cases e : G k with
      | none => exact absurd e h3
      | some q => exact (h.priv k q e).2.2
    · exact Nat.le_trans h.but.size h3
theorem jc_own {w0 : World} {O B : Nat} (hB : w0.heap.size ≤ B) : OwnFrom B (fun (s : List Rn × Priv) W => Jc w0 O s.1 s.2 W) := by
  intro s W W' row h hg hr
  obtain ⟨o, hb, hrow, hn⟩ := h.row
  have hne : ∀ (k : Nat) (q : Obj), W.heap[k]? = some q → q.isCells = true → some k ≠ row := fun k q hk hc e => by
    obtain ⟨_, q', h1, h2⟩ := hr k e.symm
    rw [hk] at h1
    cases h1
    rw [hc] at h2; cases h2
  refine ⟨⟨o, hb.kept hg (hne _ _ hb rfl), own_move hrow (fun k hk => ?_), hn⟩, ?_, fun k ob hk => ?_⟩
  · obtain ⟨cells, hc⟩ := own_typed hrow k hk
    exact hg.block k (own_lt hrow k hk) (hne _ _ hc rfl)
  · exact ⟨hg.os.trans h.but.os, hg.tape.trans h.but.tape, hg.output.trans h.but.output, Nat.le_trans h.but.size hg.size, fun k hk hn => (hg.block k (Nat.lt_of_lt_of_le hk h.but.size) (fun e => by have := (hr k e.symm).1; omega)).trans (h.but.block k hk hn)⟩
  · obtain ⟨h1, h2, h3⟩ := h.priv k ob hk
    exact ⟨(hg.block k (Array.getElem?_eq_some_iff.1 h1).1 (hne _ _ h1 h2)).trans h1, h2, h3⟩
/-- A round's append and store. -/
theorem jc_step {w0 : World} {O : Nat} {pre : List Rn} {G : Priv} {W w1 : World} {o v' : Value} {r : Rn} (hO : O < w0.heap.size) (hb : Boxed W O 22 o) (hrow : RO W w0.heap.size o pre) (hn : ∀ k, G k ≠ none → o.ownBlock ≠ some k) (hbut : But O w0 W)
    (hpriv : ∀ k ob, G k = some ob → W.heap[k]? = some ob ∧ ob.isCells = true ∧ w0.heap.size ≤ k) (hg : Grew W w1 w0.heap.size o v' pre r) :
    Boxed w1 O 22 o ∧ KeepsOthers W (w1.setCell ⟨O, 0, none⟩ v') ∧ Jc w0 O (pre ++ [r]) G (w1.setCell ⟨O, 0, none⟩ v') := by
  have hne : some O ≠ o.ownBlock := hb.not_row (by decide) hrow
  have hb1 : Boxed w1 O 22 o := hb.kept hg.grown hne
  have hN : w0.heap.size ≤ W.heap.size := hbut.size
  have hko : KeepsOthers W w1 := KeepsOthers.of_grownBy hg.grown fun j q ej hj => by
    obtain ⟨cells, hc⟩ := own_typed hrow j ej
    rw [hc] at hj
    cases hj; rfl
  have hv' : ∀ k, G k ≠ none → v'.ownBlock ≠ some k := fun k hk e => by
    rcases hg.at_ with h | ⟨b, h1, h2⟩
    · exact hn k hk (h ▸ e)
    · rw [h1] at e
      cases e
      cases e2 : G k with
      | none => exact hk e2
      | some q =>
        have := (Array.getElem?_eq_some_iff.1 (hpriv k q e2).1).1
        omega
  refine ⟨hb1, hko.trans (KeepsOthers.setCell _ _ _), ⟨⟨v', hb1.set v', hg.own.kept (grownBy_setCell' w1 O v') (.inr (hb1.not_row (by decide) hg.own).symm), hv'⟩, ?_, fun k ob hk => ?_⟩⟩
  · refine ⟨hg.grown.os.trans hbut.os, hg.grown.tape.trans hbut.tape, hg.grown.output.trans hbut.output, ?_, fun k hk hnk => ?_⟩
    · have := hg.grown.size; simp; omega
    · rw [Below.heap_setCell w1 ⟨O, 0, none⟩ v' k (fun e => hnk (by rw [e]))]
      exact (hg.grown.block k (by omega) (fun e => by have := (own_base hrow k e.symm); omega)).trans (hbut.block k hk hnk)
  · obtain ⟨h1, h2, h3⟩ := hpriv k ob hk
    refine ⟨?_, h2, h3⟩
    rw [Below.heap_setCell w1 ⟨O, 0, none⟩ v' k (by show k ≠ O; omega)]
    exact (hg.grown.block k (Array.getElem?_eq_some_iff.1 h1).1 (fun e => hn k (by rw [hk]; exact fun h => by cases h) e.symm)).trans h1
theorem results_c1 {fn : Func} {p : Tmp} {ty e : TypeId} {P : Program} (h : fn.results = #[.cell p ty]) (tmps : Array Value) (w : World) (g : Nat) (v : Value) (hp : tmps.getD p undef = .pointer (some ⟨g, 0, none⟩)) (hu : P.underlying ty = some (.slice e)) (hc : w.cell? ⟨g, 0, none⟩ = some v) : (results fn tmps).run P w = .ok v w := by
  have hp' : tmps[p]?.getD undef = .pointer (some ⟨g, 0, none⟩) := by simpa using hp
  have ha : (isAgg ty).run P w = .ok false w := by simp [isAgg, run_underlying hu, Sem.run_bind, Result.andThen]
  simp [results, h, hp', asAddr, loadVar, ha, hc, Sem.run_bind, Result.andThen, go_sem]
end Go.Proofs.Ytbfdplmgefcogaa.EditR
end

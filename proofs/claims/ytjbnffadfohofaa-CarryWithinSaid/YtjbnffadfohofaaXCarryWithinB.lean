/- Shaken: what the claim's theorem needs of our texts, of the printed ones and of the print's words. -/
import Derived.Test.YtjbnffadfohofaaXCarryWithinA
import Derived.Test.YtjbnffadfohofaaProg
import Derived.Below
import Derived.Deep.Draws
import Derived.Deep.AppendLies
import Derived.Maps.AppendAt
import Derived.OwnWalk
import Derived.Laws.BytesArg
import Derived.Laws.MakeOwn
import Derived.Laws.OwnMore
import Derived.Deep.OwnRows
import Derived.Tactics
import Derived.Lib.ConvBytes
import Derived.Laws.Slices
import Derived.WalkKit
import Derived.KernelRfl
import Derived.RowKit3
import Derived.Deep.LoopGhost
import Derived.Deep.QuietTactic
import Derived.BigQuiet
import Derived.WideLaws
import Derived.Deep.DeepCutAuto
import Derived.Deep.CutBlock
import Derived.Deep.RegionHeld3
import Derived.Laws.Rows
import Derived.Lib.AppendStr
import Derived.ArgAppend
import Derived.Laws.IdiomCopy
import Derived.OrdersHeld
import Derived.Laws.BitsLemmas
import Derived.RowKit
import Derived.Lib.SlBytesConst
import Derived.Lib.SmallJoins
import Derived.Deep.Upon
import Derived.Outline
import Derived.RangeFuncNested
import Derived.RangeFuncBound
import Derived.RangeFuncCalls
import Derived.RangeFuncLeaves
import Derived.Shelf.Abstract
import Derived.Shelf.RegionOpen
import Derived.OwnWalkIn
import Derived.TacticsInMore
import Derived.LoopNIn
import Derived.LoopIn
-- MERGED YtjbnffadfohofaaPBase
section
namespace Go.Proofs.Ytjbnffadfohofaa.P
open Go.RowKit Go.Proofs.YtjbnffadfohofaaW.PrintWords Go.Proofs.YtjbnffadfohofaaW.PrintLast Go.Proofs.YtjbnffadfohofaaW.PrintMore
attribute [local go_sem] max2_int min2_int max_two min_two max_three min_three max_four min_four   -- for this text's walks alone
set_option linter.unusedVariables false
set_option linter.unusedSimpArgs false
def errW : Option Int → Value
 | none => .nilIface
 | some c => .iface 0 (.int .i64 c)
theorem errW_none : errW none = .nilIface := rfl
theorem errW_some (c : Int) : errW (some c) = .iface 0 (.int .i64 c) := rfl
theorem info44 : (Try.prog.info? 44).map (fun i => (i.zero, i.size, i.bytes)) = some (some (.agg #[(.int .i64 0), (.int .i64 0), (.int .i64 0)]), 3, 24) := by kernel_rfl
theorem info49 : (Try.prog.info? 49).map (fun i => (i.zero, i.size, i.bytes)) = some (some (.agg #[(.int .i64 0), (.string ⟨#[]⟩), (.int .i64 0)]), 3, 32) := by kernel_rfl
structure S49 where
 f0 : Int
 f1 : ByteArray
 f2 : Int
def z49 : S49 := ⟨(0 : Int), (⟨#[]⟩ : ByteArray), (0 : Int)⟩
def k49 : Kd S49 := Kd.iso (Kd.pair (Kd.int .i64) (Kd.pair Kd.string (Kd.int .i64))) (fun x : S49 => (x.f0, x.f1, x.f2))
theorem k49_open {w : World} {x : S49} {cs : List Value} (h : k49.K w x cs) : cs = [.int .i64 x.f0, .string x.f1, .int .i64 x.f2] := by
 obtain ⟨_, _, rfl, rfl, ⟨_, _, rfl, rfl, rfl⟩⟩ := h
 exact rfl
theorem k49_mk (w : World) (x : S49)  : k49.K w x [.int .i64 x.f0, .string x.f1, .int .i64 x.f2] := ⟨[.int .i64 x.f0], [.string x.f1, .int .i64 x.f2], rfl, rfl, ⟨[.string x.f1], [.int .i64 x.f2], rfl, rfl, rfl⟩⟩
theorem k49_mkM (w : World) (base : Nat) (ok : Nat → Prop) (x : S49)  : k49.M w base ok x [.int .i64 x.f0, .string x.f1, .int .i64 x.f2] := ⟨[.int .i64 x.f0], [.string x.f1, .int .i64 x.f2], rfl, rfl, ⟨[.string x.f1], [.int .i64 x.f2], rfl, rfl, rfl⟩⟩
def rd_T49 (xs : List S49) (i : Int) : S49 := xs.getD i.toNat z49
theorem at_T49 {w : World} {A : Option Addr} {n : Nat} {xs : List S49} (h : Kd.C k49 w A n xs) (i : Int) (h0 : 0 ≤ i) (h1 : i < n) : ∃ ad , A = some ad ∧ w.cell? (ad.add (i.toNat * 3)) = some (.int .i64 (rd_T49 xs i).f0) ∧ w.cell? ⟨(ad.add (i.toNat * 3)).block, (ad.add (i.toNat * 3)).off + 1, none⟩ = some (.string (rd_T49 xs i).f1) ∧ w.cell? ⟨(ad.add (i.toNat * 3)).block, (ad.add (i.toNat * 3)).off + 2, none⟩ = some (.int .i64 (rd_T49 xs i).f2) := by
 obtain ⟨ad, c, e, _, hK, hc0⟩ := Kd.C_get h z49 i h0 h1
 have hc : ∀ j u, c[j]? = some u → w.cell? (ad.add (i.toNat * 3 + j)) = some u := hc0
 obtain rfl := k49_open hK
 exact ⟨ad, e, hc 0 _ rfl, by rw [← add_field _ _ 1 (by omega)]; exact hc 1 _ rfl, by rw [← add_field _ _ 2 (by omega)]; exact hc 2 _ rfl⟩
def rd_L3 (xs : List (List S49)) (i : Int) : (List S49) := xs.getD i.toNat ([] : List S49)
theorem at_L3 {w : World} {A : Option Addr} {n : Nat} {xs : List (List S49)} (h : Kd.C (Kd.slice 49 k49) w A n xs) (i : Int) (h0 : 0 ≤ i) (h1 : i < n) : ∃ ad A0 c0, A = some ad ∧ w.cell? (ad.add i.toNat) = some (.slice A0 (rd_L3 xs i).length c0) ∧ (rd_L3 xs i).length ≤ c0 ∧ k49.C w A0 (rd_L3 xs i).length (rd_L3 xs i) := by
 obtain ⟨ad, c, e, _, hK, hc0⟩ := Kd.C_get h ([] : List S49) i h0 h1
 have hc : ∀ j u, c[j]? = some u → w.cell? (ad.add (i.toNat * 1 + j)) = some u := hc0
 obtain ⟨A0, c0, rfl, l0, g0⟩ := hK
 exact ⟨ad, A0, c0, e, by have hq := hc 0 _ rfl; rwa [Nat.mul_one, Nat.add_zero] at hq, l0, g0⟩
structure S42 where
 f0 : Int
 f1 : Int
def z42 : S42 := ⟨(0 : Int), (0 : Int)⟩
def k42 : Kd S42 := Kd.iso (Kd.pair (Kd.int .i64) (Kd.int .i64)) (fun x : S42 => (x.f0, x.f1))
theorem k42_open {w : World} {x : S42} {cs : List Value} (h : k42.K w x cs) : cs = [.int .i64 x.f0, .int .i64 x.f1] := by
 obtain ⟨_, _, rfl, rfl, rfl⟩ := h
 exact rfl
theorem k42_mk (w : World) (x : S42)  : k42.K w x [.int .i64 x.f0, .int .i64 x.f1] := ⟨[.int .i64 x.f0], [.int .i64 x.f1], rfl, rfl, rfl⟩
theorem k42_mkM (w : World) (base : Nat) (ok : Nat → Prop) (x : S42)  : k42.M w base ok x [.int .i64 x.f0, .int .i64 x.f1] := ⟨[.int .i64 x.f0], [.int .i64 x.f1], rfl, rfl, rfl⟩
structure S44 where
 f0 : S42
 f1 : Int
def z44 : S44 := ⟨z42, (0 : Int)⟩
def k44 : Kd S44 := Kd.iso (Kd.pair k42 (Kd.int .i64)) (fun x : S44 => (x.f0, x.f1))
theorem k44_open {w : World} {x : S44} {cs : List Value} (h : k44.K w x cs) : cs = [.int .i64 x.f0.f0, .int .i64 x.f0.f1, .int .i64 x.f1] := by
 obtain ⟨_, _, rfl, s0, rfl⟩ := h
 obtain rfl := k42_open s0
 exact rfl
theorem k44_mk (w : World) (x : S44)  : k44.K w x [.int .i64 x.f0.f0, .int .i64 x.f0.f1, .int .i64 x.f1] := ⟨[.int .i64 x.f0.f0, .int .i64 x.f0.f1], [.int .i64 x.f1], rfl, (k42_mk w x.f0 ), rfl⟩
theorem k44_mkM (w : World) (base : Nat) (ok : Nat → Prop) (x : S44)  : k44.M w base ok x [.int .i64 x.f0.f0, .int .i64 x.f0.f1, .int .i64 x.f1] := ⟨[.int .i64 x.f0.f0, .int .i64 x.f0.f1], [.int .i64 x.f1], rfl, (k42_mkM w base ok x.f0 ), rfl⟩
def rd_T44 (xs : List S44) (i : Int) : S44 := xs.getD i.toNat z44
theorem at_T44 {w : World} {A : Option Addr} {n : Nat} {xs : List S44} (h : Kd.C k44 w A n xs) (i : Int) (h0 : 0 ≤ i) (h1 : i < n) : ∃ ad , A = some ad ∧ w.cell? (ad.add (i.toNat * 3)) = some (.int .i64 (rd_T44 xs i).f0.f0) ∧ w.cell? ⟨(ad.add (i.toNat * 3)).block, (ad.add (i.toNat * 3)).off + 1, none⟩ = some (.int .i64 (rd_T44 xs i).f0.f1) ∧ w.cell? ⟨(ad.add (i.toNat * 3)).block, (ad.add (i.toNat * 3)).off + 2, none⟩ = some (.int .i64 (rd_T44 xs i).f1) := by
 obtain ⟨ad, c, e, _, hK, hc0⟩ := Kd.C_get h z44 i h0 h1
 have hc : ∀ j u, c[j]? = some u → w.cell? (ad.add (i.toNat * 3 + j)) = some u := hc0
 obtain rfl := k44_open hK
 exact ⟨ad, e, hc 0 _ rfl, by rw [← add_field _ _ 1 (by omega)]; exact hc 1 _ rfl, by rw [← add_field _ _ 2 (by omega)]; exact hc 2 _ rfl⟩
end Go.Proofs.Ytjbnffadfohofaa.P
end
-- MERGED YtjbnffadfohofaaEditL
section
namespace Go.Proofs.Ytjbnffadfohofaa.EditL
open Go.RowKit Go.Proofs.Ytjbnffadfohofaa.P
abbrev Rn := S49
def E : ByteArray := ⟨#[]⟩
theorem E_size : E.size = 0 := rfl
theorem eq_E {s : ByteArray} (h : s.size = 0) : s = E := by
 obtain ⟨⟨l⟩⟩ := s
 have : l.length = 0 := h
 obtain rfl : l = [] := List.eq_nil_of_length_eq_zero this
 rfl
def knd (r : Rn) : Int :=
 if 0 < r.f0 ∧ r.f1.size = 0 ∧ r.f2 = 0 then 1 else if r.f0 = 0 ∧ r.f1.size ≠ 0 ∧ r.f2 = 0 then 2 else if r.f0 = 0 ∧ r.f1.size = 0 ∧ 0 < r.f2 then 3 else 0
theorem knd_cases (r : Rn) : (0 < r.f0 ∧ r.f1.size = 0 ∧ r.f2 = 0 ∧ knd r = 1) ∨ (r.f0 = 0 ∧ 0 < r.f1.size ∧ r.f2 = 0 ∧ knd r = 2) ∨ (r.f0 = 0 ∧ r.f1.size = 0 ∧ 0 < r.f2 ∧ knd r = 3) ∨ (knd r = 0 ∧ ¬ (0 < r.f0 ∧ r.f1.size = 0 ∧ r.f2 = 0) ∧ ¬ (r.f0 = 0 ∧ r.f1.size ≠ 0 ∧ r.f2 = 0) ∧ ¬ (r.f0 = 0 ∧ r.f1.size = 0 ∧ 0 < r.f2)) := by
 unfold knd
 by_cases h1 : 0 < r.f0 ∧ r.f1.size = 0 ∧ r.f2 = 0
 ·rw [if_pos h1]; exact .inl ⟨h1.1, h1.2.1, h1.2.2, rfl⟩
 ·rw [if_neg h1]
  by_cases h2 : r.f0 = 0 ∧ r.f1.size ≠ 0 ∧ r.f2 = 0
  ·rw [if_pos h2]; exact .inr (.inl ⟨h2.1, by omega, h2.2.2, rfl⟩)
  ·rw [if_neg h2]
   by_cases h3 : r.f0 = 0 ∧ r.f1.size = 0 ∧ 0 < r.f2
   ·rw [if_pos h3]; exact .inr (.inr (.inl ⟨h3.1, h3.2.1, h3.2.2, rfl⟩))
   ·rw [if_neg h3]; exact .inr (.inr (.inr ⟨rfl, h1, h2, h3⟩))
theorem knd_pos {r : Rn} (h : knd r ≠ 0) : 0 ≤ r.f0 ∧ 0 ≤ r.f2 := by
 rcases knd_cases r with h1 | h1 | h1 | h1
 ·omega
 ·omega
 ·omega
 ·exact absurd h1.1 h
def inL : List Rn → Int
 | [] => 0
 | r :: l => (r.f0 + r.f2) + inL l
def outL : List Rn → Int
 | [] => 0
 | r :: l => (r.f0 + (r.f1.size : Int)) + outL l
def fits : List Rn → Int → Int → Bool
 | [], _, _ => true
 | r :: l, i, o => (decide (r.f0 ≤ 16777216 - i) && decide (r.f2 ≤ 16777216 - i) && decide (r.f0 ≤ 16777216 - o) && decide ((r.f1.size : Int) ≤ 16777216 - o)) && fits l (i + (r.f0 + r.f2)) (o + (r.f0 + (r.f1.size : Int)))
def ord : List Rn → Int → Bool
 | [], _ => true
 | r :: l, last => (decide (knd r ≠ 0) && decide (knd r ≠ last) && decide (¬ (last = 3 ∧ knd r = 2))) && ord l (knd r)
def good (l : List Rn) : Bool := (ord l 0 && decide (l.length ≤ 65536)) && fits l 0 0
def fl (k : Int) (a : ByteArray) (d : Int) : List Rn := (if 0 < k then [⟨k, E, 0⟩] else []) ++ ((if a.size ≠ 0 then [⟨0, a, 0⟩] else []) ++ (if 0 < d then [⟨0, E, d⟩] else []))
def jn : List Rn → Int → ByteArray → Int → List Rn
 | [], k, a, d => fl k a d
 | r :: l, k, a, d => if knd r = 1 ∧ (a.size ≠ 0 ∨ 0 < d) then fl k a d ++ jn l r.f0 r.f1 r.f2 else jn l (k + r.f0) (a ++ r.f1) (d + r.f2)
def fine (l : List Rn) : List Rn := l.filter fun r => decide (knd r ≠ 0)
def out (l : List Rn) : List Rn := jn (fine l) 0 E 0
def norm (l : List Rn) : List Rn := if fits (fine l) 0 0 then (if good (out l) then out l else []) else []
theorem fine_ok (l : List Rn) : ∀ r ∈ fine l, knd r ≠ 0 := fun r h => by simpa using (List.mem_filter.1 h).2
theorem fine_len (l : List Rn) : (fine l).length ≤ l.length := List.length_filter_le _ _
theorem fine_cons (r : Rn) (l : List Rn) : fine (r :: l) = if knd r ≠ 0 then r :: fine l else fine l := by
 unfold fine
 rw [List.filter_cons]
 by_cases h : knd r ≠ 0
 ·rw [if_pos h, if_pos (by simpa using h)]
 ·rw [if_neg h, if_neg (by simpa using h)]
theorem fine_append (a b : List Rn) : fine (a ++ b) = fine a ++ fine b := List.filter_append ..
theorem inL_nonneg {l : List Rn} (h : ∀ r ∈ l, knd r ≠ 0) : 0 ≤ inL l ∧ 0 ≤ outL l := by
 induction l with
 | nil => exact ⟨Int.le_refl _, Int.le_refl _⟩
 | cons r l ih =>
  have h1 := knd_pos (h r List.mem_cons_self)
  have h2 := ih fun x hx => h x (List.mem_cons_of_mem _ hx)
  simp only [inL, outL]
  omega
theorem fits_iff {l : List Rn} (h : ∀ r ∈ l, knd r ≠ 0) : ∀ i o : Int, i ≤ 16777216 → o ≤ 16777216 → (fits l i o = true ↔ i + inL l ≤ 16777216 ∧ o + outL l ≤ 16777216) := by
 induction l with
 | nil => intro i o hi ho; simp [fits, inL, outL]; omega
 | cons r l ih =>
  intro i o hi ho
  have h1 := knd_cases r
  have h0 := h r List.mem_cons_self
  have h2 : ∀ x ∈ l, knd x ≠ 0 := fun x hx => h x (List.mem_cons_of_mem _ hx)
  have h3 := inL_nonneg h2
  simp only [fits, inL, outL, Bool.and_eq_true, decide_eq_true_eq]
  constructor
  ·rintro ⟨⟨⟨⟨a1, a2⟩, a3⟩, a4⟩, h5⟩
   have := (ih h2 _ _ (by omega) (by omega)).1 h5
   omega
  ·rintro ⟨a1, a2⟩
   refine ⟨⟨⟨⟨by omega, by omega⟩, by omega⟩, by omega⟩, (ih h2 _ _ (by omega) (by omega)).2 ⟨by omega, by omega⟩⟩
theorem ord_ok {l : List Rn} : ∀ {k : Int}, ord l k = true → ∀ r ∈ l, knd r ≠ 0 := by
 induction l with
 | nil => intro k _ r hr; cases hr
 | cons x l ih =>
  intro k h r hr
  simp only [ord, Bool.and_eq_true, decide_eq_true_eq] at h
  rcases List.mem_cons.1 hr with rfl | hr
  ·exact h.1.1.1
  ·exact ih h.2 r hr
theorem good_ok {l : List Rn} (h : good l = true) : ord l 0 = true ∧ l.length ≤ 65536 ∧ fits l 0 0 = true ∧ ∀ r ∈ l, knd r ≠ 0 := by
 unfold good at h
 simp only [Bool.and_eq_true, decide_eq_true_eq] at h
 exact ⟨h.1.1, h.1.2, h.2, ord_ok h.1.1⟩
end Go.Proofs.Ytjbnffadfohofaa.EditL
end
-- MERGED YtjbnffadfohofaaEditG
section
namespace Go.Proofs.Ytjbnffadfohofaa.EditG
open Go.RowKit Go.Proofs.Ytjbnffadfohofaa.P Go.Proofs.Ytjbnffadfohofaa.EditL
set_option linter.unusedSimpArgs false
set_option linter.unusedVariables false
theorem E_add (s : ByteArray) : E ++ s = s := by
 apply ByteArray.ext
 simp [E]
theorem add_E (s : ByteArray) : s ++ E = s := by
 apply ByteArray.ext
 simp [E]
theorem size_add (a b : ByteArray) : (a ++ b).size = a.size + b.size := ByteArray.size_append ..
theorem jn_flush {r : Rn} {l : List Rn} {k d : Int} {a : ByteArray} (h1 : knd r = 1) (h2 : a.size ≠ 0 ∨ 0 < d) : jn (r :: l) k a d = fl k a d ++ jn l r.f0 r.f1 r.f2 := by
 show (if _ then _ else _) = _; rw [if_pos ⟨h1, h2⟩]
theorem jn_on {r : Rn} {l : List Rn} {k d : Int} {a : ByteArray} (h : ¬ (knd r = 1 ∧ (a.size ≠ 0 ∨ 0 < d))) : jn (r :: l) k a d = jn l (k + r.f0) (a ++ r.f1) (d + r.f2) := by
 show (if _ then _ else _) = _; rw [if_neg h]
theorem run_eq {r : Rn} (h : knd r = 1) : r = ⟨r.f0, E, 0⟩ ∧ 0 < r.f0 ∧ r.f1 = E ∧ r.f2 = 0 := by
 obtain ⟨f0, f1, f2⟩ := r
 rcases knd_cases ⟨f0, f1, f2⟩ with ⟨h1, h2, h3, h4⟩ | ⟨h1, h2, h3, h4⟩ | ⟨h1, h2, h3, h4⟩ | ⟨h4, _⟩
 ·have := eq_E h2
  simp only at h1 h3 this ⊢
  subst this; subst h3
  exact ⟨rfl, h1, rfl, rfl⟩
 all_goals rw [h4] at h; cases h
theorem run_eq2 {r : Rn} (h : knd r = 2) : r = ⟨0, r.f1, 0⟩ ∧ r.f0 = 0 ∧ r.f1.size ≠ 0 ∧ r.f2 = 0 := by
 obtain ⟨f0, f1, f2⟩ := r
 rcases knd_cases ⟨f0, f1, f2⟩ with ⟨h1, h2, h3, h4⟩ | ⟨h1, h2, h3, h4⟩ | ⟨h1, h2, h3, h4⟩ | ⟨h4, _⟩
 ·rw [h4] at h; cases h
 ·simp only at h1 h2 h3 ⊢
  subst h1; subst h3
  exact ⟨rfl, rfl, by omega, rfl⟩
 all_goals rw [h4] at h; cases h
theorem run_eq3 {r : Rn} (h : knd r = 3) : r = ⟨0, E, r.f2⟩ ∧ r.f0 = 0 ∧ r.f1 = E ∧ 0 < r.f2 := by
 obtain ⟨f0, f1, f2⟩ := r
 rcases knd_cases ⟨f0, f1, f2⟩ with ⟨h1, h2, h3, h4⟩ | ⟨h1, h2, h3, h4⟩ | ⟨h1, h2, h3, h4⟩ | ⟨h4, _⟩
 ·rw [h4] at h; cases h
 ·rw [h4] at h; cases h
 ·have := eq_E h2
  simp only at h1 h3 this ⊢
  subst this; subst h1
  exact ⟨rfl, rfl, rfl, h3⟩
 ·rw [h4] at h; cases h
theorem knd_three {r : Rn} (h : knd r ≠ 0) : knd r = 1 ∨ knd r = 2 ∨ knd r = 3 := by
 rcases knd_cases r with ⟨_, _, _, h4⟩ | ⟨_, _, _, h4⟩ | ⟨_, _, _, h4⟩ | ⟨h4, _⟩
 ·exact .inl h4
 ·exact .inr (.inl h4)
 ·exact .inr (.inr h4)
 ·exact absurd h4 h
end Go.Proofs.Ytjbnffadfohofaa.EditG
end
-- MERGED YtjbnffadfohofaaOwn
section
namespace Go.Proofs.Ytjbnffadfohofaa.Own
open Go.RowKit Go.Proofs.YtjbnffadfohofaaW.PrintWords Go.Proofs.YtjbnffadfohofaaW.PrintLast Go.Proofs.YtjbnffadfohofaaW.PrintMore
theorem heap_new (W : World) (o : Obj) : (W.alloc o).heap[W.heap.size]? = some o := heap_alloc_new W o
theorem heap_old (W : World) (o : Obj) (k : Nat) (h : k < W.heap.size) : (W.alloc o).heap[k]? = W.heap[k]? := Below.heap_alloc W o k h
end Go.Proofs.Ytjbnffadfohofaa.Own
end
-- MERGED YtjbnffadfohofaaPvariorumref06Kind
section
namespace Go.Proofs.Ytjbnffadfohofaa.P
open Go.RowKit Go.Proofs.YtjbnffadfohofaaW.PrintWords Go.Proofs.YtjbnffadfohofaaW.PrintLast Go.Proofs.YtjbnffadfohofaaW.PrintMore
attribute [local go_sem] max2_int min2_int max_two min_two max_three min_three max_four min_four   -- for this text's walks alone
set_option linter.unusedVariables false
set_option linter.unusedSimpArgs false
mutual
def variorumref06_Kind.j0 : Nat → Bool → Int → ByteArray → Int → Option (Int)
 | 0, _, _, _, _ => none
 | k + 1, x15, x102000, x102001, x102002 => if x15 = true then (some 1) else (if x102000 = 0 then (if x102001.toList = ([] : List UInt8) then (variorumref06_Kind.j1 k false x102000 x102001 x102002) else (variorumref06_Kind.j1 k (x102002 == 0) x102000 x102001 x102002)) else (variorumref06_Kind.j1 k false x102000 x102001 x102002))
def variorumref06_Kind.j1 : Nat → Bool → Int → ByteArray → Int → Option (Int)
 | 0, _, _, _, _ => none
 | k + 1, x28, x102000, x102001, x102002 => if x28 = true then (some 2) else (if x102000 = 0 then (if x102001.toList = ([] : List UInt8) then (if x102002 > 0 then (some 3) else (some 0)) else (some 0)) else (some 0))
end
def variorumref06_Kind.f (k : Nat) (a0_0 : Int) (a0_1 : ByteArray) (a0_2 : Int) : Option (Int) := if a0_0 > 0 then (if a0_1.toList = ([] : List UInt8) then (variorumref06_Kind.j0 k (a0_2 == 0) a0_0 a0_1 a0_2) else (variorumref06_Kind.j0 k false a0_0 a0_1 a0_2)) else (variorumref06_Kind.j0 k false a0_0 a0_1 a0_2)
set_option maxHeartbeats 8000000 in
set_option maxRecDepth 100000 in
theorem variorumref06_Kind.calls (k : Nat) (a0_0 : Int) (a0_1 : ByteArray) (a0_2 : Int) (r : Int) (w : World) (h : variorumref06_Kind.f k a0_0 a0_1 a0_2 = some r) :
  Calls Try.prog 27 #[.agg #[.int .i64 a0_0, .string a0_1, .int .i64 a0_2]] w fun e w' => e = .returned (.int .i64 r) ∧ Below w.heap.size w w' := by
 have hu49 := Try.underlying49
 have HB := Aside0.mk (Below.refl w.heap.size w)
 have H : (if a0_0 > 0 then (if a0_1.toList = ([] : List UInt8) then (variorumref06_Kind.j0 k (a0_2 == 0) a0_0 a0_1 a0_2) else (variorumref06_Kind.j0 k false a0_0 a0_1 a0_2)) else (variorumref06_Kind.j0 k false a0_0 a0_1 a0_2)) = some r := h
 clear h
 have HC2 := Aside0.mk H
 clear H
 go_enter Try.func27, Try.ntmps27
 go_upto_region 1 with (first | ((with_reducible refine gate_dst (N := 1) rfl ?_); refine box_event ?hg (N := 1) ?hd (cs := #[.int .i64 a0_0, .string a0_1, .int .i64 a0_2]) (t := 49) ?hr ?_; (case hd => rfl); (case hg => rfl); (case hr => (go_simp; done)); intro gb101 hg w3 hbox hb; have n0_ := Aside0.mk (below_step (by repeat ((with_reducible (exact HB.out)))) hb); have n1_ := Aside0.mk (hbox); have n2_ := Aside0.mk ((by rw [hg]; exact (below_size (by repeat ((with_reducible (exact HB.out))))) : w.heap.size ≤ gb101)); have n3_ := Aside0.mk ((by rw [hg]; exact (below_size (by repeat ((with_reducible (exact HB.out))))) : w.heap.size ≤ gb101)); clear HB; have HB := n0_; have BK101 := n1_; have GW101 := n2_; have GE101 := n3_; clear n0_ n1_ n2_ n3_; clear hb hbox hg))
 (try simp only [Act.put, List.setIfInBounds_toArray, List.set_cons_zero, List.set_cons_succ])
 go_cut [15] (fun v15 wc => ∃ (kq : Nat) (x15_1 : Bool), v15 = .bool x15_1 ∧ Aside0 (variorumref06_Kind.j0 kq x15_1 a0_0 a0_1 a0_2 = some r) ∧ Aside0 (kq ≤ k) ∧ Aside0 (wc.heap[gb101]? = some (.cells #[.int .i64 a0_0, .string a0_1, .int .i64 a0_2] 49 (0, 0))) ∧ Aside0 (Below w.heap.size w wc))
 case first =>
  have H := HC2.out
  clear HC2
  by_cases c4 : a0_0 > 0
  ·rw [if_pos c4] at H
   have c4b0 : decide (0 < a0_0) = true := decide_eq_true c4
   clear c4
   ((skip))
   by_cases c5 : a0_1.toList = ([] : List UInt8)
   ·rw [if_pos c5] at H
    have c5b0 : (a0_1.toList == ([] : List UInt8)) = true := beq_iff_eq.mpr c5
    have c5b1 : (a0_1.toList != ([] : List UInt8)) = false := bne_eq_false_iff_eq.mpr c5
    clear c5
    have H' := Aside0.mk H
    clear H
    have hcz6_0 : w3.cell? ⟨gb101, 0, none⟩ = some (.int .i64 a0_0) := (blk_cell BK101.out 0).trans rfl
    have hcz6_1 : w3.cell? ⟨gb101, 1, none⟩ = some (.string a0_1) := (blk_cell BK101.out 1).trans rfl
    have hcz6_2 : w3.cell? ⟨gb101, 2, none⟩ = some (.int .i64 a0_2) := (blk_cell BK101.out 2).trans rfl
    have hfz6_0 := blk_frozen BK101.out 0
    have hfz6_1 := blk_frozen BK101.out 1
    have hfz6_2 := blk_frozen BK101.out 2
    go_wp2
    go_meet
    case rel => exact ⟨_, ((a0_2 == 0)), (by (rfl)), H', ⟨by (omega)⟩, ⟨by (with_reducible repeat ((refine blk_drew ?_))); exact BK101.out⟩, ⟨by repeat ((with_reducible (exact HB.out)))⟩⟩
   ·rw [if_neg c5] at H
    have c5b0 : (a0_1.toList == ([] : List UInt8)) = false := beq_eq_false_iff_ne.mpr c5
    have c5b1 : (a0_1.toList != ([] : List UInt8)) = true := bne_iff_ne.mpr c5
    have H' := Aside0.mk H
    clear H
    have hcz7_0 : w3.cell? ⟨gb101, 0, none⟩ = some (.int .i64 a0_0) := (blk_cell BK101.out 0).trans rfl
    have hcz7_1 : w3.cell? ⟨gb101, 1, none⟩ = some (.string a0_1) := (blk_cell BK101.out 1).trans rfl
    have hcz7_2 : w3.cell? ⟨gb101, 2, none⟩ = some (.int .i64 a0_2) := (blk_cell BK101.out 2).trans rfl
    have hfz7_0 := blk_frozen BK101.out 0
    have hfz7_1 := blk_frozen BK101.out 1
    have hfz7_2 := blk_frozen BK101.out 2
    go_wp2
    go_meet
    case rel => exact ⟨_, (false), (by (rfl)), H', ⟨by (omega)⟩, ⟨by (with_reducible repeat ((refine blk_drew ?_))); exact BK101.out⟩, ⟨by repeat ((with_reducible (exact HB.out)))⟩⟩
  ·rw [if_neg c4] at H
   have c4b0 : decide (0 < a0_0) = false := decide_eq_false c4
   clear c4
   ((skip))
   have H' := Aside0.mk H
   clear H
   have hcz8_0 : w3.cell? ⟨gb101, 0, none⟩ = some (.int .i64 a0_0) := (blk_cell BK101.out 0).trans rfl
   have hcz8_1 : w3.cell? ⟨gb101, 1, none⟩ = some (.string a0_1) := (blk_cell BK101.out 1).trans rfl
   have hcz8_2 : w3.cell? ⟨gb101, 2, none⟩ = some (.int .i64 a0_2) := (blk_cell BK101.out 2).trans rfl
   have hfz8_0 := blk_frozen BK101.out 0
   have hfz8_1 := blk_frozen BK101.out 1
   have hfz8_2 := blk_frozen BK101.out 2
   go_wp2
   go_meet
   case rel => exact ⟨_, (false), (by (rfl)), H', ⟨by (omega)⟩, ⟨by (with_reducible repeat ((refine blk_drew ?_))); exact BK101.out⟩, ⟨by repeat ((with_reducible (exact HB.out)))⟩⟩
 case rest =>
  clear HC2
  try clear c2
  try clear p2
  try clear c4
  try clear c4b0
  try clear c5
  try clear c5b0
  try clear c5b1
  try clear hcz6_0
  try clear hcz6_1
  try clear hcz6_2
  try clear hcz7_0
  try clear hcz7_1
  try clear hcz7_2
  try clear hcz8_0
  try clear hcz8_1
  try clear hcz8_2
  try clear hfz6_0
  try clear hfz6_1
  try clear hfz6_2
  try clear hfz7_0
  try clear hfz7_1
  try clear hfz7_2
  try clear hfz8_0
  try clear hfz8_1
  try clear hfz8_2
  obtain ⟨kq, x15_1, rfl, HA, HJ1, BK101, HB⟩ := hcut
  cases kq with
  | zero => exact absurd HA.out (by simp [variorumref06_Kind.j0])
  | succ kj1 =>
   have H := HA.out
   clear HA
   simp only [variorumref06_Kind.j0] at H
   by_cases c9 : x15_1 = true
   ·subst c9
    have H1 : (some 1) = some r := by rw [if_pos rfl] at H; exact H
    clear H
    have H := H1
    clear H1
    obtain rfl := Option.some.inj H
    go_wp2
    go_ret
    exact ⟨by (rfl), by repeat ((with_reducible (exact HB.out)))⟩
   ·replace c9 := Bool.eq_false_iff.mpr c9
    subst c9
    have H1 : (if a0_0 = 0 then (if a0_1.toList = ([] : List UInt8) then (variorumref06_Kind.j1 kj1 false a0_0 a0_1 a0_2) else (variorumref06_Kind.j1 kj1 (a0_2 == 0) a0_0 a0_1 a0_2)) else (variorumref06_Kind.j1 kj1 false a0_0 a0_1 a0_2)) = some r := by rw [if_neg (show ¬ (false = true) by decide)] at H; exact H
    clear H
    have H := H1
    clear H1
    have HC10 := Aside0.mk H
    clear H
    go_upto_region 3 with (fail)
    go_cut [28] (fun v28 wc => ∃ (kq : Nat) (x28_9 : Bool), v28 = .bool x28_9 ∧ Aside0 (variorumref06_Kind.j1 kq x28_9 a0_0 a0_1 a0_2 = some r) ∧ Aside0 (kq ≤ kj1) ∧ Aside0 (wc.heap[gb101]? = some (.cells #[.int .i64 a0_0, .string a0_1, .int .i64 a0_2] 49 (0, 0))) ∧ Aside0 (Below w.heap.size w wc))
    case first =>
     have H := HC10.out
     clear HC10
     by_cases c11 : a0_0 = 0
     ·rw [if_pos c11] at H
      have c11b0 : (a0_0 == 0) = true := beq_iff_eq.mpr c11
      have c11b1 : (a0_0 != 0) = false := bne_eq_false_iff_eq.mpr c11
      clear c11
      ((skip))
      by_cases c12 : a0_1.toList = ([] : List UInt8)
      ·rw [if_pos c12] at H
       have c12b0 : (a0_1.toList == ([] : List UInt8)) = true := beq_iff_eq.mpr c12
       have c12b1 : (a0_1.toList != ([] : List UInt8)) = false := bne_eq_false_iff_eq.mpr c12
       clear c12
       have H' := Aside0.mk H
       clear H
       have hcz13_0 : wc.cell? ⟨gb101, 0, none⟩ = some (.int .i64 a0_0) := (blk_cell BK101.out 0).trans rfl
       have hcz13_1 : wc.cell? ⟨gb101, 1, none⟩ = some (.string a0_1) := (blk_cell BK101.out 1).trans rfl
       have hcz13_2 : wc.cell? ⟨gb101, 2, none⟩ = some (.int .i64 a0_2) := (blk_cell BK101.out 2).trans rfl
       have hfz13_0 := blk_frozen BK101.out 0
       have hfz13_1 := blk_frozen BK101.out 1
       have hfz13_2 := blk_frozen BK101.out 2
       go_wp2
       go_meet
       case rel => exact ⟨_, (false), (by (rfl)), H', ⟨by have := HJ1.out; (omega)⟩, ⟨by (with_reducible repeat ((refine blk_drew ?_))); exact BK101.out⟩, ⟨by repeat ((with_reducible (exact HB.out)))⟩⟩
      ·rw [if_neg c12] at H
       have c12b0 : (a0_1.toList == ([] : List UInt8)) = false := beq_eq_false_iff_ne.mpr c12
       have c12b1 : (a0_1.toList != ([] : List UInt8)) = true := bne_iff_ne.mpr c12
       have H' := Aside0.mk H
       clear H
       have hcz14_0 : wc.cell? ⟨gb101, 0, none⟩ = some (.int .i64 a0_0) := (blk_cell BK101.out 0).trans rfl
       have hcz14_1 : wc.cell? ⟨gb101, 1, none⟩ = some (.string a0_1) := (blk_cell BK101.out 1).trans rfl
       have hcz14_2 : wc.cell? ⟨gb101, 2, none⟩ = some (.int .i64 a0_2) := (blk_cell BK101.out 2).trans rfl
       have hfz14_0 := blk_frozen BK101.out 0
       have hfz14_1 := blk_frozen BK101.out 1
       have hfz14_2 := blk_frozen BK101.out 2
       go_wp2
       go_meet
       case rel => exact ⟨_, ((a0_2 == 0)), (by (rfl)), H', ⟨by have := HJ1.out; (omega)⟩, ⟨by (with_reducible repeat ((refine blk_drew ?_))); exact BK101.out⟩, ⟨by repeat ((with_reducible (exact HB.out)))⟩⟩
     ·rw [if_neg c11] at H
      have c11b0 : (a0_0 == 0) = false := beq_eq_false_iff_ne.mpr c11
      have c11b1 : (a0_0 != 0) = true := bne_iff_ne.mpr c11
      ((skip))
      have H' := Aside0.mk H
      clear H
      have hcz15_0 : wc.cell? ⟨gb101, 0, none⟩ = some (.int .i64 a0_0) := (blk_cell BK101.out 0).trans rfl
      have hcz15_1 : wc.cell? ⟨gb101, 1, none⟩ = some (.string a0_1) := (blk_cell BK101.out 1).trans rfl
      have hcz15_2 : wc.cell? ⟨gb101, 2, none⟩ = some (.int .i64 a0_2) := (blk_cell BK101.out 2).trans rfl
      have hfz15_0 := blk_frozen BK101.out 0
      have hfz15_1 := blk_frozen BK101.out 1
      have hfz15_2 := blk_frozen BK101.out 2
      go_wp2
      go_meet
      case rel => exact ⟨_, (false), (by (rfl)), H', ⟨by have := HJ1.out; (omega)⟩, ⟨by (with_reducible repeat ((refine blk_drew ?_))); exact BK101.out⟩, ⟨by repeat ((with_reducible (exact HB.out)))⟩⟩
    case rest =>
     clear HC10
     try clear c1
     try clear c2
     try clear p2
     try clear c4
     try clear c4b0
     try clear c5
     try clear c5b0
     try clear c5b1
     try clear c9
     try clear c11
     try clear c11b0
     try clear c11b1
     try clear c12
     try clear c12b0
     try clear c12b1
     try clear hcz13_0
     try clear hcz13_1
     try clear hcz13_2
     try clear hcz14_0
     try clear hcz14_1
     try clear hcz14_2
     try clear hcz15_0
     try clear hcz15_1
     try clear hcz15_2
     try clear hcz6_0
     try clear hcz6_1
     try clear hcz6_2
     try clear hcz7_0
     try clear hcz7_1
     try clear hcz7_2
     try clear hcz8_0
     try clear hcz8_1
     try clear hcz8_2
     try clear hfz13_0
     try clear hfz13_1
     try clear hfz13_2
     try clear hfz14_0
     try clear hfz14_1
     try clear hfz14_2
     try clear hfz15_0
     try clear hfz15_1
     try clear hfz15_2
     try clear hfz6_0
     try clear hfz6_1
     try clear hfz6_2
     try clear hfz7_0
     try clear hfz7_1
     try clear hfz7_2
     try clear hfz8_0
     try clear hfz8_1
     try clear hfz8_2
     try clear p2
     obtain ⟨kq, x28_9, rfl, HA, HJ9, BK101, HB⟩ := hcut
     cases kq with
     | zero => exact absurd HA.out (by simp [variorumref06_Kind.j1])
     | succ kj9 =>
      have H := HA.out
      clear HA
      simp only [variorumref06_Kind.j1] at H
      by_cases c16 : x28_9 = true
      ·subst c16
       have H1 : (some 2) = some r := by rw [if_pos rfl] at H; exact H
       clear H
       have H := H1
       clear H1
       obtain rfl := Option.some.inj H
       go_wp2
       go_ret
       exact ⟨by (rfl), by repeat ((with_reducible (exact HB.out)))⟩
      ·replace c16 := Bool.eq_false_iff.mpr c16
       subst c16
       have H1 : (if a0_0 = 0 then (if a0_1.toList = ([] : List UInt8) then (if a0_2 > 0 then (some 3) else (some 0)) else (some 0)) else (some 0)) = some r := by rw [if_neg (show ¬ (false = true) by decide)] at H; exact H
       clear H
       have H := H1
       clear H1
       by_cases c17 : a0_0 = 0
       ·rw [if_pos c17] at H
        have c17b0 : (a0_0 == 0) = true := beq_iff_eq.mpr c17
        have c17b1 : (a0_0 != 0) = false := bne_eq_false_iff_eq.mpr c17
        clear c17
        by_cases c18 : a0_1.toList = ([] : List UInt8)
        ·rw [if_pos c18] at H
         have c18b0 : (a0_1.toList == ([] : List UInt8)) = true := beq_iff_eq.mpr c18
         have c18b1 : (a0_1.toList != ([] : List UInt8)) = false := bne_eq_false_iff_eq.mpr c18
         clear c18
         by_cases c19 : a0_2 > 0
         ·rw [if_pos c19] at H
          have c19b0 : decide (0 < a0_2) = true := decide_eq_true c19
          clear c19
          obtain rfl := Option.some.inj H
          have hcz20_0 : wc.cell? ⟨gb101, 0, none⟩ = some (.int .i64 a0_0) := (blk_cell BK101.out 0).trans rfl
          have hcz20_1 : wc.cell? ⟨gb101, 1, none⟩ = some (.string a0_1) := (blk_cell BK101.out 1).trans rfl
          have hcz20_2 : wc.cell? ⟨gb101, 2, none⟩ = some (.int .i64 a0_2) := (blk_cell BK101.out 2).trans rfl
          have hfz20_0 := blk_frozen BK101.out 0
          have hfz20_1 := blk_frozen BK101.out 1
          have hfz20_2 := blk_frozen BK101.out 2
          go_wp2
          go_ret
          exact ⟨by (rfl), by repeat ((with_reducible (exact HB.out)))⟩
         ·rw [if_neg c19] at H
          have c19b0 : decide (0 < a0_2) = false := decide_eq_false c19
          clear c19
          obtain rfl := Option.some.inj H
          have hcz21_0 : wc.cell? ⟨gb101, 0, none⟩ = some (.int .i64 a0_0) := (blk_cell BK101.out 0).trans rfl
          have hcz21_1 : wc.cell? ⟨gb101, 1, none⟩ = some (.string a0_1) := (blk_cell BK101.out 1).trans rfl
          have hcz21_2 : wc.cell? ⟨gb101, 2, none⟩ = some (.int .i64 a0_2) := (blk_cell BK101.out 2).trans rfl
          have hfz21_0 := blk_frozen BK101.out 0
          have hfz21_1 := blk_frozen BK101.out 1
          have hfz21_2 := blk_frozen BK101.out 2
          go_wp2
          go_ret
          exact ⟨by (rfl), by repeat ((with_reducible (exact HB.out)))⟩
        ·rw [if_neg c18] at H
         have c18b0 : (a0_1.toList == ([] : List UInt8)) = false := beq_eq_false_iff_ne.mpr c18
         have c18b1 : (a0_1.toList != ([] : List UInt8)) = true := bne_iff_ne.mpr c18
         obtain rfl := Option.some.inj H
         have hcz22_0 : wc.cell? ⟨gb101, 0, none⟩ = some (.int .i64 a0_0) := (blk_cell BK101.out 0).trans rfl
         have hcz22_1 : wc.cell? ⟨gb101, 1, none⟩ = some (.string a0_1) := (blk_cell BK101.out 1).trans rfl
         have hcz22_2 : wc.cell? ⟨gb101, 2, none⟩ = some (.int .i64 a0_2) := (blk_cell BK101.out 2).trans rfl
         have hfz22_0 := blk_frozen BK101.out 0
         have hfz22_1 := blk_frozen BK101.out 1
         have hfz22_2 := blk_frozen BK101.out 2
         go_wp2
         go_ret
         exact ⟨by (rfl), by repeat ((with_reducible (exact HB.out)))⟩
       ·rw [if_neg c17] at H
        have c17b0 : (a0_0 == 0) = false := beq_eq_false_iff_ne.mpr c17
        have c17b1 : (a0_0 != 0) = true := bne_iff_ne.mpr c17
        obtain rfl := Option.some.inj H
        have hcz23_0 : wc.cell? ⟨gb101, 0, none⟩ = some (.int .i64 a0_0) := (blk_cell BK101.out 0).trans rfl
        have hcz23_1 : wc.cell? ⟨gb101, 1, none⟩ = some (.string a0_1) := (blk_cell BK101.out 1).trans rfl
        have hcz23_2 : wc.cell? ⟨gb101, 2, none⟩ = some (.int .i64 a0_2) := (blk_cell BK101.out 2).trans rfl
        have hfz23_0 := blk_frozen BK101.out 0
        have hfz23_1 := blk_frozen BK101.out 1
        have hfz23_2 := blk_frozen BK101.out 2
        go_wp2
        go_ret
        exact ⟨by (rfl), by repeat ((with_reducible (exact HB.out)))⟩
end Go.Proofs.Ytjbnffadfohofaa.P
end
-- MERGED YtjbnffadfohofaaPvariorumref06sums
section
namespace Go.Proofs.Ytjbnffadfohofaa.P
open Go.RowKit Go.Proofs.YtjbnffadfohofaaW.PrintWords Go.Proofs.YtjbnffadfohofaaW.PrintLast Go.Proofs.YtjbnffadfohofaaW.PrintMore
attribute [local go_sem] max2_int min2_int max_two min_two max_three min_three max_four min_four   -- for this text's walks alone
set_option linter.unusedVariables false
set_option linter.unusedSimpArgs false
def variorumref06_sums.l0 : Nat → List (S49) → Int → Int → Int → Option (Int × Int × Bool)
 | 0, _, _, _, _ => none
 | k + 1, x0, x5, x6, x7 => if x7 < (x0.length : Int) then (if 0 ≤ x7 then (if ((rd_T49 x0 x7).f0) > (wrap64 (16777216 - x5)) then (some (0, 0, false)) else (if ((rd_T49 x0 x7).f2) > (wrap64 (16777216 - x5)) then (some (0, 0, false)) else (if ((rd_T49 x0 x7).f0) > (wrap64 (16777216 - x6)) then (some (0, 0, false)) else (if (((rd_T49 x0 x7).f1).size : Int) > (wrap64 (16777216 - x6)) then (some (0, 0, false)) else (variorumref06_sums.l0 k x0 (wrap64 ((wrap64 (x5 + ((rd_T49 x0 x7).f0))) + ((rd_T49 x0 x7).f2))) (wrap64 ((wrap64 (x6 + ((rd_T49 x0 x7).f0))) + (((rd_T49 x0 x7).f1).size : Int))) (wrap64 (x7 + 1))))))) else (none)) else (some (x5, x6, true))
def variorumref06_sums.f (k : Nat) (l0 : List (S49)) : Option (Int × Int × Bool) := variorumref06_sums.l0 k l0 0 0 0
set_option maxHeartbeats 8000000 in
set_option maxRecDepth 100000 in
theorem variorumref06_sums.calls (k : Nat) (A0 : Option Addr) (c0 : Nat) (l0 : List (S49)) (r1 : Int) (r2 : Int) (r3 : Bool) (w : World) (hr0 : Kd.C k49 w A0 l0.length l0) (hc0 : l0.length ≤ c0) (h : variorumref06_sums.f k l0 = some (r1, r2, r3)) :
  Calls Try.prog 28 #[.slice A0 l0.length c0] w fun e w' => e = .returned (.tuple #[.int .i64 r1, .int .i64 r2, .bool r3]) ∧ Below w.heap.size w w' := by
 have hu49 := Try.underlying49
 have HR0 := Aside0.mk hr0
 have HC0 := Aside0.mk hc0
 clear hr0 hc0
 have HB := Aside0.mk (Below.refl w.heap.size w)
 have H : (variorumref06_sums.l0 k l0 0 0 0) = some (r1, r2, r3) := h
 clear h
 have H' := Aside0.mk H
 clear H
 go_enter Try.func28, Try.ntmps28
 go_wp2
 go_loopg [5, 6, 7] k (fun kq v5 v6 v7 w' => ∃ (x5_1 : Int) (x6_1 : Int) (x7_1 : Int), v5 = .int .i64 x5_1 ∧ v6 = .int .i64 x6_1 ∧ v7 = .int .i64 x7_1 ∧ Aside0 (variorumref06_sums.l0 kq l0 x5_1 x6_1 x7_1 = some (r1, r2, r3)) ∧ Aside0 (kq ≤ k) ∧ Aside0 (Below w.heap.size w w'))
 case atStart => exact ⟨(0), (0), (0), (by (rfl)), (by (rfl)), (by (rfl)), H', ⟨Nat.le_refl _⟩, ⟨by repeat ((with_reducible (exact HB.out)))⟩⟩
 case round =>
  clear H'
  obtain ⟨x5_1, x6_1, x7_1, rfl, rfl, rfl, HA, HK1, HB⟩ := hrel
  cases gk with
  | zero => exact absurd HA.out (by simp [variorumref06_sums.l0])
  | succ k1 =>
   have H := HA.out
   clear HA
   simp only [variorumref06_sums.l0] at H
   by_cases c2 : x7_1 < (l0.length : Int)
   ·rw [if_pos c2] at H
    have c2b0 : decide (x7_1 < (l0.length : Int)) = true := decide_eq_true c2
    clear c2
    by_cases c3 : 0 ≤ x7_1
    ·rw [if_pos c3] at H
     have c3b0 : decide (0 ≤ x7_1) = true := decide_eq_true c3
     clear c3
     by_cases c4 : ((rd_T49 l0 x7_1).f0) > (wrap64 (16777216 - x5_1))
     ·rw [if_pos c4] at H
      have c4b0 : decide ((wrap64 (16777216 - x5_1)) < ((rd_T49 l0 x7_1).f0)) = true := decide_eq_true c4
      clear c4
      simp only [Option.some.injEq, Prod.mk.injEq] at H
      obtain ⟨rfl, rfl, rfl⟩ := H
      have p102 : 0 ≤ (x7_1 : Int) := of_decide_eq_true (by (with_reducible assumption))
      have q102 : x7_1 < (l0.length : Int) := of_decide_eq_true (by (with_reducible assumption))
      obtain ⟨ad102, e102, hx102_0, hx102_1, hx102_2⟩ := at_T49 HR0.out x7_1 p102 q102
      cases e102
      replace hx102_0 := (HB.out.cell (World.block_lt_of_cell? w _ hx102_0)).trans hx102_0
      replace hx102_1 := (HB.out.cell (World.block_lt_of_cell? w _ hx102_1)).trans hx102_1
      replace hx102_2 := (HB.out.cell (World.block_lt_of_cell? w _ hx102_2)).trans hx102_2
      replace p102 := eq_true p102
      replace q102 := eq_true q102
      go_wp2_with (first | ((with_reducible refine gate_dst (N := 8) rfl ?_); (try (refine gate_guard (by rfl) ?_; dsimp only)); refine box_event ?hg (N := 8) ?hd (cs := #[.int .i64 0, .string (⟨#[]⟩ : ByteArray), .int .i64 0]) (t := 49) ?hr ?_; (case hd => rfl); (case hg => rfl); (case hr => (go_simp; done)); intro gb103 hg w5 hbox hb; have n0_ := Aside0.mk (below_step (by repeat ((with_reducible (exact HB.out)))) hb); have n1_ := Aside0.mk (hbox); have n2_ := Aside0.mk ((by rw [hg]; exact (below_size (by repeat ((with_reducible (exact HB.out))))) : w.heap.size ≤ gb103)); have n3_ := Aside0.mk ((by rw [hg]; exact (below_size (by repeat ((with_reducible (exact HB.out))))) : w.heap.size ≤ gb103)); clear HB; have HB := n0_; have BK103 := n1_; have GW103 := n2_; have GE103 := n3_; clear n0_ n1_ n2_ n3_; clear hb hbox hg; have hcz6_0 : w5.cell? ⟨gb103, 0, none⟩ = some (.int .i64 0) := (blk_cell BK103.out 0).trans rfl; have hcz6_1 : w5.cell? ⟨gb103, 1, none⟩ = some (.string (⟨#[]⟩ : ByteArray)) := (blk_cell BK103.out 1).trans rfl; have hcz6_2 : w5.cell? ⟨gb103, 2, none⟩ = some (.int .i64 0) := (blk_cell BK103.out 2).trans rfl; have hfz6_0 := blk_frozen BK103.out 0; have hfz6_1 := blk_frozen BK103.out 1; have hfz6_2 := blk_frozen BK103.out 2))
      go_ret3
      exact ⟨by (rfl), by repeat ((with_reducible first | exact HB.out | refine below_set ?_ GE103.out))⟩
     ·rw [if_neg c4] at H
      have c4b0 : decide ((wrap64 (16777216 - x5_1)) < ((rd_T49 l0 x7_1).f0)) = false := decide_eq_false c4
      clear c4
      by_cases c7 : ((rd_T49 l0 x7_1).f2) > (wrap64 (16777216 - x5_1))
      ·rw [if_pos c7] at H
       have c7b0 : decide ((wrap64 (16777216 - x5_1)) < ((rd_T49 l0 x7_1).f2)) = true := decide_eq_true c7
       clear c7
       simp only [Option.some.injEq, Prod.mk.injEq] at H
       obtain ⟨rfl, rfl, rfl⟩ := H
       have p102 : 0 ≤ (x7_1 : Int) := of_decide_eq_true (by (with_reducible assumption))
       have q102 : x7_1 < (l0.length : Int) := of_decide_eq_true (by (with_reducible assumption))
       obtain ⟨ad102, e102, hx102_0, hx102_1, hx102_2⟩ := at_T49 HR0.out x7_1 p102 q102
       cases e102
       replace hx102_0 := (HB.out.cell (World.block_lt_of_cell? w _ hx102_0)).trans hx102_0
       replace hx102_1 := (HB.out.cell (World.block_lt_of_cell? w _ hx102_1)).trans hx102_1
       replace hx102_2 := (HB.out.cell (World.block_lt_of_cell? w _ hx102_2)).trans hx102_2
       replace p102 := eq_true p102
       replace q102 := eq_true q102
       go_wp2_with (first | ((with_reducible refine gate_dst (N := 8) rfl ?_); (try (refine gate_guard (by rfl) ?_; dsimp only)); refine box_event ?hg (N := 8) ?hd (cs := #[.int .i64 0, .string (⟨#[]⟩ : ByteArray), .int .i64 0]) (t := 49) ?hr ?_; (case hd => rfl); (case hg => rfl); (case hr => (go_simp; done)); intro gb103 hg w8 hbox hb; have n0_ := Aside0.mk (below_step (by repeat ((with_reducible (exact HB.out)))) hb); have n1_ := Aside0.mk (hbox); have n2_ := Aside0.mk ((by rw [hg]; exact (below_size (by repeat ((with_reducible (exact HB.out))))) : w.heap.size ≤ gb103)); have n3_ := Aside0.mk ((by rw [hg]; exact (below_size (by repeat ((with_reducible (exact HB.out))))) : w.heap.size ≤ gb103)); clear HB; have HB := n0_; have BK103 := n1_; have GW103 := n2_; have GE103 := n3_; clear n0_ n1_ n2_ n3_; clear hb hbox hg; have hcz9_0 : w8.cell? ⟨gb103, 0, none⟩ = some (.int .i64 0) := (blk_cell BK103.out 0).trans rfl; have hcz9_1 : w8.cell? ⟨gb103, 1, none⟩ = some (.string (⟨#[]⟩ : ByteArray)) := (blk_cell BK103.out 1).trans rfl; have hcz9_2 : w8.cell? ⟨gb103, 2, none⟩ = some (.int .i64 0) := (blk_cell BK103.out 2).trans rfl; have hfz9_0 := blk_frozen BK103.out 0; have hfz9_1 := blk_frozen BK103.out 1; have hfz9_2 := blk_frozen BK103.out 2))
       go_ret3
       exact ⟨by (rfl), by repeat ((with_reducible first | exact HB.out | refine below_set ?_ GE103.out))⟩
      ·rw [if_neg c7] at H
       have c7b0 : decide ((wrap64 (16777216 - x5_1)) < ((rd_T49 l0 x7_1).f2)) = false := decide_eq_false c7
       clear c7
       by_cases c10 : ((rd_T49 l0 x7_1).f0) > (wrap64 (16777216 - x6_1))
       ·rw [if_pos c10] at H
        have c10b0 : decide ((wrap64 (16777216 - x6_1)) < ((rd_T49 l0 x7_1).f0)) = true := decide_eq_true c10
        clear c10
        simp only [Option.some.injEq, Prod.mk.injEq] at H
        obtain ⟨rfl, rfl, rfl⟩ := H
        have p102 : 0 ≤ (x7_1 : Int) := of_decide_eq_true (by (with_reducible assumption))
        have q102 : x7_1 < (l0.length : Int) := of_decide_eq_true (by (with_reducible assumption))
        obtain ⟨ad102, e102, hx102_0, hx102_1, hx102_2⟩ := at_T49 HR0.out x7_1 p102 q102
        cases e102
        replace hx102_0 := (HB.out.cell (World.block_lt_of_cell? w _ hx102_0)).trans hx102_0
        replace hx102_1 := (HB.out.cell (World.block_lt_of_cell? w _ hx102_1)).trans hx102_1
        replace hx102_2 := (HB.out.cell (World.block_lt_of_cell? w _ hx102_2)).trans hx102_2
        replace p102 := eq_true p102
        replace q102 := eq_true q102
        go_wp2_with (first | ((with_reducible refine gate_dst (N := 8) rfl ?_); (try (refine gate_guard (by rfl) ?_; dsimp only)); refine box_event ?hg (N := 8) ?hd (cs := #[.int .i64 0, .string (⟨#[]⟩ : ByteArray), .int .i64 0]) (t := 49) ?hr ?_; (case hd => rfl); (case hg => rfl); (case hr => (go_simp; done)); intro gb103 hg w11 hbox hb; have n0_ := Aside0.mk (below_step (by repeat ((with_reducible (exact HB.out)))) hb); have n1_ := Aside0.mk (hbox); have n2_ := Aside0.mk ((by rw [hg]; exact (below_size (by repeat ((with_reducible (exact HB.out))))) : w.heap.size ≤ gb103)); have n3_ := Aside0.mk ((by rw [hg]; exact (below_size (by repeat ((with_reducible (exact HB.out))))) : w.heap.size ≤ gb103)); clear HB; have HB := n0_; have BK103 := n1_; have GW103 := n2_; have GE103 := n3_; clear n0_ n1_ n2_ n3_; clear hb hbox hg; have hcz12_0 : w11.cell? ⟨gb103, 0, none⟩ = some (.int .i64 0) := (blk_cell BK103.out 0).trans rfl; have hcz12_1 : w11.cell? ⟨gb103, 1, none⟩ = some (.string (⟨#[]⟩ : ByteArray)) := (blk_cell BK103.out 1).trans rfl; have hcz12_2 : w11.cell? ⟨gb103, 2, none⟩ = some (.int .i64 0) := (blk_cell BK103.out 2).trans rfl; have hfz12_0 := blk_frozen BK103.out 0; have hfz12_1 := blk_frozen BK103.out 1; have hfz12_2 := blk_frozen BK103.out 2))
        go_ret3
        exact ⟨by (rfl), by repeat ((with_reducible first | exact HB.out | refine below_set ?_ GE103.out))⟩
       ·rw [if_neg c10] at H
        have c10b0 : decide ((wrap64 (16777216 - x6_1)) < ((rd_T49 l0 x7_1).f0)) = false := decide_eq_false c10
        clear c10
        by_cases c13 : (((rd_T49 l0 x7_1).f1).size : Int) > (wrap64 (16777216 - x6_1))
        ·rw [if_pos c13] at H
         have c13b0 : decide ((wrap64 (16777216 - x6_1)) < (((rd_T49 l0 x7_1).f1).size : Int)) = true := decide_eq_true c13
         clear c13
         simp only [Option.some.injEq, Prod.mk.injEq] at H
         obtain ⟨rfl, rfl, rfl⟩ := H
         have p102 : 0 ≤ (x7_1 : Int) := of_decide_eq_true (by (with_reducible assumption))
         have q102 : x7_1 < (l0.length : Int) := of_decide_eq_true (by (with_reducible assumption))
         obtain ⟨ad102, e102, hx102_0, hx102_1, hx102_2⟩ := at_T49 HR0.out x7_1 p102 q102
         cases e102
         replace hx102_0 := (HB.out.cell (World.block_lt_of_cell? w _ hx102_0)).trans hx102_0
         replace hx102_1 := (HB.out.cell (World.block_lt_of_cell? w _ hx102_1)).trans hx102_1
         replace hx102_2 := (HB.out.cell (World.block_lt_of_cell? w _ hx102_2)).trans hx102_2
         replace p102 := eq_true p102
         replace q102 := eq_true q102
         go_wp2_with (first | ((with_reducible refine gate_dst (N := 8) rfl ?_); (try (refine gate_guard (by rfl) ?_; dsimp only)); refine box_event ?hg (N := 8) ?hd (cs := #[.int .i64 0, .string (⟨#[]⟩ : ByteArray), .int .i64 0]) (t := 49) ?hr ?_; (case hd => rfl); (case hg => rfl); (case hr => (go_simp; done)); intro gb103 hg w14 hbox hb; have n0_ := Aside0.mk (below_step (by repeat ((with_reducible (exact HB.out)))) hb); have n1_ := Aside0.mk (hbox); have n2_ := Aside0.mk ((by rw [hg]; exact (below_size (by repeat ((with_reducible (exact HB.out))))) : w.heap.size ≤ gb103)); have n3_ := Aside0.mk ((by rw [hg]; exact (below_size (by repeat ((with_reducible (exact HB.out))))) : w.heap.size ≤ gb103)); clear HB; have HB := n0_; have BK103 := n1_; have GW103 := n2_; have GE103 := n3_; clear n0_ n1_ n2_ n3_; clear hb hbox hg; have hcz15_0 : w14.cell? ⟨gb103, 0, none⟩ = some (.int .i64 0) := (blk_cell BK103.out 0).trans rfl; have hcz15_1 : w14.cell? ⟨gb103, 1, none⟩ = some (.string (⟨#[]⟩ : ByteArray)) := (blk_cell BK103.out 1).trans rfl; have hcz15_2 : w14.cell? ⟨gb103, 2, none⟩ = some (.int .i64 0) := (blk_cell BK103.out 2).trans rfl; have hfz15_0 := blk_frozen BK103.out 0; have hfz15_1 := blk_frozen BK103.out 1; have hfz15_2 := blk_frozen BK103.out 2))
         go_ret3
         exact ⟨by (rfl), by repeat ((with_reducible first | exact HB.out | refine below_set ?_ GE103.out))⟩
        ·rw [if_neg c13] at H
         have c13b0 : decide ((wrap64 (16777216 - x6_1)) < (((rd_T49 l0 x7_1).f1).size : Int)) = false := decide_eq_false c13
         clear c13
         have H' := Aside0.mk H
         clear H
         have p102 : 0 ≤ (x7_1 : Int) := of_decide_eq_true (by (with_reducible assumption))
         have q102 : x7_1 < (l0.length : Int) := of_decide_eq_true (by (with_reducible assumption))
         obtain ⟨ad102, e102, hx102_0, hx102_1, hx102_2⟩ := at_T49 HR0.out x7_1 p102 q102
         cases e102
         replace hx102_0 := (HB.out.cell (World.block_lt_of_cell? w _ hx102_0)).trans hx102_0
         replace hx102_1 := (HB.out.cell (World.block_lt_of_cell? w _ hx102_1)).trans hx102_1
         replace hx102_2 := (HB.out.cell (World.block_lt_of_cell? w _ hx102_2)).trans hx102_2
         replace p102 := eq_true p102
         replace q102 := eq_true q102
         go_wp2_with (first | ((with_reducible refine gate_dst (N := 8) rfl ?_); (try (refine gate_guard (by rfl) ?_; dsimp only)); refine box_event ?hg (N := 8) ?hd (cs := #[.int .i64 0, .string (⟨#[]⟩ : ByteArray), .int .i64 0]) (t := 49) ?hr ?_; (case hd => rfl); (case hg => rfl); (case hr => (go_simp; done)); intro gb103 hg w16 hbox hb; have n0_ := Aside0.mk (below_step (by repeat ((with_reducible (exact HB.out)))) hb); have n1_ := Aside0.mk (hbox); have n2_ := Aside0.mk ((by rw [hg]; exact (below_size (by repeat ((with_reducible (exact HB.out))))) : w.heap.size ≤ gb103)); have n3_ := Aside0.mk ((by rw [hg]; exact (below_size (by repeat ((with_reducible (exact HB.out))))) : w.heap.size ≤ gb103)); clear HB; have HB := n0_; have BK103 := n1_; have GW103 := n2_; have GE103 := n3_; clear n0_ n1_ n2_ n3_; clear hb hbox hg; have hcz17_0 : w16.cell? ⟨gb103, 0, none⟩ = some (.int .i64 0) := (blk_cell BK103.out 0).trans rfl; have hcz17_1 : w16.cell? ⟨gb103, 1, none⟩ = some (.string (⟨#[]⟩ : ByteArray)) := (blk_cell BK103.out 1).trans rfl; have hcz17_2 : w16.cell? ⟨gb103, 2, none⟩ = some (.int .i64 0) := (blk_cell BK103.out 2).trans rfl; have hfz17_0 := blk_frozen BK103.out 0; have hfz17_1 := blk_frozen BK103.out 1; have hfz17_2 := blk_frozen BK103.out 2))
         go_roundg k1
         case measure => have := HK1.out; omega
         case rel => exact ⟨(wrap64 ((wrap64 (x5_1 + ((rd_T49 l0 x7_1).f0))) + ((rd_T49 l0 x7_1).f2))), (wrap64 ((wrap64 (x6_1 + ((rd_T49 l0 x7_1).f0))) + (((rd_T49 l0 x7_1).f1).size : Int))), (wrap64 (x7_1 + 1)), (by (rfl)), (by (rfl)), (by (rfl)), H', ⟨by have := HK1.out; omega⟩, ⟨by repeat ((with_reducible first | exact HB.out | refine below_set ?_ GE103.out))⟩⟩
    ·rw [if_neg c3] at H
     exact absurd H (by simp)
   ·rw [if_neg c2] at H
    have c2b0 : decide (x7_1 < (l0.length : Int)) = false := decide_eq_false c2
    clear c2
    simp only [Option.some.injEq, Prod.mk.injEq] at H
    obtain ⟨rfl, rfl, rfl⟩ := H
    go_wp2
    go_ret3
    exact ⟨by (rfl), by repeat ((with_reducible (exact HB.out)))⟩
end Go.Proofs.Ytjbnffadfohofaa.P
end
-- MERGED YtjbnffadfohofaaEditK
section
namespace Go.Proofs.Ytjbnffadfohofaa.EditK
open Go.RowKit Go.Proofs.Ytjbnffadfohofaa.P Go.Proofs.YtjbnffadfohofaaW.PrintWords Go.Proofs.YtjbnffadfohofaaW.PrintLast Go.Proofs.YtjbnffadfohofaaW.PrintMore Go.Proofs.Ytjbnffadfohofaa.EditL
set_option linter.unusedSimpArgs false
set_option linter.unusedVariables false
theorem w64 {x : Int} (h1 : -9223372036854775808 ≤ x) (h2 : x ≤ 9223372036854775807) : wrap64 x = x := by unfold wrap64; omega
theorem tl_nil {s : ByteArray} : (s.toList = ([] : List UInt8)) ↔ s.size = 0 := by
 rw [ByteArray.toList_eq]
 constructor
 ·intro h
  show s.data.size = 0
  rw [← Array.length_toList, h]; rfl
 ·intro h
  have : s.data.toList.length = 0 := by rw [Array.length_toList]; exact h
  exact List.eq_nil_of_length_eq_zero this
theorem tl_beq {s : ByteArray} : (s.toList == ([] : List UInt8)) = decide (s.size = 0) := by
 rw [Bool.eq_iff_iff]
 simp only [beq_iff_eq, decide_eq_true_eq]
 exact tl_nil
theorem rd_at {l pre suf : List Rn} {r : Rn} (h : l = pre ++ r :: suf) : rd_T49 l (pre.length : Int) = r := by
 unfold rd_T49
 rw [Int.toNat_natCast, h]
 simp [List.getD_eq_getElem?_getD]
theorem snoc {l pre suf : List Rn} {r : Rn} (h : l = pre ++ r :: suf) : l = (pre ++ [r]) ++ suf ∧ ((pre ++ [r]).length : Int) = (pre.length : Int) + 1 ∧ (pre.length : Int) < (l.length : Int) := by
 subst h
 simp
 omega
theorem rkind_f (r : Rn) (k : Nat) : variorumref06_Kind.f (k + 2) r.f0 r.f1 r.f2 = some (knd r) := by
 unfold variorumref06_Kind.f knd
 simp only [variorumref06_Kind.j0, variorumref06_Kind.j1, tl_nil]
 generalize r.f1.size = n
 generalize r.f0 = a
 generalize r.f2 = d
 by_cases c0 : 0 < a <;> by_cases c1 : n = 0 <;> by_cases c2 : d = 0 <;> by_cases c3 : a = 0 <;> by_cases c4 : 0 < d <;> simp [c0, c1, c2, c3, c4] <;> omega
theorem rkind_c (r : Rn) (w : World) : Calls Try.prog 27 #[.agg #[.int .i64 r.f0, .string r.f1, .int .i64 r.f2]] w fun e w' => e = .returned (.int .i64 (knd r)) ∧ Below w.heap.size w w' :=
 variorumref06_Kind.calls 2 _ _ _ _ w (rkind_f r 0)
theorem rsums_l (l0 : List Rn) (hb : l0.length ≤ 140737488351232) : ∀ (suf pre : List Rn) (k : Nat) (i o : Int), l0 = pre ++ suf → suf.length < k → (∀ r ∈ suf, knd r ≠ 0) → 0 ≤ i → i ≤ 16777216 → 0 ≤ o → o ≤ 16777216 →
  variorumref06_sums.l0 k l0 i o (pre.length : Int) = some (cond (fits suf i o) (i + inL suf, o + outL suf, true) (0, 0, false)) := by
 intro suf
 induction suf with
 | nil =>
  intro pre k i o hl hk _ _ _ _ _
  obtain ⟨k, rfl⟩ : ∃ m, k = m + 1 := ⟨k - 1, by simp at hk; omega⟩
  have : l0.length = pre.length := by rw [hl]; simp
  simp only [variorumref06_sums.l0]
  rw [if_neg (by omega)]
  simp [fits, inL, outL]
 | cons r suf ih =>
  intro pre k i o hl hk hok hi0 hi ho0 ho
  obtain ⟨k, rfl⟩ : ∃ m, k = m + 1 := ⟨k - 1, by simp at hk; omega⟩
  obtain ⟨hl2, hn, hlt⟩ := snoc hl
  have hr := knd_cases r
  have h0 := hok r List.mem_cons_self
  have hp := knd_pos h0
  simp only [variorumref06_sums.l0]
  rw [if_pos hlt, if_pos (by omega), rd_at hl, w64 (x := 16777216 - i) (by omega) (by omega), w64 (x := 16777216 - o) (by omega) (by omega)]
  simp only [fits, inL, outL]
  by_cases c1 : r.f0 ≤ 16777216 - i
  ·rw [if_neg (by omega), decide_eq_true c1]
   by_cases c2 : r.f2 ≤ 16777216 - i
   ·rw [if_neg (by omega), decide_eq_true c2]
    by_cases c3 : r.f0 ≤ 16777216 - o
    ·rw [if_neg (by omega), decide_eq_true c3]
     by_cases c4 : (r.f1.size : Int) ≤ 16777216 - o
     ·rw [if_neg (by omega), decide_eq_true c4, Bool.true_and, Bool.true_and, Bool.true_and, Bool.true_and,
       w64 (x := i + r.f0) (by omega) (by omega), w64 (x := i + r.f0 + r.f2) (by omega) (by omega), w64 (x := o + r.f0) (by omega) (by omega), w64 (x := o + r.f0 + (r.f1.size : Int)) (by omega) (by omega), w64 (x := (pre.length : Int) + 1) (by omega) (by omega), ← hn,
       show i + r.f0 + r.f2 = i + (r.f0 + r.f2) by omega, show o + r.f0 + (r.f1.size : Int) = o + (r.f0 + (r.f1.size : Int)) by omega]
      rw [ih (pre ++ [r]) k _ _ hl2 (by simp at hk; omega) (fun x hx => hok x (List.mem_cons_of_mem _ hx)) (by omega) (by rcases hr with h | h | h | h <;> omega) (by omega) (by rcases hr with h | h | h | h <;> omega)]
      cases fits suf (i + (r.f0 + r.f2)) (o + (r.f0 + (r.f1.size : Int))) with
      | false => rfl
      | true => simp only [cond_true, Option.some.injEq, Prod.mk.injEq, and_true]; omega
     ·rw [if_pos (by omega), decide_eq_false c4]; rfl
    ·rw [if_pos (by omega), decide_eq_false c3]; rfl
   ·rw [if_pos (by omega), decide_eq_false c2]; rfl
  ·rw [if_pos (by omega), decide_eq_false c1]; rfl
theorem rsums_f {l : List Rn} (hb : l.length ≤ 140737488351232) (hok : ∀ r ∈ l, knd r ≠ 0) (k : Nat) (hk : l.length < k) : variorumref06_sums.f k l = some (cond (fits l 0 0) (inL l, outL l, true) (0, 0, false)) := by
 unfold variorumref06_sums.f
 have := rsums_l l hb l [] k 0 0 rfl hk hok (by omega) (by omega) (by omega) (by omega)
 simp only [Int.zero_add] at this
 exact this
def prev (l : List Rn) (j : Nat) : Int := if j = 0 then 0 else knd (l.getD (j - 1) z49)
theorem drop_get {l : List Rn} {j : Nat} (h : j < l.length) : l.drop j = l.getD j z49 :: l.drop (j + 1) := by
 rw [List.drop_eq_getElem_cons h, List.getD_eq_getElem?_getD, List.getElem?_eq_getElem h]; rfl
theorem ord_step {l : List Rn} {j : Nat} (h : j < l.length) : ord (l.drop j) (prev l j) = ((decide (knd (l.getD j z49) ≠ 0) && decide (knd (l.getD j z49) ≠ prev l j) && decide (¬ (prev l j = 3 ∧ knd (l.getD j z49) = 2))) && ord (l.drop (j + 1)) (prev l (j + 1))) := by
 rw [drop_get h]
 show _ = _
 simp only [ord]
 rw [show prev l (j + 1) = knd (l.getD j z49) from by unfold prev; rw [if_neg (by omega), Nat.add_sub_cancel]]
theorem at_nat {w : World} {A : Option Addr} {n : Nat} {xs : List Rn} (h : Kd.C k49 w A n xs) (j : Nat) (h1 : j < n) : ∃ ad , A = some ad ∧ w.cell? (ad.add (j * 3)) = some (.int .i64 (xs.getD j z49).f0) ∧ w.cell? ⟨(ad.add (j * 3)).block, (ad.add (j * 3)).off + 1, none⟩ = some (.string (xs.getD j z49).f1) ∧ w.cell? ⟨(ad.add (j * 3)).block, (ad.add (j * 3)).off + 2, none⟩ = some (.int .i64 (xs.getD j z49).f2) := by
 have := at_T49 h (j : Int) (by omega) (by omega)
 unfold rd_T49 at this
 rwa [Int.toNat_natCast] at this
set_option maxHeartbeats 4000000 in
set_option maxRecDepth 100000 in
theorem good_c (A0 : Option Addr) (c0 : Nat) (l0 : List Rn) (w : World) (hr0 : Kd.C k49 w A0 l0.length l0) (hc0 : l0.length ≤ c0) (hl : l0.length ≤ 140737488351232) :
  Calls Try.prog 14 #[.slice A0 l0.length c0] w fun e w' => e = .returned (.bool (good l0)) ∧ Below w.heap.size w w' := by
 have HR := Aside0.mk hr0
 have HC := Aside0.mk hc0
 have HG := Aside0.mk (show good l0 = ((ord l0 0 && decide (l0.length ≤ 65536)) && fits l0 0 0) from rfl)
 clear hr0 hc0
 by_cases h1 : l0.length ≤ 65536
 ·have h1' : (l0.length : Int) ≤ 65536 := by omega
  have HG1 := Aside0.mk (show good l0 = (ord l0 0 && fits l0 0 0) by rw [HG.out, decide_eq_true h1, Bool.and_true])
  have HL := Aside0.mk h1
  clear HG hl h1
  go_enter Try.func14, Try.ntmps14
  go_wp2_with fail
  go_loopw [3] (fun iv wr => ∃ j : Nat, j ≤ l0.length ∧ iv = .int .i64 (j : Int) ∧ ord (l0.drop j) (prev l0 j) = ord l0 0 ∧ Below w.heap.size w wr) (fun iv _ => l0.length - (intOf iv).toNat)
  case atStart => exact ⟨0, Nat.zero_le _, rfl, rfl, Below.refl _ _⟩
  case round =>
   obtain ⟨j, hj, rfl, ho, hb⟩ := hrel
   have HB := Aside0.mk hb
   have HO := Aside0.mk ho
   clear hb ho
   by_cases hlt : j < l0.length
   ·have hs := ord_step hlt
    obtain ⟨ad, rfl, x0, x1, x2⟩ := at_nat (Kd.C_below HR.out HB.out) j hlt
    obtain ⟨r, hr⟩ : ∃ r, r = l0.getD j z49 := ⟨_, rfl⟩
    rw [← hr] at x0 x1 x2 hs
    have HRR := Aside0.mk hr
    have HSS := Aside0.mk hs
    have hlt' : (j : Int) < (l0.length : Int) := by omega
    clear hr hs
    go_wp2_with fail
    refine (rkind_c r _).mono ?_
    rintro e w1 ⟨rfl, hb⟩
    have HB1 := Aside0.mk (HB.out.trans (hb.mono HB.out.size))
    obtain ⟨t, ht⟩ : ∃ t, t = knd r := ⟨_, rfl⟩
    rw [← ht] at HSS ⊢
    have HT := Aside0.mk ht
    clear hb ht x0 x1 x2
    by_cases c1 : t = 0
    ·subst c1
     have HF := Aside0.mk (show good l0 = false by rw [HG1.out, ← HO.out, HSS.out]; simp)
     go_wp2_with fail
     go_ret
     exact ⟨by rw [HF.out]; rfl, HB1.out⟩
    ·have c1b : (t == 0) = false := by simpa using c1
     have c1c : (t != 0) = true := by simpa using c1
     by_cases hj0 : j = 0
     ·subst hj0
      have HN := Aside0.mk (show ord (l0.drop 1) (prev l0 1) = ord l0 0 by
       rw [← HO.out, HSS.out, show prev l0 0 = 0 from rfl, decide_eq_true (show t ≠ 0 from c1), decide_eq_true (show ¬ ((0 : Int) = 3 ∧ t = 2) by omega)]; rfl)
      clear c1
      go_wp2_with fail
      go_roundw
      case rel => exact ⟨1, by omega, rfl, HN.out, HB1.out⟩
      case measure => simp [intOf]; omega
     ·have hj1 : 0 < j := by omega
      have hj2 : (0 : Int) < (j : Int) := by omega
      obtain ⟨ad', e', y0, y1, y2⟩ := at_nat (Kd.C_below HR.out HB1.out) (j - 1) (by omega)
      cases e'
      have hjn : ((j : Int) - 1).toNat = j - 1 := by omega
      obtain ⟨q, hq⟩ : ∃ q, q = l0.getD (j - 1) z49 := ⟨_, rfl⟩
      rw [← hq] at y0 y1 y2
      have HP := Aside0.mk (show prev l0 j = knd q by rw [hq]; unfold prev; rw [if_neg hj0])
      obtain ⟨u, hu⟩ : ∃ u, u = knd q := ⟨_, rfl⟩
      have HU := Aside0.mk hu
      have HQ := Aside0.mk hq
      rw [← hu] at HP
      clear hq hu hj0
      have hKQ := rkind_c q
      rw [← HU.out] at hKQ
      have HKQ := Aside0.mk hKQ
      clear hKQ
      by_cases c2 : u = t
      ·subst c2
       have HF := Aside0.mk (show good l0 = false by rw [HG1.out, ← HO.out, HSS.out, HP.out]; simp)
       clear c1
       go_wp2_with fail
       refine (HKQ.out _).mono ?_
       rintro e w2 ⟨rfl, hb⟩
       have HB2 := Aside0.mk (HB1.out.trans (hb.mono HB1.out.size))
       clear hb y0 y1 y2
       go_wp2_with fail
       go_ret
       exact ⟨by rw [HF.out]; rfl, HB2.out⟩
      ·have c2b : (u == t) = false := by simpa using c2
       have c2c : (u != t) = true := by simpa using c2
       have hy : ∀ w2, Below w.heap.size w w2 → w2.cell? (ad.add ((j - 1) * 3)) = some (.int .i64 q.f0) ∧ w2.cell? ⟨(ad.add ((j - 1) * 3)).block, (ad.add ((j - 1) * 3)).off + 1, none⟩ = some (.string q.f1) ∧ w2.cell? ⟨(ad.add ((j - 1) * 3)).block, (ad.add ((j - 1) * 3)).off + 2, none⟩ = some (.int .i64 q.f2) := by
        intro w2 hb2
        obtain ⟨ad2, e2, z0, z1, z2⟩ := at_nat (Kd.C_below HR.out hb2) (j - 1) (by omega)
        cases e2
        rw [HQ.out]
        exact ⟨z0, z1, z2⟩
       have HY := Aside0.mk hy
       clear hy
       go_wp2_with fail
       refine (HKQ.out _).mono ?_
       rintro e w2 ⟨rfl, hb⟩
       have HB2 := Aside0.mk (HB1.out.trans (hb.mono HB1.out.size))
       clear hb y0 y1 y2
       obtain ⟨y0, y1, y2⟩ := HY.out _ HB2.out
       by_cases c3 : u = 3
       ·subst c3
        by_cases c4 : t = 2
        ·subst c4
         have HF := Aside0.mk (show good l0 = false by rw [HG1.out, ← HO.out, HSS.out, HP.out]; simp)
         clear c1
         go_wp2_with fail
         refine (HKQ.out _).mono ?_
         rintro e w3 ⟨rfl, hb⟩
         have HB3 := Aside0.mk (HB2.out.trans (hb.mono HB2.out.size))
         clear hb y0 y1 y2
         go_wp2_with fail
         go_ret
         exact ⟨by rw [HF.out]; rfl, HB3.out⟩
        ·have c4b : (t == 2) = false := by simpa using c4
         have HN := Aside0.mk (show ord (l0.drop (j + 1)) (prev l0 (j + 1)) = ord l0 0 by
          rw [← HO.out, HSS.out, HP.out, decide_eq_true (show t ≠ 0 from c1), decide_eq_true (show t ≠ 3 by omega), decide_eq_true (show ¬ ((3 : Int) = 3 ∧ t = 2) by omega)]; rfl)
         clear c1 c2 c4
         go_wp2_with fail
         refine (HKQ.out _).mono ?_
         rintro e w3 ⟨rfl, hb⟩
         have HB3 := Aside0.mk (HB2.out.trans (hb.mono HB2.out.size))
         clear hb y0 y1 y2
         go_wp2_with fail
         go_roundw
         case rel => exact ⟨j + 1, by omega, by go_num, HN.out, HB3.out⟩
         case measure => simp [intOf]; omega
       ·have c3b : (u == 3) = false := by simpa using c3
        have HN := Aside0.mk (show ord (l0.drop (j + 1)) (prev l0 (j + 1)) = ord l0 0 by
         rw [← HO.out, HSS.out, HP.out, decide_eq_true (show t ≠ 0 from c1), decide_eq_true (show t ≠ u by omega), decide_eq_true (show ¬ (u = 3 ∧ t = 2) by omega)]; rfl)
        clear c1 c2 c3
        go_wp2_with fail
        refine (HKQ.out _).mono ?_
        rintro e w3 ⟨rfl, hb⟩
        have HB3 := Aside0.mk (HB2.out.trans (hb.mono HB2.out.size))
        clear hb y0 y1 y2
        go_wp2_with fail
        go_roundw
        case rel => exact ⟨j + 1, by omega, by go_num, HN.out, HB3.out⟩
        case measure => simp [intOf]; omega
   ·have hj3 : j = l0.length := by omega
    have HOT := Aside0.mk (show ord l0 0 = true by rw [← HO.out, hj3, List.drop_length]; rfl)
    have hf := rsums_f (show l0.length ≤ 140737488351232 by have := HL.out; omega) (ord_ok HOT.out) (l0.length + 1) (by omega)
    rw [show cond (fits l0 0 0) (inL l0, outL l0, true) (0, 0, false) = ((cond (fits l0 0 0) (inL l0) 0, cond (fits l0 0 0) (outL l0) 0, fits l0 0 0) : Int × Int × Bool) from by cases fits l0 0 0 <;> rfl] at hf
    have HS := Aside0.mk (variorumref06_sums.calls (l0.length + 1) A0 c0 l0 _ _ _ wr (Kd.C_below HR.out HB.out) HC.out hf)
    have HF := Aside0.mk (show good l0 = fits l0 0 0 by rw [HG1.out, HOT.out, Bool.true_and])
    have hge : ¬ ((j : Int) < (l0.length : Int)) := by omega
    clear hf hlt hj3
    go_wp2_with fail
    refine HS.out.mono ?_
    rintro e w1 ⟨rfl, hb⟩
    have HB1 := Aside0.mk (HB.out.trans (hb.mono HB.out.size))
    clear hb
    go_wp2_with fail
    go_ret
    exact ⟨by rw [HF.out]; rfl, HB1.out⟩
 ·have h1' : (65536 : Int) < (l0.length : Int) := by omega
  have HF := Aside0.mk (show good l0 = false by rw [HG.out, decide_eq_false h1, Bool.and_false]; rfl)
  clear HG h1
  go_enter Try.func14, Try.ntmps14
  go_wp2_with fail
  go_ret
  exact ⟨by rw [HF.out]; rfl, Below.refl _ _⟩
end Go.Proofs.Ytjbnffadfohofaa.EditK
end
-- MERGED YtjbnffadfohofaaRangeSt
section
namespace Go.Proofs.Ytjbnffadfohofaa.RangeSt
open Go Go.RowKit
variable {F : Fence} {n : Nat} {P : Program}
def leftBy {σ : Type} (B : Nat) (I : σ → World → Prop) (Ix : Code → σ → World → Prop) (s : σ) (W : World) : Exit → Act → World → Prop
 | .normal, _, W' => KeepsFrom B W W' ∧ I s W'
 | .ret, _, W' => KeepsFrom B W W' ∧ Ix .ret s W'
 | .exit id, _, W' => KeepsFrom B W W' ∧ Ix (.exit id) s W'
 | .goto t, _, W' => KeepsFrom B W W' ∧ Ix (.goto t) s W'
 | .panic _, _, _ => False
 | .outgrown, _, _ => False
def Lies (l D : Nat) (r : Loop) (W : World) : Prop := W.heap[l]? = some (.loop r) ∧ W.heap[D]? = some (.deferred (some []))
theorem Lies.keeps {l D B : Nat} {r : Loop} {W W' : World} (h : Lies l D r W) (hl : B ≤ l) (hD : B ≤ D) (hk : KeepsFrom B W W') : Lies l D r W' := ⟨hk.same _ _ hl h.1 rfl, hk.same _ _ hD h.2 rfl⟩
theorem Lies.lt {l D : Nat} {r : Loop} {W : World} (h : Lies l D r W) : l < W.heap.size := (Array.getElem?_eq_some_iff.1 h.1).1
theorem Lies.turned {l D : Nat} {r : Loop} {W : World} (h : Lies l D r W) (hne : D ≠ l) (r' : Loop) : Lies l D r' (W.putObj l (.loop r')) :=
 ⟨World.putObj_heap_same h.lt, (World.putObj_heap_other hne).trans h.2⟩
theorem range_st {α σ : Type} {g : Operand} {ps : Array Tmp} {assign body : Code} {Q : Exit → Act → World → Prop} {a : Act} {w : World}
  (hro : F.round = none) (h1 : 1 ≤ n) {gf : Nat} {lb : Array Value} (hg : a.eval g = .func (.func gf) #[] lb) (hFg : F.fn gf) (eg : ∀ args w, (callFunc gf args).run P w = .ok (.enter gf args) w)
  (encs : α → Array Value) (hps : ∀ x, (encs x).size = ps.size) (nx : σ → α → σ) (may : σ → α → Prop) (Fin : σ → Prop)
  (I : σ → World → Prop) (Ix : Code → σ → World → Prop) (hI : OwnFrom w.heap.size I) (hIx : ∀ c, OwnFrom w.heap.size (Ix c)) (s0 : σ) (h0 : I s0 w)
  (Ax : α → Act → World → Prop) (hAx : ∀ x a', OwnFrom w.heap.size (fun (_ : Unit) W => Ax x a' W))
  (hassign : ∀ (l : Nat) (s : σ) (x : α) (W : World) (K : Act → World → Prop), I s W → (∀ a' W', KeepsFrom w.heap.size W W' → I s W' → Ax x a' W' → K a' W') →
   assign.wpIn (F.inRound l) (n - 1 - 1) P (Exit.then K (fun _ _ _ => False)) { tmps := (ps.zip (encs x)).foldl (fun t (p, v) => t.setIfInBounds p v) a.tmps, defers := [] } W)
  (hbody : ∀ (l : Nat) (s : σ) (x : α) (a' : Act) (W : World), I s W → Ax x a' W → may s x → body.wpIn (F.inRound l) (n - 1 - 1) P (leftBy w.heap.size I Ix (nx s x) W) a' W)
  (hiter : ∀ (l : Nat) (St : World → Prop) (Dn : Code → World → Prop) (W1 : World), (∀ W W', St W → KeepsFrom w.heap.size W W' → St W') → (∀ c W W', Dn c W → KeepsFrom w.heap.size W W' → Dn c W') →
   W1.heap.size = w.heap.size + 2 → Below w.heap.size w W1 → I s0 W1 → St W1 →
   (∀ s x W, I s W → St W → may s x → YieldAt F (n - 1 - 1) P l (encs x) W fun e W' =>
    (e = .returned (.bool true) ∧ I (nx s x) W' ∧ St W') ∨ (e = .returned (.bool false) ∧ ∃ c, Ix c (nx s x) W' ∧ Dn c W')) →
   CallsIn F (n - 1) P gf (#[.func (.yield l) #[] #[]] ++ lb) W1 fun e W' => (∃ v, e = .returned v) ∧ ((∃ s, Fin s ∧ I s W' ∧ St W') ∨ (∃ c s, Ix c s W' ∧ Dn c W')))
  (hdone : ∀ (D : Nat) (s : σ) (W : World), w.heap.size ≤ D → Fin s → I s W → W.heap[D]? = some (.deferred (some [])) → Q .normal { a with defers := { target := .collected D, args := #[] } :: a.defers } W)
  (hstop : ∀ (D : Nat) (c : Code) (s : σ) (W : World), w.heap.size ≤ D → Ix c s W → W.heap[D]? = some (.deferred (some [])) → c.wpIn F n P Q { a with defers := { target := .collected D, args := #[] } :: a.defers } W) :
  (Code.rangeFunc g ps assign body).wpIn F n P Q a w := by
 refine wpIn_rangeFunc fun fn hfn => ?_
 rw [hro]
 obtain ⟨rc, hrc⟩ : ∃ rc : LoopState → Option Code → Loop, rc = fun st pe => { state := st, pending := pe, fn, tmps := a.tmps, params := ps, assign, body, defers := w.heap.size } := ⟨_, rfl⟩
 obtain ⟨W1, hW1⟩ : ∃ W1, W1 = (w.alloc (.deferred (some []))).alloc (.loop (rc .ready none)) := ⟨_, rfl⟩
 obtain ⟨l, hl⟩ : ∃ l, l = w.heap.size + 1 := ⟨_, rfl⟩
 have hne : w.heap.size ≠ l := by omega
 have hle : w.heap.size ≤ l := by omega
 have hL1 : Lies l w.heap.size (rc .ready none) W1 := by
  subst hW1 hl
  refine ⟨?_, (Below.heap_alloc _ _ _ (by simp)).trans (World.alloc_heap_new w _)⟩
  have := World.alloc_heap_new (w.alloc (.deferred (some []))) (.loop (rc .ready none))
  rwa [World.size_alloc] at this
 have hI1 : I s0 W1 := by rw [hW1]; exact hI.alloc _ (hI.alloc _ h0)
 have hb1 : Below w.heap.size w W1 := by rw [hW1]; exact ((Below.refl _ w).alloc (Nat.le_refl _) _).alloc (by simp) _
 have hz1 : W1.heap.size = w.heap.size + 2 := by rw [hW1]; simp
 refine ⟨l, [{ target := .collected w.heap.size, args := #[] }], W1, { target := .fn (.func gf) lb, args := #[.func (.yield l) #[] #[]] }, W1, gf, #[.func (.yield l) #[] #[]] ++ lb, W1, ?_, ?_, ?_, ?_, fun _ => h1, ?_⟩
 ·rw [hW1, hrc, hl]; exact run_enterLoop_outer _ _ _ _ _
 ·simp only [resolve, hg]
  simp [go_sem]
 ·intro f' hf'
  simp [Target.leads] at hf'
  subst hf'
  exact hFg
 ·simp [invoke, go_sem, eg]
 refine (hiter l (Lies l w.heap.size (rc .ready none)) (fun c => Lies l w.heap.size (rc .done (some c))) W1 (fun W W' h hk => h.keeps hle (Nat.le_refl _) hk) (fun c W W' h hk => h.keeps hle (Nat.le_refl _) hk) hz1 hb1 hI1 hL1 ?_).mono ?_
 ·-- a round
  intro s x W hi hL hmay
  have hy := run_yield (P := P) (args := encs x) hL.1 (by rw [hrc]; exact hps x)
  rw [hrc] at hy
  refine ⟨fn, _, assign, body, hy, roundIn_of_wpIn hfn (hassign _ s x W _ hi ?_)⟩
  intro a' Wa hka hia hax
  have hLa := hL.keeps hle (Nat.le_refl _) hka
  have hLb := hLa.turned hne { rc .ready none with state := .busy }
  refine ⟨_, run_beginRound hLa.1 (by rw [hrc]), ?_⟩
  refine wpIn_mono (hbody _ s x a' _ (hI.putObj _ hia hle hLa.1 rfl) ((hAx x a').putObj (s := ()) _ hax hle hLa.1 rfl) hmay) ?_
  have fin : ∀ (jump : Option Code) (W3 : World), KeepsFrom w.heap.size (Wa.putObj l (.loop { rc .ready none with state := .busy })) W3 →
    (Instr.endRound l jump).run P W3 = .ok (.bool jump.isNone) (W3.putObj l (.loop (rc (if jump.isNone then .ready else .done) jump))) ∧ Lies l w.heap.size { rc .ready none with state := .busy } W3 := by
   intro jump W3 hk3
   have hL3 := hLb.keeps hle (Nat.le_refl _) hk3
   have h := run_endRound (P := P) jump hL3.1
   refine ⟨?_, hL3⟩
   rw [hrc] at h ⊢
   exact h
  rintro e a3 W3 hp
  cases e with
  | normal =>
   obtain ⟨hr, hL3⟩ := fin none W3 hp.1
   exact ⟨_, _, hr, .inl ⟨rfl, hI.putObj _ hp.2 hle hL3.1 rfl, hL3.turned hne _⟩⟩
  | ret =>
   obtain ⟨hr, hL3⟩ := fin (some .ret) W3 hp.1
   exact ⟨_, _, hr, .inr ⟨rfl, .ret, (hIx _).putObj _ hp.2 hle hL3.1 rfl, hL3.turned hne _⟩⟩
  | exit id =>
   obtain ⟨hr, hL3⟩ := fin (some (.exit id)) W3 hp.1
   exact ⟨_, _, hr, .inr ⟨rfl, .exit id, (hIx _).putObj _ hp.2 hle hL3.1 rfl, hL3.turned hne _⟩⟩
  | goto t =>
   obtain ⟨hr, hL3⟩ := fin (some (.goto t)) W3 hp.1
   exact ⟨_, _, hr, .inr ⟨rfl, .goto t, (hIx _).putObj _ hp.2 hle hL3.1 rfl, hL3.turned hne _⟩⟩
  | panic ch => exact hp.elim
  | outgrown => exact hp.elim
 ·-- behind the iterator
  rintro e W2 ⟨⟨v, rfl⟩, (⟨s, hf, hi, hL⟩ | ⟨c, s, hi, hL⟩)⟩
  ·have hend := run_endLoop (P := P) hL.1 (by rw [hrc]; simp)
   rw [hrc] at hend
   refine ⟨none, _, hend, ?_⟩
   rw [hrc] at hL
   exact hdone _ s _ (Nat.le_refl _) hf (hI.putObj _ hi hle hL.1 rfl) (hL.turned hne _).2
  ·have hend := run_endLoop (P := P) hL.1 (by rw [hrc]; simp)
   rw [hrc] at hend
   refine ⟨some c, _, hend, ?_⟩
   rw [hrc] at hL
   exact hstop _ c s _ (Nat.le_refl _) ((hIx c).putObj _ hi hle hL.1 rfl) (hL.turned hne _).2
end Go.Proofs.Ytjbnffadfohofaa.RangeSt
end
-- MERGED YtjbnffadfohofaaRangeG
section
namespace Go.Proofs.Ytjbnffadfohofaa.RangeG
open Go Go.RowKit Go.Proofs.Ytjbnffadfohofaa.RangeSt
variable {P : Program}
theorem room_none {F : Fence} (hd : F.depth = none) (k : Nat) : F.room k := fun d h => by rw [hd] at h; cases h
theorem round_any {F : Fence} (hd : F.depth = none) {m m' : Nat} {l : Nat} {f : FuncId} {tmps : Array Value} {assign body : Code} {w : World} {R : Ending → World → Prop}
  (h : RoundIn F m P l f tmps assign body w R) : RoundIn F m' P l f tmps assign body w R := ⟨h.1, fun c cs _ => h.2 c cs (room_none hd _)⟩
theorem yield_any {m : Nat} (m' : Nat) {l : Nat} {args : Array Value} {W : World} {R : Ending → World → Prop} (h : YieldAt Fence.wide m P l args W R) : YieldAt Fence.wide m' P l args W R := by
 obtain ⟨fn, tmps, assign, body, hy, hR⟩ := h
 exact ⟨fn, tmps, assign, body, hy, round_any rfl hR⟩
abbrev Priv := Nat → Option Obj
def Priv.none : Priv := fun _ => Option.none
def Priv.put (G : Priv) (b : Nat) (o : Obj) : Priv := fun k => if k = b then some o else G k
theorem Priv.put_same (G : Priv) (b : Nat) (o : Obj) : G.put b o b = some o := if_pos rfl
theorem Priv.put_other (G : Priv) {b k : Nat} (o : Obj) (h : k ≠ b) : G.put b o k = G k := if_neg h
structure Turn (G : Priv) (W W' : World) : Prop where
 os : W'.os = W.os
 tape : W'.tape = W.tape
 output : W'.output = W.output
 size : W.heap.size ≤ W'.heap.size
 block : ∀ k, k < W.heap.size → G k = Option.none → W'.heap[k]? = W.heap[k]?
theorem Turn.of_below {G : Priv} {W W' : World} (h : Below W.heap.size W W') : Turn G W W' := ⟨h.os, h.tape, h.output, h.size, fun k hk _ => h.block k hk⟩
theorem Turn.setCell {G : Priv} (W : World) (b o : Nat) (u : Value) (hb : G b ≠ Option.none) : Turn G W (W.setCell ⟨b, o, Option.none⟩ u) :=
 ⟨rfl, rfl, rfl, by simp [World.setCell], fun k _ hG => Below.heap_setCell _ _ _ _ (fun e => hb (by show G b = Option.none; rw [← show k = b from e]; exact hG))⟩
structure Party {α : Type} (J : List α → Priv → World → Prop) : Prop where
 lies : ∀ pre G W, J pre G W → ∀ k o, G k = some o → W.heap[k]? = some o
 turn : ∀ pre G G' W W', J pre G W → Turn G W W' → (∀ k o, G' k = some o → W'.heap[k]? = some o ∧ o.isCells = true ∧ (G k ≠ Option.none ∨ W.heap.size ≤ k)) → J pre G' W'
 cells : ∀ pre G W, J pre G W → ∀ k o, G k = some o → o.isCells = true
section
variable {α : Type} {J : List α → Priv → World → Prop} (hP : Party J) {pre : List α} {G : Priv} {W W' : World}
include hP
theorem Party.lt (h : J pre G W) {b : Nat} {o : Obj} (hb : G b = some o) : b < W.heap.size := (Array.getElem?_eq_some_iff.1 (hP.lies _ _ _ h _ _ hb)).1
theorem Party.below (h : J pre G W) (hb : Below W.heap.size W W') : J pre G W' :=
 hP.turn _ _ _ _ _ h (Turn.of_below hb) fun k o hk => ⟨(hb.block k (hP.lt h hk)).trans (hP.lies _ _ _ h _ _ hk), hP.cells _ _ _ h _ _ hk, .inl (by rw [hk]; exact fun e => by cases e)⟩
theorem Party.lay (h : J pre G W) (hb : Below W.heap.size W W') {b : Nat} {o : Obj} (hn : W.heap.size ≤ b) (ho : W'.heap[b]? = some o) (hc : o.isCells = true) : J pre (G.put b o) W' :=
 hP.turn _ _ _ _ _ h (Turn.of_below hb) fun k o' hk => by
  by_cases e : k = b
  ·subst e
   rw [Priv.put_same] at hk
   obtain rfl := Option.some.inj hk
   exact ⟨ho, hc, .inr hn⟩
  ·rw [Priv.put_other _ _ e] at hk
   exact ⟨(hb.block k (hP.lt h hk)).trans (hP.lies _ _ _ h _ _ hk), hP.cells _ _ _ h _ _ hk, .inl (by rw [hk]; exact fun e => by cases e)⟩
theorem Party.set (h : J pre G W) {b : Nat} {o o' : Obj} (hG : G b = some o) (hT : ∀ k, k ≠ b → W'.heap[k]? = W.heap[k]?) (hz : W'.heap.size = W.heap.size) (hos : W'.os = W.os) (htp : W'.tape = W.tape) (hou : W'.output = W.output) (ho : W'.heap[b]? = some o') (hc : o'.isCells = true) : J pre (G.put b o') W' :=
 hP.turn _ _ _ _ _ h ⟨hos, htp, hou, by rw [hz]; exact Nat.le_refl _, fun k _ hk => hT k (fun e => by subst e; rw [hG] at hk; cases hk)⟩ fun k o2 hk => by
  by_cases e : k = b
  ·subst e
   rw [Priv.put_same] at hk
   obtain rfl := Option.some.inj hk
   exact ⟨ho, hc, .inl (by rw [hG]; exact fun e => by cases e)⟩
  ·rw [Priv.put_other _ _ e] at hk
   exact ⟨(hT k e).trans (hP.lies _ _ _ h _ _ hk), hP.cells _ _ _ h _ _ hk, .inl (by rw [hk]; exact fun e => by cases e)⟩
theorem Party.setCell (h : J pre G W) {b : Nat} {cs : Array Value} {t : TypeId} {fr : Nat × Nat} (hG : G b = some (.cells cs t fr)) (i : Nat) (u : Value) (hput : (W.setCell ⟨b, i, Option.none⟩ u).heap[b]? = some (.cells (cs.setIfInBounds i u) t fr)) :
  J pre (G.put b (.cells (cs.setIfInBounds i u) t fr)) (W.setCell ⟨b, i, Option.none⟩ u) :=
 hP.set h hG (fun k hk => Below.heap_setCell _ _ _ _ hk) (by simp [World.setCell]) rfl rfl rfl hput rfl
end
def Gives {α : Type} (P : Program) (gf : Nat) (lb : Array Value) (encs : α → Array Value) (L : List α) (K0 : World → Prop) : Prop :=
 ∀ (n l : Nat) (J : List α → Priv → World → Prop) (X : World → Prop) (W1 : World), Party J → (∀ pre G W, J pre G W → K0 W) →
  (∀ m pre x suf G W, L = pre ++ x :: suf → J pre G W → YieldAt Fence.wide m P l (encs x) W fun e W' => (e = .returned (.bool true) ∧ J (pre ++ [x]) G W') ∨ (e = .returned (.bool false) ∧ X W')) →
  J [] Priv.none W1 → CallsIn Fence.wide n P gf (#[.func (.yield l) #[] #[]] ++ lb) W1 fun e W' => (∃ v, e = .returned v) ∧ ((∃ G, J L G W') ∨ X W')
theorem range_g {α : Type} {n : Nat} {g : Operand} {ps : Array Tmp} {assign body : Code} {Q : Exit → Act → World → Prop} {a : Act} {w : World}
  (h1 : 1 ≤ n) {gf : Nat} {lb : Array Value} (hg : a.eval g = .func (.func gf) #[] lb) (eg : ∀ args w, (callFunc gf args).run P w = .ok (.enter gf args) w)
  (encs : α → Array Value) (hps : ∀ x, (encs x).size = ps.size) (L : List α) (K0 : World → Prop) (hgives : Gives P gf lb encs L K0)
  (J : List α → Priv → World → Prop) (hP : Party J) (hK : ∀ pre G W, J pre G W → K0 W) (hJo : OwnFrom w.heap.size (fun (s : List α × Priv) W => J s.1 s.2 W))
  (Ix : Code → List α × Priv → World → Prop) (hIx : ∀ c, OwnFrom w.heap.size (Ix c)) (h0 : J [] Priv.none w)
  (Ax : α → Act → World → Prop) (hAx : ∀ x a', OwnFrom w.heap.size (fun (_ : Unit) W => Ax x a' W))
  (hassign : ∀ (l : Nat) (pre : List α) (G : Priv) (x : α) (W : World) (K : Act → World → Prop), J pre G W → (∀ a' W', KeepsFrom w.heap.size W W' → J pre G W' → Ax x a' W' → K a' W') →
   assign.wpIn (Fence.wide.inRound l) (n - 1 - 1) P (Exit.then K (fun _ _ _ => False)) { tmps := (ps.zip (encs x)).foldl (fun t (p, v) => t.setIfInBounds p v) a.tmps, defers := [] } W)
  (hbody : ∀ (l : Nat) (pre : List α) (x : α) (suf : List α) (G : Priv) (a' : Act) (W : World), L = pre ++ x :: suf → J pre G W → Ax x a' W →
   body.wpIn (Fence.wide.inRound l) (n - 1 - 1) P (leftBy w.heap.size (fun (s : List α × Priv) W => J s.1 s.2 W) Ix (pre ++ [x], G) W) a' W)
  (hdone : ∀ (D : Nat) (G : Priv) (W : World), w.heap.size ≤ D → J L G W → W.heap[D]? = some (.deferred (some [])) → Q .normal { a with defers := { target := .collected D, args := #[] } :: a.defers } W)
  (hstop : ∀ (D : Nat) (c : Code) (s : List α × Priv) (W : World), w.heap.size ≤ D → Ix c s W → W.heap[D]? = some (.deferred (some [])) → c.wpIn Fence.wide n P Q { a with defers := { target := .collected D, args := #[] } :: a.defers } W) :
  (Code.rangeFunc g ps assign body).wpIn Fence.wide n P Q a w := by
 refine range_st (F := Fence.wide) (n := n) (σ := List α × Priv) (w := w) rfl h1 hg trivial eg encs hps (fun s x => (s.1 ++ [x], s.2)) (fun s x => ∃ suf, L = s.1 ++ x :: suf) (fun s => s.1 = L) (fun s W => J s.1 s.2 W) Ix hJo hIx ([], Priv.none) h0 Ax hAx
  (fun l s x W K hi hK => hassign l s.1 s.2 x W K hi hK) (fun l s x a' W hi hax hm => hm.elim fun suf hs => hbody l s.1 x suf s.2 a' W hs hi hax) ?_ (fun D s W hD hf hi hd => hdone D s.2 W hD (by rw [← hf]; exact hi) hd) (fun D c s W hD hi hd => hstop D c s W hD hi hd)
 intro l St Dn W1 hSt hDn hz1 hb1 hI1 hSt1 hY
 have hP2 : Party (fun pre G W => J pre G W ∧ St W) := by
  refine ⟨fun pre G W h => hP.lies _ _ _ h.1, fun pre G G' W W' h ht hG => ⟨hP.turn _ _ _ _ _ h.1 ht hG, hSt _ _ h.2 ⟨ht.size, fun k o _ hk hc => ?_⟩⟩, fun pre G W h => hP.cells _ _ _ h.1⟩
  refine (ht.block k (Array.getElem?_eq_some_iff.1 hk).1 ?_).trans hk
  cases e : G k with
  | none => rfl
  | some o' =>
   have e1 := hP.lies _ _ _ h.1 _ _ e
   rw [hk] at e1
   obtain rfl := Option.some.inj e1
   rw [hP.cells _ _ _ h.1 _ _ e] at hc
   cases hc
 refine (hgives (n - 1) l (fun pre G W => J pre G W ∧ St W) (fun W => ∃ c s, Ix c s W ∧ Dn c W) W1 hP2 (fun pre G W h => hK _ _ _ h.1) ?_ ⟨hI1, hSt1⟩).mono ?_
 ·intro m pre x suf G W hL hj
  refine yield_any m ((hY (pre, G) x W hj.1 hj.2 ⟨suf, hL⟩).mono fun e W' h => ?_)
  rcases h with ⟨he, h1, h2⟩ | ⟨he, c, h1, h2⟩
  ·exact .inl ⟨he, h1, h2⟩
  ·exact .inr ⟨he, c, _, h1, h2⟩
 ·rintro e W' ⟨hv, h⟩
  refine ⟨hv, ?_⟩
  rcases h with ⟨G, h1, h2⟩ | ⟨c, s, h1, h2⟩
  ·exact .inl ⟨(L, G), rfl, h1, h2⟩
  ·exact .inr ⟨c, s, h1, h2⟩
end Go.Proofs.Ytjbnffadfohofaa.RangeG
end
-- MERGED YtjbnffadfohofaaPPart2
section
namespace Go.Proofs.Ytjbnffadfohofaa.P
open Go.RowKit Go.Proofs.YtjbnffadfohofaaW.PrintWords Go.Proofs.YtjbnffadfohofaaW.PrintLast Go.Proofs.YtjbnffadfohofaaW.PrintMore
attribute [local go_sem] max2_int min2_int max_two min_two max_three min_three max_four min_four   -- for this text's walks alone
set_option linter.unusedVariables false
set_option linter.unusedSimpArgs false
theorem eqA49 (d : Nat) (w : World) (x0 y0 : Int) (x1 y1 : ByteArray) (x2 y2 : Int) :
  (Op.equalIn (d + 2) 49 (.agg #[.int .i64 x0, .string x1, .int .i64 x2]) (.agg #[.int .i64 y0, .string y1, .int .i64 y2])).run Try.prog w = .ok (x0 == y0 && (x1.toList == y1.toList && (x2 == y2))) w := by
 refine eqA_of Try.underlying49 (by kernel_rfl) ?_
 refine eqf_cons (by rfl) (by go_simp; rfl) (by go_simp; rfl) (by go_simp) ?_
 refine eqf_cons (by rfl) (by go_simp; rfl) (by go_simp; rfl) (by go_simp) ?_
 exact eqf_last (by rfl) (by go_simp; rfl) (by go_simp; rfl) (by go_simp)
end Go.Proofs.Ytjbnffadfohofaa.P
end
-- MERGED YtjbnffadfohofaaPeditkind
section
namespace Go.Proofs.Ytjbnffadfohofaa.P
open Go.RowKit Go.Proofs.YtjbnffadfohofaaW.PrintWords Go.Proofs.YtjbnffadfohofaaW.PrintLast Go.Proofs.YtjbnffadfohofaaW.PrintMore
attribute [local go_sem] max2_int min2_int max_two min_two max_three min_three max_four min_four   -- for this text's walks alone
set_option linter.unusedVariables false
set_option linter.unusedSimpArgs false
def edit_kind.f (a0_0 : Int) (a0_1 : ByteArray) (a0_2 : Int) : Option (Int) := some (EditL.knd ⟨a0_0, a0_1, a0_2⟩)
attribute [local go_sem high] eqA49
theorem edit_kind.lnil (s : ByteArray) (h : s.size ≠ 0) : (s.toList == ([] : List UInt8)) = false := by
 rw [beq_eq_false_iff_ne, ByteArray.toList_eq]
 intro e
 apply h
 show s.data.size = 0
 rw [← Array.length_toList, e]; rfl
set_option maxHeartbeats 8000000 in
set_option maxRecDepth 100000 in
theorem edit_kind.calls (a0_0 : Int) (a0_1 : ByteArray) (a0_2 : Int) (r : Int) (w : World) (h : edit_kind.f a0_0 a0_1 a0_2 = some r) :
  Calls Try.prog 52 #[.agg #[.int .i64 a0_0, .string a0_1, .int .i64 a0_2]] w fun e w' => e = .returned (.int .i64 r) ∧ Below w.heap.size w w' := by
 obtain rfl := Option.some.inj h
 clear h
 have HB := Aside0.mk (below_alloc (Below.refl w.heap.size w) (.cells #[.int .i64 a0_0, .string a0_1, .int .i64 a0_2] 49))
 obtain ⟨n, hn⟩ : ∃ n, n = a0_1.size := ⟨_, rfl⟩
 have HK := Aside0.mk (show ∀ x y : Int, x = a0_0 → y = a0_2 → EditL.knd ⟨a0_0, a0_1, a0_2⟩ = if 0 < x ∧ n = 0 ∧ y = 0 then 1 else if x = 0 ∧ n ≠ 0 ∧ y = 0 then 2 else if x = 0 ∧ n = 0 ∧ 0 < y then 3 else 0 from fun x y hx hy => by rw [hx, hy, hn]; rfl)
 have HN := Aside0.mk hn
 obtain ⟨K, hK⟩ : ∃ K, K = EditL.knd ⟨a0_0, a0_1, a0_2⟩ := ⟨_, rfl⟩
 rw [← hK] at HK ⊢
 clear hK hn
 have h0 : a0_0 < 0 ∨ a0_0 = 0 ∨ 0 < a0_0 := by omega
 have h2 : a0_2 < 0 ∨ a0_2 = 0 ∨ 0 < a0_2 := by omega
 by_cases h1 : a0_1.size = 0
 ·have e1 : a0_1 = ⟨#[]⟩ := EditL.eq_E h1
  subst e1
  have HZ := Aside0.mk (HN.out.trans h1)
  clear h1 HN
  rcases h0 with h0 | rfl | h0
  all_goals rcases h2 with h2 | rfl | h2
  all_goals try have g0 : (a0_0 == 0) = false := by simp; omega
  all_goals try have g2 : (a0_2 == 0) = false := by simp; omega
  all_goals try have g0' : ¬ 0 < a0_0 := by omega
  all_goals try have g2' : ¬ 0 < a0_2 := by omega
  all_goals
   go_enter Try.func52, Try.ntmps52
   go_wp2_with fail
   go_ret
   refine ⟨?_, HB.out⟩
   refine congrArg (fun x : Int => Ending.returned (Value.int IntKind.i64 x)) ?_
   rw [HK.out _ _ rfl rfl]
   have := HZ.out
   clear HK HZ HB
   (repeat' split) <;> omega
 ·have g1 := edit_kind.lnil a0_1 h1
  have HZ := Aside0.mk (show n ≠ 0 by rw [HN.out]; exact h1)
  clear h1 HN
  rcases h0 with h0 | rfl | h0
  all_goals rcases h2 with h2 | rfl | h2
  all_goals try have g0 : (a0_0 == 0) = false := by simp; omega
  all_goals try have g2 : (a0_2 == 0) = false := by simp; omega
  all_goals try have g0' : ¬ 0 < a0_0 := by omega
  all_goals try have g2' : ¬ 0 < a0_2 := by omega
  all_goals
   go_enter Try.func52, Try.ntmps52
   go_wp2_with fail
   go_ret
   refine ⟨?_, HB.out⟩
   refine congrArg (fun x : Int => Ending.returned (Value.int IntKind.i64 x)) ?_
   rw [HK.out _ _ rfl rfl]
   have := HZ.out
   clear HK HZ HB
   (repeat' split) <;> omega
end Go.Proofs.Ytjbnffadfohofaa.P
end
-- MERGED YtjbnffadfohofaaEditI
section
namespace Go.Proofs.Ytjbnffadfohofaa.EditJ
open Go.RowKit Go.Shelf Go.Proofs.Ytjbnffadfohofaa.P Go.Proofs.YtjbnffadfohofaaW.PrintWords Go.Proofs.YtjbnffadfohofaaW.PrintLast Go.Proofs.YtjbnffadfohofaaW.PrintMore Go.Proofs.Ytjbnffadfohofaa.Own Go.Proofs.Ytjbnffadfohofaa.EditL Go.Proofs.Ytjbnffadfohofaa.EditK
def rcs (k : Int) (a : ByteArray) (d : Int) : Obj := .cells #[.int .i64 k, .string a, .int .i64 d] 49 (0, 0)
theorem blk_cells {W : World} {b : Nat} {k d : Int} {a : ByteArray} (h : W.heap[b]? = some (rcs k a d)) : W.cell? ⟨b, 0, none⟩ = some (.int .i64 k) ∧ W.cell? ⟨b, 1, none⟩ = some (.string a) ∧ W.cell? ⟨b, 2, none⟩ = some (.int .i64 d) := by
 unfold rcs at h
 exact ⟨by rw [cell_of_row W _ 0 _ _ _ h]; rfl, by rw [cell_of_row W _ 1 _ _ _ h]; rfl, by rw [cell_of_row W _ 2 _ _ _ h]; rfl⟩
end Go.Proofs.Ytjbnffadfohofaa.EditJ
namespace Go.Proofs.Ytjbnffadfohofaa.EditI
open Go.RowKit Go.Shelf Go.Proofs.Ytjbnffadfohofaa.P Go.Proofs.YtjbnffadfohofaaW.PrintWords Go.Proofs.YtjbnffadfohofaaW.PrintLast Go.Proofs.YtjbnffadfohofaaW.PrintMore Go.Proofs.Ytjbnffadfohofaa.Own Go.Proofs.Ytjbnffadfohofaa.EditL Go.Proofs.Ytjbnffadfohofaa.EditK Go.Proofs.Ytjbnffadfohofaa.RangeG Go.Proofs.Ytjbnffadfohofaa.EditJ
attribute [local go_sem] Oper.semAt_some
attribute [local go_sem high] eqA49
set_option linter.unusedSimpArgs false
set_option linter.unusedVariables false
def Held (A : Option Addr) (c T : Nat) (f : List Rn) (W : World) : Prop := W.heap[T]? = some (.cells #[.slice A f.length c] 34 (0, 0)) ∧ Kd.C k49 W A f.length f
structure Sums (k d : Int) (a : ByteArray) (l : List Rn) : Prop where
 k0 : 0 ≤ k
 d0 : 0 ≤ d
 i : k + d + inL l ≤ 16777216
 o : k + (a.size : Int) + outL l ≤ 16777216
end Go.Proofs.Ytjbnffadfohofaa.EditI
end
-- MERGED YtjbnffadfohofaaRunA
section
namespace Go.Proofs.Ytjbnffadfohofaa.RunA
open Go.RowKit Go.Proofs.Ytjbnffadfohofaa.P Go.Proofs.Ytjbnffadfohofaa.EditL Go.Proofs.Ytjbnffadfohofaa.EditK Go.Proofs.Ytjbnffadfohofaa.EditG
set_option linter.unusedSimpArgs false
set_option linter.unusedVariables false
def apL : List Rn → ByteArray → ByteArray
 | [], _ => E
 | r :: l, s => (s.extract 0 r.f0.toNat ++ r.f1) ++ apL l (s.extract (r.f0 + r.f2).toNat s.size)
def fitsL (op : List Rn) (n : Int) : Bool := good op && decide (inL op = n)
theorem ext_all (s : ByteArray) : s.extract 0 s.size = s := by
 apply ByteArray.ext; simp
theorem ext_size (s : ByteArray) (a b : Nat) : (s.extract a b).size = min b s.size - a := ByteArray.size_extract
theorem app_assoc (a b c : ByteArray) : a ++ b ++ c = a ++ (b ++ c) := ByteArray.append_assoc
def app (l : List Rn) (s : ByteArray) : ByteArray × Int := if fitsL l s.size = true then (apL l s, 0) else (E, 60)
end Go.Proofs.Ytjbnffadfohofaa.RunA
end
-- MERGED YtjbnffadfohofaaRunL
section
namespace Go.Proofs.Ytjbnffadfohofaa.RunL
open Go.RowKit Go.Proofs.Ytjbnffadfohofaa.P Go.Proofs.Ytjbnffadfohofaa.EditL Go.Proofs.Ytjbnffadfohofaa.EditK Go.Proofs.Ytjbnffadfohofaa.EditG Go.Proofs.Ytjbnffadfohofaa.RunA
set_option linter.unusedSimpArgs false
set_option linter.unusedVariables false
def L (s : ByteArray) : List UInt8 := s.data.toList
theorem L_len (s : ByteArray) : (L s).length = s.size := by unfold L; rw [Array.length_toList]; rfl
theorem L_app (a b : ByteArray) : L (a ++ b) = L a ++ L b := by unfold L; rw [ByteArray.data_append, Array.toList_append]
theorem L_cut (s : ByteArray) (a b : Nat) : L (s.extract a b) = ((L s).drop a).take (b - a) := by unfold L; rw [ByteArray.data_extract, Array.toList_extract, List.extract_eq_take_drop]
theorem L_take (s : ByteArray) (n : Nat) : L (s.extract 0 n) = (L s).take n := by rw [L_cut]; simp
theorem L_drop (s : ByteArray) (n : Nat) : L (s.extract n s.size) = (L s).drop n := by
 rw [L_cut, List.take_of_length_le]; rw [List.length_drop, L_len]; omega
theorem L_inj {a b : ByteArray} (h : L a = L b) : a = b := by
 apply ByteArray.ext
 exact Array.toList_inj.1 h
theorem L_nil {a : ByteArray} (h : a.size = 0) : L a = [] := List.eq_nil_of_length_eq_zero (by rw [L_len]; exact h)
def apW : List Rn → List UInt8 → List UInt8
 | [], _ => []
 | r :: l, w => (w.take r.f0.toNat ++ L r.f1) ++ apW l (w.drop (r.f0 + r.f2).toNat)
theorem apW_eq (l : List Rn) : ∀ s : ByteArray, L (apL l s) = apW l (L s) := by
 induction l with
 | nil => intro s; rfl
 | cons r l ih =>
  intro s
  simp only [apL, apW]
  rw [L_app, L_app, L_take, ih, L_drop]
def nn (r : Rn) : Prop := 0 ≤ r.f0 ∧ 0 ≤ r.f2
theorem sums_nn {l : List Rn} (h : ∀ r ∈ l, nn r) : 0 ≤ inL l ∧ 0 ≤ outL l := by
 induction l with
 | nil => exact ⟨Int.le_refl _, Int.le_refl _⟩
 | cons r l ih =>
  have h1 := h r List.mem_cons_self
  have h2 := ih fun x hx => h x (List.mem_cons_of_mem _ hx)
  unfold nn at h1
  simp only [inL, outL]
  omega
theorem apW_len (l : List Rn) : ∀ w : List UInt8, (∀ r ∈ l, nn r) → inL l = (w.length : Int) → ((apW l w).length : Int) = outL l := by
 induction l with
 | nil => intro w _ _; rfl
 | cons r l ih =>
  intro w h hi
  have h1 := h r List.mem_cons_self
  have h2 : ∀ x ∈ l, nn x := fun x hx => h x (List.mem_cons_of_mem _ hx)
  have h3 := sums_nn h2
  unfold nn at h1
  simp only [inL] at hi
  simp only [outL, apW]
  rw [List.length_append, List.length_append, List.length_take, L_len]
  have := ih (w.drop (r.f0 + r.f2).toNat) h2 (by rw [List.length_drop]; omega)
  omega
structure Normed (l : List Rn) (m : List Rn) : Prop where
 good : good m = true
 i : inL m = inL l
 o : outL m = outL l
 ap : ∀ w, apW m w = apW l w
 len : m.length ≤ 3 * l.length + 3
theorem nn_good {l : List Rn} (h : good l = true) : ∀ r ∈ l, nn r := fun r hr => knd_pos ((good_ok h).2.2.2 r hr)
theorem sums_good {l : List Rn} (h : good l = true) : 0 ≤ inL l ∧ inL l ≤ 16777216 ∧ 0 ≤ outL l ∧ outL l ≤ 16777216 := by
 obtain ⟨_, _, h2, h3⟩ := good_ok h
 have h4 := (fits_iff h3 0 0 (by decide) (by decide)).1 h2
 have h5 := inL_nonneg h3
 omega
theorem ap_size {l : List Rn} (h : good l = true) {s : ByteArray} (hi : inL l = (s.size : Int)) : ((apL l s).size : Int) = outL l := by
 rw [← L_len, apW_eq]
 exact apW_len l (L s) (nn_good h) (by rw [L_len]; exact hi)
end Go.Proofs.Ytjbnffadfohofaa.RunL
end
-- MERGED YtjbnffadfohofaaPeditright
section
namespace Go.Proofs.Ytjbnffadfohofaa.P
open Go.RowKit Go.Proofs.YtjbnffadfohofaaW.PrintWords Go.Proofs.YtjbnffadfohofaaW.PrintLast Go.Proofs.YtjbnffadfohofaaW.PrintMore
attribute [local go_sem] max2_int min2_int max_two min_two max_three min_three max_four min_four   -- for this text's walks alone
set_option linter.unusedVariables false
set_option linter.unusedSimpArgs false
def edit_right.l0 : Nat → List (S49) → Int → List (S49) → Int → Int → Option (Bool)
 | 0, _, _, _, _, _ => none
 | k + 1, x0, x3, x7, x8, x9 => if x9 < x8 then (if 0 ≤ x9 then (if x9 < (x7.length : Int) then ((edit_kind.f ((rd_T49 x7 x9).f0) ((rd_T49 x7 x9).f1) ((rd_T49 x7 x9).f2)).bind fun t143 => (if t143 = 0 then (some false) else (if t143 = x3 then (some false) else (if x3 = 3 then (if t143 = 2 then (some false) else (edit_right.l0 k x0 t143 x7 x8 (wrap64 (x9 + 1)))) else (edit_right.l0 k x0 t143 x7 x8 (wrap64 (x9 + 1))))))) else (none)) else (none)) else (some (decide ((x0.length : Int) ≤ 65536)))
def edit_right.f (k : Nat) (l0 : List (S49)) : Option (Bool) := edit_right.l0 k l0 0 l0 (l0.length : Int) 0
set_option maxHeartbeats 8000000 in
set_option maxRecDepth 100000 in
theorem edit_right.calls (k : Nat) (A0 : Option Addr) (c0 : Nat) (l0 : List (S49)) (r : Bool) (w : World) (hr0 : Kd.C k49 w A0 l0.length l0) (hc0 : l0.length ≤ c0) (h : edit_right.f k l0 = some r) :
  Calls Try.prog 40 #[.slice A0 l0.length c0] w fun e w' => e = .returned (.bool r) ∧ Below w.heap.size w w' := by
 have hu49 := Try.underlying49
 have HR0 := Aside0.mk hr0
 have HC0 := Aside0.mk hc0
 clear hr0 hc0
 have HB := Aside0.mk (Below.refl w.heap.size w)
 have H : (edit_right.l0 k l0 0 l0 (l0.length : Int) 0) = some r := h
 clear h
 have H' := Aside0.mk H
 clear H
 go_enter Try.func40, Try.ntmps40
 go_wp2
 go_loopg [3, 9] k (fun kq v3 v9 w' => ∃ (x3_1 : Int) (x9_1 : Int), v3 = .int .i64 x3_1 ∧ v9 = .int .i64 x9_1 ∧ Aside0 (edit_right.l0 kq l0 x3_1 l0 (l0.length : Int) x9_1 = some r) ∧ Aside0 (kq ≤ k) ∧ Aside0 (Below w.heap.size w w'))
 case atStart => exact ⟨(0), (0), (by (rfl)), (by (rfl)), H', ⟨Nat.le_refl _⟩, ⟨by repeat ((with_reducible (exact HB.out)))⟩⟩
 case round =>
  clear H'
  obtain ⟨x3_1, x9_1, rfl, rfl, HA, HK1, HB⟩ := hrel
  cases gk with
  | zero => exact absurd HA.out (by simp [edit_right.l0])
  | succ k1 =>
   have H := HA.out
   clear HA
   simp only [edit_right.l0] at H
   by_cases c2 : x9_1 < (l0.length : Int)
   ·rw [if_pos c2] at H
    have c2b0 : decide (x9_1 < (l0.length : Int)) = true := decide_eq_true c2
    clear c2
    by_cases c3 : 0 ≤ x9_1
    ·rw [if_pos c3] at H
     have c3b0 : decide (0 ≤ x9_1) = true := decide_eq_true c3
     clear c3
     by_cases c4 : x9_1 < (l0.length : Int)
     ·rw [if_pos c4] at H
      have c4b0 : decide (x9_1 < (l0.length : Int)) = true := decide_eq_true c4
      clear c4
      replace H := Option.bind_eq_some_iff.mp H
      obtain ⟨t143, A50, H⟩ := H
      replace H : (if t143 = 0 then (some false) else (if t143 = x3_1 then (some false) else (if x3_1 = 3 then (if t143 = 2 then (some false) else (edit_right.l0 k1 l0 t143 l0 (l0.length : Int) (wrap64 (x9_1 + 1)))) else (edit_right.l0 k1 l0 t143 l0 (l0.length : Int) (wrap64 (x9_1 + 1)))))) = some r := H
      have A5 := Aside0.mk A50
      clear A50
      by_cases c6 : t143 = 0
      ·rw [if_pos c6] at H
       have c6b0 : (t143 == 0) = true := beq_iff_eq.mpr c6
       have c6b1 : (t143 != 0) = false := bne_eq_false_iff_eq.mpr c6
       clear c6
       obtain rfl := Option.some.inj H
       have p141 : 0 ≤ (x9_1 : Int) := of_decide_eq_true (by (with_reducible assumption))
       have q141 : x9_1 < (l0.length : Int) := of_decide_eq_true (by (with_reducible assumption))
       obtain ⟨ad141, e141, hx141_0, hx141_1, hx141_2⟩ := at_T49 HR0.out x9_1 p141 q141
       cases e141
       replace hx141_0 := (HB.out.cell (World.block_lt_of_cell? w _ hx141_0)).trans hx141_0
       replace hx141_1 := (HB.out.cell (World.block_lt_of_cell? w _ hx141_1)).trans hx141_1
       replace hx141_2 := (HB.out.cell (World.block_lt_of_cell? w _ hx141_2)).trans hx141_2
       replace p141 := eq_true p141
       replace q141 := eq_true q141
       go_wp2_with (first | ((with_reducible refine gate_dst (N := 5) rfl ?_); refine box_event ?hg (N := 5) ?hd (cs := #[.int .i64 0, .string (⟨#[]⟩ : ByteArray), .int .i64 0]) (t := 49) ?hr ?_; (case hd => rfl); (case hg => rfl); (case hr => (go_simp; done)); intro gb142 hg w7 hbox hb; have n0_ := Aside0.mk (below_step (by repeat ((with_reducible (exact HB.out)))) hb); have n1_ := Aside0.mk (hbox); have n2_ := Aside0.mk ((by rw [hg]; exact (below_size (by repeat ((with_reducible (exact HB.out))))) : w.heap.size ≤ gb142)); have n3_ := Aside0.mk ((by rw [hg]; exact (below_size (by repeat ((with_reducible (exact HB.out))))) : w.heap.size ≤ gb142)); clear HB; have HB := n0_; have BK142 := n1_; have GW142 := n2_; have GE142 := n3_; clear n0_ n1_ n2_ n3_; clear hb hbox hg; have hcz8_0 : w7.cell? ⟨gb142, 0, none⟩ = some (.int .i64 0) := (blk_cell BK142.out 0).trans rfl; have hcz8_1 : w7.cell? ⟨gb142, 1, none⟩ = some (.string (⟨#[]⟩ : ByteArray)) := (blk_cell BK142.out 1).trans rfl; have hcz8_2 : w7.cell? ⟨gb142, 2, none⟩ = some (.int .i64 0) := (blk_cell BK142.out 2).trans rfl; have hfz8_0 := blk_frozen BK142.out 0; have hfz8_1 := blk_frozen BK142.out 1; have hfz8_2 := blk_frozen BK142.out 2) | ((with_reducible refine gate_callee (f := 52) rfl ?_); refine goesL_ (some 14) rfl rfl Try.func52 (by kernel_rfl) rfl #[.agg #[.int .i64 ((rd_T49 l0 x9_1).f0), .string ((rd_T49 l0 x9_1).f1), .int .i64 ((rd_T49 l0 x9_1).f2)]] rfl (by (try simp only [List.map_toArray, List.map_cons, List.map_nil]); (rfl)) ?_; (with_reducible refine (edit_kind.calls ((rd_T49 l0 x9_1).f0) ((rd_T49 l0 x9_1).f1) ((rd_T49 l0 x9_1).f2) t143 _ A5.out).mono ?_); rintro e w9 ⟨rfl, hb⟩; refine ⟨_, rfl, ?_⟩; have n0_ := Aside0.mk (blk_below (g := gb142) (o := .cells #[.int .i64 ((rd_T49 l0 x9_1).f0), .string ((rd_T49 l0 x9_1).f1), .int .i64 ((rd_T49 l0 x9_1).f2)] 49 (0, 0)) (by (with_reducible repeat ((refine blk_drew ?_))); refine blk_put (cs := #[.int .i64 ((rd_T49 l0 x9_1).f0), .string ((rd_T49 l0 x9_1).f1), .int .i64 0]) ?_ 2 _ rfl; (with_reducible repeat ((refine blk_drew ?_))); refine blk_put (cs := #[.int .i64 ((rd_T49 l0 x9_1).f0), .string (⟨#[]⟩ : ByteArray), .int .i64 0]) ?_ 1 _ rfl; (with_reducible repeat ((refine blk_drew ?_))); refine blk_put (cs := #[.int .i64 0, .string (⟨#[]⟩ : ByteArray), .int .i64 0]) ?_ 0 _ rfl; (with_reducible repeat ((refine blk_drew ?_))); exact BK142.out) hb); have n1_ := Aside0.mk (below_step (by repeat ((with_reducible first | exact HB.out | refine below_set ?_ GE142.out))) hb); clear BK142; clear HB; have BK142 := n0_; have HB := n1_; clear n0_ n1_; (try clear hb); (try clear hb2); (try clear hk); (try clear hi)))
       go_ret
       exact ⟨by (rfl), by repeat ((with_reducible (exact HB.out)))⟩
      ·rw [if_neg c6] at H
       have c6b0 : (t143 == 0) = false := beq_eq_false_iff_ne.mpr c6
       have c6b1 : (t143 != 0) = true := bne_iff_ne.mpr c6
       by_cases c10 : t143 = x3_1
       ·rw [if_pos c10] at H
        have c10b0 : (t143 == x3_1) = true := beq_iff_eq.mpr c10
        have c10b1 : (t143 != x3_1) = false := bne_eq_false_iff_eq.mpr c10
        clear c10
        obtain rfl := Option.some.inj H
        have p141 : 0 ≤ (x9_1 : Int) := of_decide_eq_true (by (with_reducible assumption))
        have q141 : x9_1 < (l0.length : Int) := of_decide_eq_true (by (with_reducible assumption))
        obtain ⟨ad141, e141, hx141_0, hx141_1, hx141_2⟩ := at_T49 HR0.out x9_1 p141 q141
        cases e141
        replace hx141_0 := (HB.out.cell (World.block_lt_of_cell? w _ hx141_0)).trans hx141_0
        replace hx141_1 := (HB.out.cell (World.block_lt_of_cell? w _ hx141_1)).trans hx141_1
        replace hx141_2 := (HB.out.cell (World.block_lt_of_cell? w _ hx141_2)).trans hx141_2
        replace p141 := eq_true p141
        replace q141 := eq_true q141
        go_wp2_with (first | ((with_reducible refine gate_dst (N := 5) rfl ?_); refine box_event ?hg (N := 5) ?hd (cs := #[.int .i64 0, .string (⟨#[]⟩ : ByteArray), .int .i64 0]) (t := 49) ?hr ?_; (case hd => rfl); (case hg => rfl); (case hr => (go_simp; done)); intro gb142 hg w11 hbox hb; have n0_ := Aside0.mk (below_step (by repeat ((with_reducible (exact HB.out)))) hb); have n1_ := Aside0.mk (hbox); have n2_ := Aside0.mk ((by rw [hg]; exact (below_size (by repeat ((with_reducible (exact HB.out))))) : w.heap.size ≤ gb142)); have n3_ := Aside0.mk ((by rw [hg]; exact (below_size (by repeat ((with_reducible (exact HB.out))))) : w.heap.size ≤ gb142)); clear HB; have HB := n0_; have BK142 := n1_; have GW142 := n2_; have GE142 := n3_; clear n0_ n1_ n2_ n3_; clear hb hbox hg; have hcz12_0 : w11.cell? ⟨gb142, 0, none⟩ = some (.int .i64 0) := (blk_cell BK142.out 0).trans rfl; have hcz12_1 : w11.cell? ⟨gb142, 1, none⟩ = some (.string (⟨#[]⟩ : ByteArray)) := (blk_cell BK142.out 1).trans rfl; have hcz12_2 : w11.cell? ⟨gb142, 2, none⟩ = some (.int .i64 0) := (blk_cell BK142.out 2).trans rfl; have hfz12_0 := blk_frozen BK142.out 0; have hfz12_1 := blk_frozen BK142.out 1; have hfz12_2 := blk_frozen BK142.out 2) | ((with_reducible refine gate_callee (f := 52) rfl ?_); refine goesL_ (some 14) rfl rfl Try.func52 (by kernel_rfl) rfl #[.agg #[.int .i64 ((rd_T49 l0 x9_1).f0), .string ((rd_T49 l0 x9_1).f1), .int .i64 ((rd_T49 l0 x9_1).f2)]] rfl (by (try simp only [List.map_toArray, List.map_cons, List.map_nil]); (rfl)) ?_; (with_reducible refine (edit_kind.calls ((rd_T49 l0 x9_1).f0) ((rd_T49 l0 x9_1).f1) ((rd_T49 l0 x9_1).f2) t143 _ A5.out).mono ?_); rintro e w13 ⟨rfl, hb⟩; refine ⟨_, rfl, ?_⟩; have n0_ := Aside0.mk (blk_below (g := gb142) (o := .cells #[.int .i64 ((rd_T49 l0 x9_1).f0), .string ((rd_T49 l0 x9_1).f1), .int .i64 ((rd_T49 l0 x9_1).f2)] 49 (0, 0)) (by (with_reducible repeat ((refine blk_drew ?_))); refine blk_put (cs := #[.int .i64 ((rd_T49 l0 x9_1).f0), .string ((rd_T49 l0 x9_1).f1), .int .i64 0]) ?_ 2 _ rfl; (with_reducible repeat ((refine blk_drew ?_))); refine blk_put (cs := #[.int .i64 ((rd_T49 l0 x9_1).f0), .string (⟨#[]⟩ : ByteArray), .int .i64 0]) ?_ 1 _ rfl; (with_reducible repeat ((refine blk_drew ?_))); refine blk_put (cs := #[.int .i64 0, .string (⟨#[]⟩ : ByteArray), .int .i64 0]) ?_ 0 _ rfl; (with_reducible repeat ((refine blk_drew ?_))); exact BK142.out) hb); have n1_ := Aside0.mk (below_step (by repeat ((with_reducible first | exact HB.out | refine below_set ?_ GE142.out))) hb); clear BK142; clear HB; have BK142 := n0_; have HB := n1_; clear n0_ n1_; (try clear hb); (try clear hb2); (try clear hk); (try clear hi)))
        go_ret
        exact ⟨by (rfl), by repeat ((with_reducible (exact HB.out)))⟩
       ·rw [if_neg c10] at H
        have c10b0 : (t143 == x3_1) = false := beq_eq_false_iff_ne.mpr c10
        have c10b1 : (t143 != x3_1) = true := bne_iff_ne.mpr c10
        by_cases c14 : x3_1 = 3
        ·rw [if_pos c14] at H
         have c14b0 : (x3_1 == 3) = true := beq_iff_eq.mpr c14
         have c14b1 : (x3_1 != 3) = false := bne_eq_false_iff_eq.mpr c14
         clear c14
         by_cases c15 : t143 = 2
         ·rw [if_pos c15] at H
          have c15b0 : (t143 == 2) = true := beq_iff_eq.mpr c15
          have c15b1 : (t143 != 2) = false := bne_eq_false_iff_eq.mpr c15
          clear c15
          obtain rfl := Option.some.inj H
          have p141 : 0 ≤ (x9_1 : Int) := of_decide_eq_true (by (with_reducible assumption))
          have q141 : x9_1 < (l0.length : Int) := of_decide_eq_true (by (with_reducible assumption))
          obtain ⟨ad141, e141, hx141_0, hx141_1, hx141_2⟩ := at_T49 HR0.out x9_1 p141 q141
          cases e141
          replace hx141_0 := (HB.out.cell (World.block_lt_of_cell? w _ hx141_0)).trans hx141_0
          replace hx141_1 := (HB.out.cell (World.block_lt_of_cell? w _ hx141_1)).trans hx141_1
          replace hx141_2 := (HB.out.cell (World.block_lt_of_cell? w _ hx141_2)).trans hx141_2
          replace p141 := eq_true p141
          replace q141 := eq_true q141
          go_wp2_with (first | ((with_reducible refine gate_dst (N := 5) rfl ?_); refine box_event ?hg (N := 5) ?hd (cs := #[.int .i64 0, .string (⟨#[]⟩ : ByteArray), .int .i64 0]) (t := 49) ?hr ?_; (case hd => rfl); (case hg => rfl); (case hr => (go_simp; done)); intro gb142 hg w16 hbox hb; have n0_ := Aside0.mk (below_step (by repeat ((with_reducible (exact HB.out)))) hb); have n1_ := Aside0.mk (hbox); have n2_ := Aside0.mk ((by rw [hg]; exact (below_size (by repeat ((with_reducible (exact HB.out))))) : w.heap.size ≤ gb142)); have n3_ := Aside0.mk ((by rw [hg]; exact (below_size (by repeat ((with_reducible (exact HB.out))))) : w.heap.size ≤ gb142)); clear HB; have HB := n0_; have BK142 := n1_; have GW142 := n2_; have GE142 := n3_; clear n0_ n1_ n2_ n3_; clear hb hbox hg; have hcz17_0 : w16.cell? ⟨gb142, 0, none⟩ = some (.int .i64 0) := (blk_cell BK142.out 0).trans rfl; have hcz17_1 : w16.cell? ⟨gb142, 1, none⟩ = some (.string (⟨#[]⟩ : ByteArray)) := (blk_cell BK142.out 1).trans rfl; have hcz17_2 : w16.cell? ⟨gb142, 2, none⟩ = some (.int .i64 0) := (blk_cell BK142.out 2).trans rfl; have hfz17_0 := blk_frozen BK142.out 0; have hfz17_1 := blk_frozen BK142.out 1; have hfz17_2 := blk_frozen BK142.out 2) | ((with_reducible refine gate_callee (f := 52) rfl ?_); refine goesL_ (some 14) rfl rfl Try.func52 (by kernel_rfl) rfl #[.agg #[.int .i64 ((rd_T49 l0 x9_1).f0), .string ((rd_T49 l0 x9_1).f1), .int .i64 ((rd_T49 l0 x9_1).f2)]] rfl (by (try simp only [List.map_toArray, List.map_cons, List.map_nil]); (rfl)) ?_; (with_reducible refine (edit_kind.calls ((rd_T49 l0 x9_1).f0) ((rd_T49 l0 x9_1).f1) ((rd_T49 l0 x9_1).f2) t143 _ A5.out).mono ?_); rintro e w18 ⟨rfl, hb⟩; refine ⟨_, rfl, ?_⟩; have n0_ := Aside0.mk (blk_below (g := gb142) (o := .cells #[.int .i64 ((rd_T49 l0 x9_1).f0), .string ((rd_T49 l0 x9_1).f1), .int .i64 ((rd_T49 l0 x9_1).f2)] 49 (0, 0)) (by (with_reducible repeat ((refine blk_drew ?_))); refine blk_put (cs := #[.int .i64 ((rd_T49 l0 x9_1).f0), .string ((rd_T49 l0 x9_1).f1), .int .i64 0]) ?_ 2 _ rfl; (with_reducible repeat ((refine blk_drew ?_))); refine blk_put (cs := #[.int .i64 ((rd_T49 l0 x9_1).f0), .string (⟨#[]⟩ : ByteArray), .int .i64 0]) ?_ 1 _ rfl; (with_reducible repeat ((refine blk_drew ?_))); refine blk_put (cs := #[.int .i64 0, .string (⟨#[]⟩ : ByteArray), .int .i64 0]) ?_ 0 _ rfl; (with_reducible repeat ((refine blk_drew ?_))); exact BK142.out) hb); have n1_ := Aside0.mk (below_step (by repeat ((with_reducible first | exact HB.out | refine below_set ?_ GE142.out))) hb); clear BK142; clear HB; have BK142 := n0_; have HB := n1_; clear n0_ n1_; (try clear hb); (try clear hb2); (try clear hk); (try clear hi)))
          go_ret
          exact ⟨by (rfl), by repeat ((with_reducible (exact HB.out)))⟩
         ·rw [if_neg c15] at H
          have c15b0 : (t143 == 2) = false := beq_eq_false_iff_ne.mpr c15
          have c15b1 : (t143 != 2) = true := bne_iff_ne.mpr c15
          have H' := Aside0.mk H
          clear H
          have p141 : 0 ≤ (x9_1 : Int) := of_decide_eq_true (by (with_reducible assumption))
          have q141 : x9_1 < (l0.length : Int) := of_decide_eq_true (by (with_reducible assumption))
          obtain ⟨ad141, e141, hx141_0, hx141_1, hx141_2⟩ := at_T49 HR0.out x9_1 p141 q141
          cases e141
          replace hx141_0 := (HB.out.cell (World.block_lt_of_cell? w _ hx141_0)).trans hx141_0
          replace hx141_1 := (HB.out.cell (World.block_lt_of_cell? w _ hx141_1)).trans hx141_1
          replace hx141_2 := (HB.out.cell (World.block_lt_of_cell? w _ hx141_2)).trans hx141_2
          replace p141 := eq_true p141
          replace q141 := eq_true q141
          go_wp2_with (first | ((with_reducible refine gate_dst (N := 5) rfl ?_); refine box_event ?hg (N := 5) ?hd (cs := #[.int .i64 0, .string (⟨#[]⟩ : ByteArray), .int .i64 0]) (t := 49) ?hr ?_; (case hd => rfl); (case hg => rfl); (case hr => (go_simp; done)); intro gb142 hg w19 hbox hb; have n0_ := Aside0.mk (below_step (by repeat ((with_reducible (exact HB.out)))) hb); have n1_ := Aside0.mk (hbox); have n2_ := Aside0.mk ((by rw [hg]; exact (below_size (by repeat ((with_reducible (exact HB.out))))) : w.heap.size ≤ gb142)); have n3_ := Aside0.mk ((by rw [hg]; exact (below_size (by repeat ((with_reducible (exact HB.out))))) : w.heap.size ≤ gb142)); clear HB; have HB := n0_; have BK142 := n1_; have GW142 := n2_; have GE142 := n3_; clear n0_ n1_ n2_ n3_; clear hb hbox hg; have hcz20_0 : w19.cell? ⟨gb142, 0, none⟩ = some (.int .i64 0) := (blk_cell BK142.out 0).trans rfl; have hcz20_1 : w19.cell? ⟨gb142, 1, none⟩ = some (.string (⟨#[]⟩ : ByteArray)) := (blk_cell BK142.out 1).trans rfl; have hcz20_2 : w19.cell? ⟨gb142, 2, none⟩ = some (.int .i64 0) := (blk_cell BK142.out 2).trans rfl; have hfz20_0 := blk_frozen BK142.out 0; have hfz20_1 := blk_frozen BK142.out 1; have hfz20_2 := blk_frozen BK142.out 2) | ((with_reducible refine gate_callee (f := 52) rfl ?_); refine goesL_ (some 14) rfl rfl Try.func52 (by kernel_rfl) rfl #[.agg #[.int .i64 ((rd_T49 l0 x9_1).f0), .string ((rd_T49 l0 x9_1).f1), .int .i64 ((rd_T49 l0 x9_1).f2)]] rfl (by (try simp only [List.map_toArray, List.map_cons, List.map_nil]); (rfl)) ?_; (with_reducible refine (edit_kind.calls ((rd_T49 l0 x9_1).f0) ((rd_T49 l0 x9_1).f1) ((rd_T49 l0 x9_1).f2) t143 _ A5.out).mono ?_); rintro e w21 ⟨rfl, hb⟩; refine ⟨_, rfl, ?_⟩; have n0_ := Aside0.mk (blk_below (g := gb142) (o := .cells #[.int .i64 ((rd_T49 l0 x9_1).f0), .string ((rd_T49 l0 x9_1).f1), .int .i64 ((rd_T49 l0 x9_1).f2)] 49 (0, 0)) (by (with_reducible repeat ((refine blk_drew ?_))); refine blk_put (cs := #[.int .i64 ((rd_T49 l0 x9_1).f0), .string ((rd_T49 l0 x9_1).f1), .int .i64 0]) ?_ 2 _ rfl; (with_reducible repeat ((refine blk_drew ?_))); refine blk_put (cs := #[.int .i64 ((rd_T49 l0 x9_1).f0), .string (⟨#[]⟩ : ByteArray), .int .i64 0]) ?_ 1 _ rfl; (with_reducible repeat ((refine blk_drew ?_))); refine blk_put (cs := #[.int .i64 0, .string (⟨#[]⟩ : ByteArray), .int .i64 0]) ?_ 0 _ rfl; (with_reducible repeat ((refine blk_drew ?_))); exact BK142.out) hb); have n1_ := Aside0.mk (below_step (by repeat ((with_reducible first | exact HB.out | refine below_set ?_ GE142.out))) hb); clear BK142; clear HB; have BK142 := n0_; have HB := n1_; clear n0_ n1_; (try clear hb); (try clear hb2); (try clear hk); (try clear hi)))
          go_roundg k1
          case measure => have := HK1.out; omega
          case rel => exact ⟨(t143), (wrap64 (x9_1 + 1)), (by (rfl)), (by (rfl)), H', ⟨by have := HK1.out; omega⟩, ⟨by repeat ((with_reducible (exact HB.out)))⟩⟩
        ·rw [if_neg c14] at H
         have c14b0 : (x3_1 == 3) = false := beq_eq_false_iff_ne.mpr c14
         have c14b1 : (x3_1 != 3) = true := bne_iff_ne.mpr c14
         have H' := Aside0.mk H
         clear H
         have p141 : 0 ≤ (x9_1 : Int) := of_decide_eq_true (by (with_reducible assumption))
         have q141 : x9_1 < (l0.length : Int) := of_decide_eq_true (by (with_reducible assumption))
         obtain ⟨ad141, e141, hx141_0, hx141_1, hx141_2⟩ := at_T49 HR0.out x9_1 p141 q141
         cases e141
         replace hx141_0 := (HB.out.cell (World.block_lt_of_cell? w _ hx141_0)).trans hx141_0
         replace hx141_1 := (HB.out.cell (World.block_lt_of_cell? w _ hx141_1)).trans hx141_1
         replace hx141_2 := (HB.out.cell (World.block_lt_of_cell? w _ hx141_2)).trans hx141_2
         replace p141 := eq_true p141
         replace q141 := eq_true q141
         go_wp2_with (first | ((with_reducible refine gate_dst (N := 5) rfl ?_); refine box_event ?hg (N := 5) ?hd (cs := #[.int .i64 0, .string (⟨#[]⟩ : ByteArray), .int .i64 0]) (t := 49) ?hr ?_; (case hd => rfl); (case hg => rfl); (case hr => (go_simp; done)); intro gb142 hg w22 hbox hb; have n0_ := Aside0.mk (below_step (by repeat ((with_reducible (exact HB.out)))) hb); have n1_ := Aside0.mk (hbox); have n2_ := Aside0.mk ((by rw [hg]; exact (below_size (by repeat ((with_reducible (exact HB.out))))) : w.heap.size ≤ gb142)); have n3_ := Aside0.mk ((by rw [hg]; exact (below_size (by repeat ((with_reducible (exact HB.out))))) : w.heap.size ≤ gb142)); clear HB; have HB := n0_; have BK142 := n1_; have GW142 := n2_; have GE142 := n3_; clear n0_ n1_ n2_ n3_; clear hb hbox hg; have hcz23_0 : w22.cell? ⟨gb142, 0, none⟩ = some (.int .i64 0) := (blk_cell BK142.out 0).trans rfl; have hcz23_1 : w22.cell? ⟨gb142, 1, none⟩ = some (.string (⟨#[]⟩ : ByteArray)) := (blk_cell BK142.out 1).trans rfl; have hcz23_2 : w22.cell? ⟨gb142, 2, none⟩ = some (.int .i64 0) := (blk_cell BK142.out 2).trans rfl; have hfz23_0 := blk_frozen BK142.out 0; have hfz23_1 := blk_frozen BK142.out 1; have hfz23_2 := blk_frozen BK142.out 2) | ((with_reducible refine gate_callee (f := 52) rfl ?_); refine goesL_ (some 14) rfl rfl Try.func52 (by kernel_rfl) rfl #[.agg #[.int .i64 ((rd_T49 l0 x9_1).f0), .string ((rd_T49 l0 x9_1).f1), .int .i64 ((rd_T49 l0 x9_1).f2)]] rfl (by (try simp only [List.map_toArray, List.map_cons, List.map_nil]); (rfl)) ?_; (with_reducible refine (edit_kind.calls ((rd_T49 l0 x9_1).f0) ((rd_T49 l0 x9_1).f1) ((rd_T49 l0 x9_1).f2) t143 _ A5.out).mono ?_); rintro e w24 ⟨rfl, hb⟩; refine ⟨_, rfl, ?_⟩; have n0_ := Aside0.mk (blk_below (g := gb142) (o := .cells #[.int .i64 ((rd_T49 l0 x9_1).f0), .string ((rd_T49 l0 x9_1).f1), .int .i64 ((rd_T49 l0 x9_1).f2)] 49 (0, 0)) (by (with_reducible repeat ((refine blk_drew ?_))); refine blk_put (cs := #[.int .i64 ((rd_T49 l0 x9_1).f0), .string ((rd_T49 l0 x9_1).f1), .int .i64 0]) ?_ 2 _ rfl; (with_reducible repeat ((refine blk_drew ?_))); refine blk_put (cs := #[.int .i64 ((rd_T49 l0 x9_1).f0), .string (⟨#[]⟩ : ByteArray), .int .i64 0]) ?_ 1 _ rfl; (with_reducible repeat ((refine blk_drew ?_))); refine blk_put (cs := #[.int .i64 0, .string (⟨#[]⟩ : ByteArray), .int .i64 0]) ?_ 0 _ rfl; (with_reducible repeat ((refine blk_drew ?_))); exact BK142.out) hb); have n1_ := Aside0.mk (below_step (by repeat ((with_reducible first | exact HB.out | refine below_set ?_ GE142.out))) hb); clear BK142; clear HB; have BK142 := n0_; have HB := n1_; clear n0_ n1_; (try clear hb); (try clear hb2); (try clear hk); (try clear hi)))
         go_roundg k1
         case measure => have := HK1.out; omega
         case rel => exact ⟨(t143), (wrap64 (x9_1 + 1)), (by (rfl)), (by (rfl)), H', ⟨by have := HK1.out; omega⟩, ⟨by repeat ((with_reducible (exact HB.out)))⟩⟩
     ·rw [if_neg c4] at H
      exact absurd H (by simp)
    ·rw [if_neg c3] at H
     exact absurd H (by simp)
   ·rw [if_neg c2] at H
    have c2b0 : decide (x9_1 < (l0.length : Int)) = false := decide_eq_false c2
    clear c2
    obtain rfl := Option.some.inj H
    go_wp2
    go_ret
    exact ⟨by (rfl), by repeat ((with_reducible (exact HB.out)))⟩
end Go.Proofs.Ytjbnffadfohofaa.P
end
-- MERGED YtjbnffadfohofaaPeditsums
section
namespace Go.Proofs.Ytjbnffadfohofaa.P
open Go.RowKit Go.Proofs.YtjbnffadfohofaaW.PrintWords Go.Proofs.YtjbnffadfohofaaW.PrintLast Go.Proofs.YtjbnffadfohofaaW.PrintMore
attribute [local go_sem] max2_int min2_int max_two min_two max_three min_three max_four min_four   -- for this text's walks alone
set_option linter.unusedVariables false
set_option linter.unusedSimpArgs false
def edit_sums.l0 : Nat → Int → Int → List (S49) → Int → Int → Option (Int × Int × Bool)
 | 0, _, _, _, _, _ => none
 | k + 1, x2, x3, x7, x8, x9 => if x9 < x8 then (if 0 ≤ x9 then (if x9 < (x7.length : Int) then (if (mx ((rd_T49 x7 x9).f0) ((rd_T49 x7 x9).f2)) > (wrap64 (16777216 - x2)) then (some (0, 0, false)) else (if (mx ((rd_T49 x7 x9).f0) (((rd_T49 x7 x9).f1).size : Int)) > (wrap64 (16777216 - x3)) then (some (0, 0, false)) else (edit_sums.l0 k (wrap64 (x2 + (wrap64 (((rd_T49 x7 x9).f0) + ((rd_T49 x7 x9).f2))))) (wrap64 (x3 + (wrap64 (((rd_T49 x7 x9).f0) + (((rd_T49 x7 x9).f1).size : Int))))) x7 x8 (wrap64 (x9 + 1))))) else (none)) else (none)) else (some (x2, x3, true))
def edit_sums.f (k : Nat) (l0 : List (S49)) : Option (Int × Int × Bool) := edit_sums.l0 k 0 0 l0 (l0.length : Int) 0
set_option maxHeartbeats 8000000 in
set_option maxRecDepth 100000 in
theorem edit_sums.calls (k : Nat) (A0 : Option Addr) (c0 : Nat) (l0 : List (S49)) (r1 : Int) (r2 : Int) (r3 : Bool) (w : World) (hr0 : Kd.C k49 w A0 l0.length l0) (hc0 : l0.length ≤ c0) (h : edit_sums.f k l0 = some (r1, r2, r3)) :
  Calls Try.prog 41 #[.slice A0 l0.length c0] w fun e w' => e = .returned (.tuple #[.int .i64 r1, .int .i64 r2, .bool r3]) ∧ Below w.heap.size w w' := by
 have hu49 := Try.underlying49
 have HR0 := Aside0.mk hr0
 have HC0 := Aside0.mk hc0
 clear hr0 hc0
 have HB := Aside0.mk (Below.refl w.heap.size w)
 have H : (edit_sums.l0 k 0 0 l0 (l0.length : Int) 0) = some (r1, r2, r3) := h
 clear h
 have H' := Aside0.mk H
 clear H
 go_enter Try.func41, Try.ntmps41
 go_wp2
 go_loopg [2, 3, 9] k (fun kq v2 v3 v9 w' => ∃ (x2_1 : Int) (x3_1 : Int) (x9_1 : Int), v2 = .int .i64 x2_1 ∧ v3 = .int .i64 x3_1 ∧ v9 = .int .i64 x9_1 ∧ Aside0 (edit_sums.l0 kq x2_1 x3_1 l0 (l0.length : Int) x9_1 = some (r1, r2, r3)) ∧ Aside0 (kq ≤ k) ∧ Aside0 (Below w.heap.size w w'))
 case atStart => exact ⟨(0), (0), (0), (by (rfl)), (by (rfl)), (by (rfl)), H', ⟨Nat.le_refl _⟩, ⟨by repeat ((with_reducible (exact HB.out)))⟩⟩
 case round =>
  clear H'
  obtain ⟨x2_1, x3_1, x9_1, rfl, rfl, rfl, HA, HK1, HB⟩ := hrel
  cases gk with
  | zero => exact absurd HA.out (by simp [edit_sums.l0])
  | succ k1 =>
   have H := HA.out
   clear HA
   simp only [edit_sums.l0] at H
   by_cases c2 : x9_1 < (l0.length : Int)
   ·rw [if_pos c2] at H
    have c2b0 : decide (x9_1 < (l0.length : Int)) = true := decide_eq_true c2
    clear c2
    by_cases c3 : 0 ≤ x9_1
    ·rw [if_pos c3] at H
     have c3b0 : decide (0 ≤ x9_1) = true := decide_eq_true c3
     clear c3
     by_cases c4 : x9_1 < (l0.length : Int)
     ·rw [if_pos c4] at H
      have c4b0 : decide (x9_1 < (l0.length : Int)) = true := decide_eq_true c4
      clear c4
      obtain ⟨ji5, hji5⟩ : ∃ j_ : Int, (mx ((rd_T49 l0 x9_1).f0) ((rd_T49 l0 x9_1).f2)) = j_ := ⟨_, rfl⟩
      replace H : (if (ji5) > (wrap64 (16777216 - x2_1)) then (some (0, 0, false)) else (if (mx ((rd_T49 l0 x9_1).f0) (((rd_T49 l0 x9_1).f1).size : Int)) > (wrap64 (16777216 - x3_1)) then (some (0, 0, false)) else (edit_sums.l0 k1 (wrap64 (x2_1 + (wrap64 (((rd_T49 l0 x9_1).f0) + ((rd_T49 l0 x9_1).f2))))) (wrap64 (x3_1 + (wrap64 (((rd_T49 l0 x9_1).f0) + (((rd_T49 l0 x9_1).f1).size : Int))))) l0 (l0.length : Int) (wrap64 (x9_1 + 1))))) = some (r1, r2, r3) := by (rw [hji5] at H; exact H)
      have hji5_ : (if ((rd_T49 l0 x9_1).f0) < ((rd_T49 l0 x9_1).f2) then ((rd_T49 l0 x9_1).f2) else ((rd_T49 l0 x9_1).f0)) = ji5 := hji5
      (try simp only [Int.ofNat_lt] at hji5_)
      by_cases c6 : (ji5) > (wrap64 (16777216 - x2_1))
      ·rw [if_pos c6] at H
       have c6b0 : decide ((wrap64 (16777216 - x2_1)) < (ji5)) = true := decide_eq_true c6
       clear c6
       simp only [Option.some.injEq, Prod.mk.injEq] at H
       obtain ⟨rfl, rfl, rfl⟩ := H
       have p144 : 0 ≤ (x9_1 : Int) := of_decide_eq_true (by (with_reducible assumption))
       have q144 : x9_1 < (l0.length : Int) := of_decide_eq_true (by (with_reducible assumption))
       obtain ⟨ad144, e144, hx144_0, hx144_1, hx144_2⟩ := at_T49 HR0.out x9_1 p144 q144
       cases e144
       replace hx144_0 := (HB.out.cell (World.block_lt_of_cell? w _ hx144_0)).trans hx144_0
       replace hx144_1 := (HB.out.cell (World.block_lt_of_cell? w _ hx144_1)).trans hx144_1
       replace hx144_2 := (HB.out.cell (World.block_lt_of_cell? w _ hx144_2)).trans hx144_2
       replace p144 := eq_true p144
       replace q144 := eq_true q144
       go_wp2_with (first | ((with_reducible refine gate_dst (N := 6) rfl ?_); (try (refine gate_guard (by rfl) ?_; dsimp only)); refine box_event ?hg (N := 6) ?hd (cs := #[.int .i64 0, .string (⟨#[]⟩ : ByteArray), .int .i64 0]) (t := 49) ?hr ?_; (case hd => rfl); (case hg => rfl); (case hr => (go_simp; done)); intro gb145 hg w7 hbox hb; have n0_ := Aside0.mk (below_step (by repeat ((with_reducible (exact HB.out)))) hb); have n1_ := Aside0.mk (hbox); have n2_ := Aside0.mk ((by rw [hg]; exact (below_size (by repeat ((with_reducible (exact HB.out))))) : w.heap.size ≤ gb145)); have n3_ := Aside0.mk ((by rw [hg]; exact (below_size (by repeat ((with_reducible (exact HB.out))))) : w.heap.size ≤ gb145)); clear HB; have HB := n0_; have BK145 := n1_; have GW145 := n2_; have GE145 := n3_; clear n0_ n1_ n2_ n3_; clear hb hbox hg; have hcz8_0 : w7.cell? ⟨gb145, 0, none⟩ = some (.int .i64 0) := (blk_cell BK145.out 0).trans rfl; have hcz8_1 : w7.cell? ⟨gb145, 1, none⟩ = some (.string (⟨#[]⟩ : ByteArray)) := (blk_cell BK145.out 1).trans rfl; have hcz8_2 : w7.cell? ⟨gb145, 2, none⟩ = some (.int .i64 0) := (blk_cell BK145.out 2).trans rfl; have hfz8_0 := blk_frozen BK145.out 0; have hfz8_1 := blk_frozen BK145.out 1; have hfz8_2 := blk_frozen BK145.out 2))
       go_ret3
       exact ⟨by (rfl), by repeat ((with_reducible first | exact HB.out | refine below_set ?_ GE145.out))⟩
      ·rw [if_neg c6] at H
       have c6b0 : decide ((wrap64 (16777216 - x2_1)) < (ji5)) = false := decide_eq_false c6
       clear c6
       obtain ⟨ji9, hji9⟩ : ∃ j_ : Int, (mx ((rd_T49 l0 x9_1).f0) (((rd_T49 l0 x9_1).f1).size : Int)) = j_ := ⟨_, rfl⟩
       replace H : (if (ji9) > (wrap64 (16777216 - x3_1)) then (some (0, 0, false)) else (edit_sums.l0 k1 (wrap64 (x2_1 + (wrap64 (((rd_T49 l0 x9_1).f0) + ((rd_T49 l0 x9_1).f2))))) (wrap64 (x3_1 + (wrap64 (((rd_T49 l0 x9_1).f0) + (((rd_T49 l0 x9_1).f1).size : Int))))) l0 (l0.length : Int) (wrap64 (x9_1 + 1)))) = some (r1, r2, r3) := by (rw [hji9] at H; exact H)
       have hji9_ : (if ((rd_T49 l0 x9_1).f0) < (((rd_T49 l0 x9_1).f1).size : Int) then (((rd_T49 l0 x9_1).f1).size : Int) else ((rd_T49 l0 x9_1).f0)) = ji9 := hji9
       (try simp only [Int.ofNat_lt] at hji9_)
       by_cases c10 : (ji9) > (wrap64 (16777216 - x3_1))
       ·rw [if_pos c10] at H
        have c10b0 : decide ((wrap64 (16777216 - x3_1)) < (ji9)) = true := decide_eq_true c10
        clear c10
        simp only [Option.some.injEq, Prod.mk.injEq] at H
        obtain ⟨rfl, rfl, rfl⟩ := H
        have p144 : 0 ≤ (x9_1 : Int) := of_decide_eq_true (by (with_reducible assumption))
        have q144 : x9_1 < (l0.length : Int) := of_decide_eq_true (by (with_reducible assumption))
        obtain ⟨ad144, e144, hx144_0, hx144_1, hx144_2⟩ := at_T49 HR0.out x9_1 p144 q144
        cases e144
        replace hx144_0 := (HB.out.cell (World.block_lt_of_cell? w _ hx144_0)).trans hx144_0
        replace hx144_1 := (HB.out.cell (World.block_lt_of_cell? w _ hx144_1)).trans hx144_1
        replace hx144_2 := (HB.out.cell (World.block_lt_of_cell? w _ hx144_2)).trans hx144_2
        replace p144 := eq_true p144
        replace q144 := eq_true q144
        go_wp2_with (first | ((with_reducible refine gate_dst (N := 6) rfl ?_); (try (refine gate_guard (by rfl) ?_; dsimp only)); refine box_event ?hg (N := 6) ?hd (cs := #[.int .i64 0, .string (⟨#[]⟩ : ByteArray), .int .i64 0]) (t := 49) ?hr ?_; (case hd => rfl); (case hg => rfl); (case hr => (go_simp; done)); intro gb145 hg w11 hbox hb; have n0_ := Aside0.mk (below_step (by repeat ((with_reducible (exact HB.out)))) hb); have n1_ := Aside0.mk (hbox); have n2_ := Aside0.mk ((by rw [hg]; exact (below_size (by repeat ((with_reducible (exact HB.out))))) : w.heap.size ≤ gb145)); have n3_ := Aside0.mk ((by rw [hg]; exact (below_size (by repeat ((with_reducible (exact HB.out))))) : w.heap.size ≤ gb145)); clear HB; have HB := n0_; have BK145 := n1_; have GW145 := n2_; have GE145 := n3_; clear n0_ n1_ n2_ n3_; clear hb hbox hg; have hcz12_0 : w11.cell? ⟨gb145, 0, none⟩ = some (.int .i64 0) := (blk_cell BK145.out 0).trans rfl; have hcz12_1 : w11.cell? ⟨gb145, 1, none⟩ = some (.string (⟨#[]⟩ : ByteArray)) := (blk_cell BK145.out 1).trans rfl; have hcz12_2 : w11.cell? ⟨gb145, 2, none⟩ = some (.int .i64 0) := (blk_cell BK145.out 2).trans rfl; have hfz12_0 := blk_frozen BK145.out 0; have hfz12_1 := blk_frozen BK145.out 1; have hfz12_2 := blk_frozen BK145.out 2))
        go_ret3
        exact ⟨by (rfl), by repeat ((with_reducible first | exact HB.out | refine below_set ?_ GE145.out))⟩
       ·rw [if_neg c10] at H
        have c10b0 : decide ((wrap64 (16777216 - x3_1)) < (ji9)) = false := decide_eq_false c10
        clear c10
        have H' := Aside0.mk H
        clear H
        have p144 : 0 ≤ (x9_1 : Int) := of_decide_eq_true (by (with_reducible assumption))
        have q144 : x9_1 < (l0.length : Int) := of_decide_eq_true (by (with_reducible assumption))
        obtain ⟨ad144, e144, hx144_0, hx144_1, hx144_2⟩ := at_T49 HR0.out x9_1 p144 q144
        cases e144
        replace hx144_0 := (HB.out.cell (World.block_lt_of_cell? w _ hx144_0)).trans hx144_0
        replace hx144_1 := (HB.out.cell (World.block_lt_of_cell? w _ hx144_1)).trans hx144_1
        replace hx144_2 := (HB.out.cell (World.block_lt_of_cell? w _ hx144_2)).trans hx144_2
        replace p144 := eq_true p144
        replace q144 := eq_true q144
        go_wp2_with (first | ((with_reducible refine gate_dst (N := 6) rfl ?_); (try (refine gate_guard (by rfl) ?_; dsimp only)); refine box_event ?hg (N := 6) ?hd (cs := #[.int .i64 0, .string (⟨#[]⟩ : ByteArray), .int .i64 0]) (t := 49) ?hr ?_; (case hd => rfl); (case hg => rfl); (case hr => (go_simp; done)); intro gb145 hg w13 hbox hb; have n0_ := Aside0.mk (below_step (by repeat ((with_reducible (exact HB.out)))) hb); have n1_ := Aside0.mk (hbox); have n2_ := Aside0.mk ((by rw [hg]; exact (below_size (by repeat ((with_reducible (exact HB.out))))) : w.heap.size ≤ gb145)); have n3_ := Aside0.mk ((by rw [hg]; exact (below_size (by repeat ((with_reducible (exact HB.out))))) : w.heap.size ≤ gb145)); clear HB; have HB := n0_; have BK145 := n1_; have GW145 := n2_; have GE145 := n3_; clear n0_ n1_ n2_ n3_; clear hb hbox hg; have hcz14_0 : w13.cell? ⟨gb145, 0, none⟩ = some (.int .i64 0) := (blk_cell BK145.out 0).trans rfl; have hcz14_1 : w13.cell? ⟨gb145, 1, none⟩ = some (.string (⟨#[]⟩ : ByteArray)) := (blk_cell BK145.out 1).trans rfl; have hcz14_2 : w13.cell? ⟨gb145, 2, none⟩ = some (.int .i64 0) := (blk_cell BK145.out 2).trans rfl; have hfz14_0 := blk_frozen BK145.out 0; have hfz14_1 := blk_frozen BK145.out 1; have hfz14_2 := blk_frozen BK145.out 2))
        go_roundg k1
        case measure => have := HK1.out; omega
        case rel => exact ⟨(wrap64 (x2_1 + (wrap64 (((rd_T49 l0 x9_1).f0) + ((rd_T49 l0 x9_1).f2))))), (wrap64 (x3_1 + (wrap64 (((rd_T49 l0 x9_1).f0) + (((rd_T49 l0 x9_1).f1).size : Int))))), (wrap64 (x9_1 + 1)), (by (rfl)), (by (rfl)), (by (rfl)), H', ⟨by have := HK1.out; omega⟩, ⟨by repeat ((with_reducible first | exact HB.out | refine below_set ?_ GE145.out))⟩⟩
     ·rw [if_neg c4] at H
      exact absurd H (by simp)
    ·rw [if_neg c3] at H
     exact absurd H (by simp)
   ·rw [if_neg c2] at H
    have c2b0 : decide (x9_1 < (l0.length : Int)) = false := decide_eq_false c2
    clear c2
    simp only [Option.some.injEq, Prod.mk.injEq] at H
    obtain ⟨rfl, rfl, rfl⟩ := H
    go_wp2
    go_ret3
    exact ⟨by (rfl), by repeat ((with_reducible (exact HB.out)))⟩
end Go.Proofs.Ytjbnffadfohofaa.P
end
-- MERGED YtjbnffadfohofaaPeditGood
section
namespace Go.Proofs.Ytjbnffadfohofaa.P
open Go.RowKit Go.Proofs.YtjbnffadfohofaaW.PrintWords Go.Proofs.YtjbnffadfohofaaW.PrintLast Go.Proofs.YtjbnffadfohofaaW.PrintMore
attribute [local go_sem] max2_int min2_int max_two min_two max_three min_three max_four min_four   -- for this text's walks alone
set_option linter.unusedVariables false
set_option linter.unusedSimpArgs false
def edit_Good.f (k : Nat) (l0 : List (S49)) : Option (Bool) := (edit_right.f k l0).bind fun t146 => (if t146 = true then ((edit_sums.f k l0).bind fun bt147 => (some bt147.2.2)) else (some false))
set_option maxHeartbeats 8000000 in
set_option maxRecDepth 100000 in
theorem edit_Good.calls (k : Nat) (A0 : Option Addr) (c0 : Nat) (l0 : List (S49)) (r : Bool) (w : World) (hr0 : Kd.C k49 w A0 l0.length l0) (hc0 : l0.length ≤ c0) (h : edit_Good.f k l0 = some r) :
  Calls Try.prog 30 #[.slice A0 l0.length c0] w fun e w' => e = .returned (.bool r) ∧ Below w.heap.size w w' := by
 have HR0 := Aside0.mk hr0
 have HC0 := Aside0.mk hc0
 clear hr0 hc0
 have HB := Aside0.mk (Below.refl w.heap.size w)
 have H : ((edit_right.f k l0).bind fun t146 => (if t146 = true then ((edit_sums.f k l0).bind fun bt147 => (some bt147.2.2)) else (some false))) = some r := h
 clear h
 replace H := Option.bind_eq_some_iff.mp H
 obtain ⟨t146, A20, H⟩ := H
 replace H : (if t146 = true then ((edit_sums.f k l0).bind fun bt147 => (some bt147.2.2)) else (some false)) = some r := H
 have A2 := Aside0.mk A20
 clear A20
 by_cases c3 : t146 = true
 ·subst c3
  have H1 : ((edit_sums.f k l0).bind fun bt147 => (some bt147.2.2)) = some r := by rw [if_pos rfl] at H; exact H
  clear H
  have H := H1
  clear H1
  replace H := Option.bind_eq_some_iff.mp H
  obtain ⟨⟨t147, t148, t149⟩, A40, H⟩ := H
  replace H : (some t149) = some r := H
  have A4 := Aside0.mk A40
  clear A40
  obtain rfl := Option.some.inj H
  go_enter Try.func30, Try.ntmps30
  go_wp2_with (first | ((with_reducible refine gate_callee (f := 40) rfl ?_); refine goesL_ (some 7) rfl rfl Try.func40 (by kernel_rfl) rfl #[.slice A0 l0.length c0] rfl (by (try simp only [List.map_toArray, List.map_cons, List.map_nil]); (rfl)) ?_; (with_reducible refine (edit_right.calls k _ _ l0 true _ ?side1 ?side2 A2.out).mono ?_); (case side1 => repeat ((exact HR0.out))); (case side2 => exact HC0.out); rintro e w5 ⟨rfl, hb⟩; refine ⟨_, rfl, ?_⟩; have n0_ := Aside0.mk (below_step (by repeat ((with_reducible (exact HB.out)))) hb); clear HB; have HB := n0_; clear n0_; (try clear hb); (try clear hb2); (try clear hk); (try clear hi)) | ((with_reducible refine gate_callee (f := 41) rfl ?_); refine goesL_ (some 11) rfl rfl Try.func41 (by kernel_rfl) rfl #[.slice A0 l0.length c0] rfl (by (try simp only [List.map_toArray, List.map_cons, List.map_nil]); (rfl)) ?_; (with_reducible refine (edit_sums.calls k _ _ l0 t147 t148 t149 _ ?side1 ?side2 A4.out).mono ?_); (case side1 => repeat ((exact (Kd.C_below HR0.out HB.out)))); (case side2 => exact HC0.out); rintro e w6 ⟨rfl, hb⟩; refine ⟨_, rfl, ?_⟩; have n0_ := Aside0.mk (below_step (by repeat ((with_reducible (exact HB.out)))) hb); clear HB; have HB := n0_; clear n0_; (try clear hb); (try clear hb2); (try clear hk); (try clear hi)))
  go_ret
  exact ⟨by (rfl), by repeat ((with_reducible (exact HB.out)))⟩
 ·replace c3 := Bool.eq_false_iff.mpr c3
  subst c3
  have H1 : (some false) = some r := by rw [if_neg (show ¬ (false = true) by decide)] at H; exact H
  clear H
  have H := H1
  clear H1
  obtain rfl := Option.some.inj H
  go_enter Try.func30, Try.ntmps30
  go_wp2_with (first | ((with_reducible refine gate_callee (f := 40) rfl ?_); refine goesL_ (some 7) rfl rfl Try.func40 (by kernel_rfl) rfl #[.slice A0 l0.length c0] rfl (by (try simp only [List.map_toArray, List.map_cons, List.map_nil]); (rfl)) ?_; (with_reducible refine (edit_right.calls k _ _ l0 false _ ?side1 ?side2 A2.out).mono ?_); (case side1 => repeat ((exact HR0.out))); (case side2 => exact HC0.out); rintro e w7 ⟨rfl, hb⟩; refine ⟨_, rfl, ?_⟩; have n0_ := Aside0.mk (below_step (by repeat ((with_reducible (exact HB.out)))) hb); clear HB; have HB := n0_; clear n0_; (try clear hb); (try clear hb2); (try clear hk); (try clear hi)))
  go_ret
  exact ⟨by (rfl), by repeat ((with_reducible (exact HB.out)))⟩
end Go.Proofs.Ytjbnffadfohofaa.P
end
-- MERGED YtjbnffadfohofaaPeditIn
section
namespace Go.Proofs.Ytjbnffadfohofaa.P
open Go.RowKit Go.Proofs.YtjbnffadfohofaaW.PrintWords Go.Proofs.YtjbnffadfohofaaW.PrintLast Go.Proofs.YtjbnffadfohofaaW.PrintMore
attribute [local go_sem] max2_int min2_int max_two min_two max_three min_three max_four min_four   -- for this text's walks alone
set_option linter.unusedVariables false
set_option linter.unusedSimpArgs false
def edit_In.f (k : Nat) (l0 : List (S49)) : Option (Int) := (edit_Good.f k l0).bind fun t172 => (if t172 = true then ((edit_sums.f k l0).bind fun bt173 => (some bt173.1)) else (some 0))
set_option maxHeartbeats 8000000 in
set_option maxRecDepth 100000 in
theorem edit_In.calls (k : Nat) (A0 : Option Addr) (c0 : Nat) (l0 : List (S49)) (r : Int) (w : World) (hr0 : Kd.C k49 w A0 l0.length l0) (hc0 : l0.length ≤ c0) (h : edit_In.f k l0 = some r) :
  Calls Try.prog 42 #[.slice A0 l0.length c0] w fun e w' => e = .returned (.int .i64 r) ∧ Below w.heap.size w w' := by
 have HR0 := Aside0.mk hr0
 have HC0 := Aside0.mk hc0
 clear hr0 hc0
 have HB := Aside0.mk (Below.refl w.heap.size w)
 have H : ((edit_Good.f k l0).bind fun t172 => (if t172 = true then ((edit_sums.f k l0).bind fun bt173 => (some bt173.1)) else (some 0))) = some r := h
 clear h
 replace H := Option.bind_eq_some_iff.mp H
 obtain ⟨t172, A20, H⟩ := H
 replace H : (if t172 = true then ((edit_sums.f k l0).bind fun bt173 => (some bt173.1)) else (some 0)) = some r := H
 have A2 := Aside0.mk A20
 clear A20
 by_cases c3 : t172 = true
 ·subst c3
  have H1 : ((edit_sums.f k l0).bind fun bt173 => (some bt173.1)) = some r := by rw [if_pos rfl] at H; exact H
  clear H
  have H := H1
  clear H1
  replace H := Option.bind_eq_some_iff.mp H
  obtain ⟨⟨t173, t174, t175⟩, A40, H⟩ := H
  replace H : (some t173) = some r := H
  have A4 := Aside0.mk A40
  clear A40
  obtain rfl := Option.some.inj H
  go_enter Try.func42, Try.ntmps42
  go_wp2_with (first | ((with_reducible refine gate_callee (f := 30) rfl ?_); refine goesL_ (some 7) rfl rfl Try.func30 (by kernel_rfl) rfl #[.slice A0 l0.length c0] rfl (by (try simp only [List.map_toArray, List.map_cons, List.map_nil]); (rfl)) ?_; (with_reducible refine (edit_Good.calls k _ _ l0 true _ ?side1 ?side2 A2.out).mono ?_); (case side1 => repeat ((exact HR0.out))); (case side2 => exact HC0.out); rintro e w5 ⟨rfl, hb⟩; refine ⟨_, rfl, ?_⟩; have n0_ := Aside0.mk (below_step (by repeat ((with_reducible (exact HB.out)))) hb); clear HB; have HB := n0_; clear n0_; (try clear hb); (try clear hb2); (try clear hk); (try clear hi)) | ((with_reducible refine gate_callee (f := 41) rfl ?_); refine goesL_ (some 11) rfl rfl Try.func41 (by kernel_rfl) rfl #[.slice A0 l0.length c0] rfl (by (try simp only [List.map_toArray, List.map_cons, List.map_nil]); (rfl)) ?_; (with_reducible refine (edit_sums.calls k _ _ l0 t173 t174 t175 _ ?side1 ?side2 A4.out).mono ?_); (case side1 => repeat ((exact (Kd.C_below HR0.out HB.out)))); (case side2 => exact HC0.out); rintro e w6 ⟨rfl, hb⟩; refine ⟨_, rfl, ?_⟩; have n0_ := Aside0.mk (below_step (by repeat ((with_reducible (exact HB.out)))) hb); clear HB; have HB := n0_; clear n0_; (try clear hb); (try clear hb2); (try clear hk); (try clear hi)))
  go_ret
  exact ⟨by (rfl), by repeat ((with_reducible (exact HB.out)))⟩
 ·replace c3 := Bool.eq_false_iff.mpr c3
  subst c3
  have H1 : (some 0) = some r := by rw [if_neg (show ¬ (false = true) by decide)] at H; exact H
  clear H
  have H := H1
  clear H1
  obtain rfl := Option.some.inj H
  go_enter Try.func42, Try.ntmps42
  go_wp2_with (first | ((with_reducible refine gate_callee (f := 30) rfl ?_); refine goesL_ (some 7) rfl rfl Try.func30 (by kernel_rfl) rfl #[.slice A0 l0.length c0] rfl (by (try simp only [List.map_toArray, List.map_cons, List.map_nil]); (rfl)) ?_; (with_reducible refine (edit_Good.calls k _ _ l0 false _ ?side1 ?side2 A2.out).mono ?_); (case side1 => repeat ((exact HR0.out))); (case side2 => exact HC0.out); rintro e w7 ⟨rfl, hb⟩; refine ⟨_, rfl, ?_⟩; have n0_ := Aside0.mk (below_step (by repeat ((with_reducible (exact HB.out)))) hb); clear HB; have HB := n0_; clear n0_; (try clear hb); (try clear hb2); (try clear hk); (try clear hi)))
  go_ret
  exact ⟨by (rfl), by repeat ((with_reducible (exact HB.out)))⟩
end Go.Proofs.Ytjbnffadfohofaa.P
end
-- MERGED YtjbnffadfohofaaPvariorumref06Good
section
namespace Go.Proofs.Ytjbnffadfohofaa.P
open Go.RowKit Go.Proofs.YtjbnffadfohofaaW.PrintWords Go.Proofs.YtjbnffadfohofaaW.PrintLast Go.Proofs.YtjbnffadfohofaaW.PrintMore
attribute [local go_sem] max2_int min2_int max_two min_two max_three min_three max_four min_four   -- for this text's walks alone
set_option linter.unusedVariables false
set_option linter.unusedSimpArgs false
def variorumref06_Good.f (l0 : List (S49)) : Option (Bool) := if l0.length ≤ 140737488351232 then some (EditL.good l0) else none
theorem variorumref06_Good.calls (A0 : Option Addr) (c0 : Nat) (l0 : List (S49)) (r : Bool) (w : World) (hr0 : Kd.C k49 w A0 l0.length l0) (hc0 : l0.length ≤ c0) (h : variorumref06_Good.f l0 = some r) :
  Calls Try.prog 14 #[.slice A0 l0.length c0] w fun e w' => e = .returned (.bool r) ∧ Below w.heap.size w w' := by
 unfold variorumref06_Good.f at h
 by_cases hl : l0.length ≤ 140737488351232
 ·rw [if_pos hl] at h
  obtain rfl := Option.some.inj h
  exact EditK.good_c A0 c0 l0 w hr0 hc0 hl
 ·rw [if_neg hl] at h; cases h
end Go.Proofs.Ytjbnffadfohofaa.P
end
-- MERGED YtjbnffadfohofaaPvariorumref06In
section
namespace Go.Proofs.Ytjbnffadfohofaa.P
open Go.RowKit Go.Proofs.YtjbnffadfohofaaW.PrintWords Go.Proofs.YtjbnffadfohofaaW.PrintLast Go.Proofs.YtjbnffadfohofaaW.PrintMore
attribute [local go_sem] max2_int min2_int max_two min_two max_three min_three max_four min_four   -- for this text's walks alone
set_option linter.unusedVariables false
set_option linter.unusedSimpArgs false
def variorumref06_In.f (k : Nat) (l0 : List (S49)) : Option (Int) := (variorumref06_Good.f l0).bind fun t104 => (if t104 = true then ((variorumref06_sums.f k l0).bind fun bt105 => (some bt105.1)) else (some 0))
set_option maxHeartbeats 8000000 in
set_option maxRecDepth 100000 in
theorem variorumref06_In.calls (k : Nat) (A0 : Option Addr) (c0 : Nat) (l0 : List (S49)) (r : Int) (w : World) (hr0 : Kd.C k49 w A0 l0.length l0) (hc0 : l0.length ≤ c0) (h : variorumref06_In.f k l0 = some r) :
  Calls Try.prog 32 #[.slice A0 l0.length c0] w fun e w' => e = .returned (.int .i64 r) ∧ Below w.heap.size w w' := by
 have HR0 := Aside0.mk hr0
 have HC0 := Aside0.mk hc0
 clear hr0 hc0
 have HB := Aside0.mk (Below.refl w.heap.size w)
 have H : ((variorumref06_Good.f l0).bind fun t104 => (if t104 = true then ((variorumref06_sums.f k l0).bind fun bt105 => (some bt105.1)) else (some 0))) = some r := h
 clear h
 replace H := Option.bind_eq_some_iff.mp H
 obtain ⟨t104, A20, H⟩ := H
 replace H : (if t104 = true then ((variorumref06_sums.f k l0).bind fun bt105 => (some bt105.1)) else (some 0)) = some r := H
 have A2 := Aside0.mk A20
 clear A20
 by_cases c3 : t104 = true
 ·subst c3
  have H1 : ((variorumref06_sums.f k l0).bind fun bt105 => (some bt105.1)) = some r := by rw [if_pos rfl] at H; exact H
  clear H
  have H := H1
  clear H1
  replace H := Option.bind_eq_some_iff.mp H
  obtain ⟨⟨t105, t106, t107⟩, A40, H⟩ := H
  replace H : (some t105) = some r := H
  have A4 := Aside0.mk A40
  clear A40
  obtain rfl := Option.some.inj H
  go_enter Try.func32, Try.ntmps32
  go_wp2_with (first | ((with_reducible refine gate_callee (f := 14) rfl ?_); refine goesL_ (some 7) rfl rfl Try.func14 (by kernel_rfl) rfl #[.slice A0 l0.length c0] rfl (by (try simp only [List.map_toArray, List.map_cons, List.map_nil]); first | done | rfl | (simp only [List.length_drop, List.length_take]; rfl)) ?_; (with_reducible refine (variorumref06_Good.calls _ _ l0 true _ ?side1 ?side2 A2.out).mono ?_); (case side1 => repeat (first | exact HR0.out | (with_reducible refine Kd.C_alloc ?_ _) | (with_reducible refine Kd.C_drewN ?_ _) | (with_reducible refine Kd.C_drew ?_))); (case side2 => exact HC0.out); rintro e w5 ⟨rfl, hb⟩; refine ⟨_, rfl, ?_⟩; have n0_ := Aside0.mk (below_step (by repeat (first | (with_reducible first | exact HB.out | apply below_alloc | apply pw_below_drewN | apply below_drew1) | exact HB.out)) hb); clear HB; have HB := n0_; clear n0_; (try clear hb); (try clear hb2); (try clear hk); (try clear hi)) | ((with_reducible refine gate_callee (f := 28) rfl ?_); refine goesL_ (some 11) rfl rfl Try.func28 (by kernel_rfl) rfl #[.slice A0 l0.length c0] rfl (by (try simp only [List.map_toArray, List.map_cons, List.map_nil]); first | done | rfl | (simp only [List.length_drop, List.length_take]; rfl)) ?_; (with_reducible refine (variorumref06_sums.calls k _ _ l0 t105 t106 t107 _ ?side1 ?side2 A4.out).mono ?_); (case side1 => repeat (first | exact (Kd.C_below HR0.out HB.out) | (with_reducible refine Kd.C_alloc ?_ _) | (with_reducible refine Kd.C_drewN ?_ _) | (with_reducible refine Kd.C_drew ?_))); (case side2 => exact HC0.out); rintro e w6 ⟨rfl, hb⟩; refine ⟨_, rfl, ?_⟩; have n0_ := Aside0.mk (below_step (by repeat (first | (with_reducible first | exact HB.out | apply below_alloc | apply pw_below_drewN | apply below_drew1) | exact HB.out)) hb); clear HB; have HB := n0_; clear n0_; (try clear hb); (try clear hb2); (try clear hk); (try clear hi)))
  go_ret
  exact ⟨by first | rfl | (simp [errW_none, errW_some] <;> rfl) | (simp [*, errW_none, errW_some] <;> rfl), by repeat (first | (with_reducible first | exact HB.out | apply below_alloc | apply pw_below_drewN | apply below_drew1) | exact HB.out)⟩
 ·replace c3 := Bool.eq_false_iff.mpr c3
  subst c3
  have H1 : (some 0) = some r := by rw [if_neg (show ¬ (false = true) by decide)] at H; exact H
  clear H
  have H := H1
  clear H1
  obtain rfl := Option.some.inj H
  go_enter Try.func32, Try.ntmps32
  go_wp2_with (first | ((with_reducible refine gate_callee (f := 14) rfl ?_); refine goesL_ (some 7) rfl rfl Try.func14 (by kernel_rfl) rfl #[.slice A0 l0.length c0] rfl (by (try simp only [List.map_toArray, List.map_cons, List.map_nil]); first | done | rfl | (simp only [List.length_drop, List.length_take]; rfl)) ?_; (with_reducible refine (variorumref06_Good.calls _ _ l0 false _ ?side1 ?side2 A2.out).mono ?_); (case side1 => repeat (first | exact HR0.out | (with_reducible refine Kd.C_alloc ?_ _) | (with_reducible refine Kd.C_drewN ?_ _) | (with_reducible refine Kd.C_drew ?_))); (case side2 => exact HC0.out); rintro e w7 ⟨rfl, hb⟩; refine ⟨_, rfl, ?_⟩; have n0_ := Aside0.mk (below_step (by repeat (first | (with_reducible first | exact HB.out | apply below_alloc | apply pw_below_drewN | apply below_drew1) | exact HB.out)) hb); clear HB; have HB := n0_; clear n0_; (try clear hb); (try clear hb2); (try clear hk); (try clear hi)))
  go_ret
  exact ⟨by first | rfl | (simp [errW_none, errW_some] <;> rfl) | (simp [*, errW_none, errW_some] <;> rfl), by repeat (first | (with_reducible first | exact HB.out | apply below_alloc | apply pw_below_drewN | apply below_drew1) | exact HB.out)⟩
end Go.Proofs.Ytjbnffadfohofaa.P
end
-- MERGED YtjbnffadfohofaaPvariorumref06Out
section
namespace Go.Proofs.Ytjbnffadfohofaa.P
open Go.RowKit Go.Proofs.YtjbnffadfohofaaW.PrintWords Go.Proofs.YtjbnffadfohofaaW.PrintLast Go.Proofs.YtjbnffadfohofaaW.PrintMore
attribute [local go_sem] max2_int min2_int max_two min_two max_three min_three max_four min_four   -- for this text's walks alone
set_option linter.unusedVariables false
set_option linter.unusedSimpArgs false
def variorumref06_Out.f (k : Nat) (l0 : List (S49)) : Option (Int) := (variorumref06_Good.f l0).bind fun t110 => (if t110 = true then ((variorumref06_sums.f k l0).bind fun bt111 => (some bt111.2.1)) else (some 0))
set_option maxHeartbeats 8000000 in
set_option maxRecDepth 100000 in
theorem variorumref06_Out.calls (k : Nat) (A0 : Option Addr) (c0 : Nat) (l0 : List (S49)) (r : Int) (w : World) (hr0 : Kd.C k49 w A0 l0.length l0) (hc0 : l0.length ≤ c0) (h : variorumref06_Out.f k l0 = some r) :
  Calls Try.prog 34 #[.slice A0 l0.length c0] w fun e w' => e = .returned (.int .i64 r) ∧ Below w.heap.size w w' := by
 have HR0 := Aside0.mk hr0
 have HC0 := Aside0.mk hc0
 clear hr0 hc0
 have HB := Aside0.mk (Below.refl w.heap.size w)
 have H : ((variorumref06_Good.f l0).bind fun t110 => (if t110 = true then ((variorumref06_sums.f k l0).bind fun bt111 => (some bt111.2.1)) else (some 0))) = some r := h
 clear h
 replace H := Option.bind_eq_some_iff.mp H
 obtain ⟨t110, A20, H⟩ := H
 replace H : (if t110 = true then ((variorumref06_sums.f k l0).bind fun bt111 => (some bt111.2.1)) else (some 0)) = some r := H
 have A2 := Aside0.mk A20
 clear A20
 by_cases c3 : t110 = true
 ·subst c3
  have H1 : ((variorumref06_sums.f k l0).bind fun bt111 => (some bt111.2.1)) = some r := by rw [if_pos rfl] at H; exact H
  clear H
  have H := H1
  clear H1
  replace H := Option.bind_eq_some_iff.mp H
  obtain ⟨⟨t111, t112, t113⟩, A40, H⟩ := H
  replace H : (some t112) = some r := H
  have A4 := Aside0.mk A40
  clear A40
  obtain rfl := Option.some.inj H
  go_enter Try.func34, Try.ntmps34
  go_wp2_with (first | ((with_reducible refine gate_callee (f := 14) rfl ?_); refine goesL_ (some 7) rfl rfl Try.func14 (by kernel_rfl) rfl #[.slice A0 l0.length c0] rfl (by (try simp only [List.map_toArray, List.map_cons, List.map_nil]); first | done | rfl | (simp only [List.length_drop, List.length_take]; rfl)) ?_; (with_reducible refine (variorumref06_Good.calls _ _ l0 true _ ?side1 ?side2 A2.out).mono ?_); (case side1 => repeat (first | exact HR0.out | (with_reducible refine Kd.C_alloc ?_ _) | (with_reducible refine Kd.C_drewN ?_ _) | (with_reducible refine Kd.C_drew ?_))); (case side2 => exact HC0.out); rintro e w5 ⟨rfl, hb⟩; refine ⟨_, rfl, ?_⟩; have n0_ := Aside0.mk (below_step (by repeat (first | (with_reducible first | exact HB.out | apply below_alloc | apply pw_below_drewN | apply below_drew1) | exact HB.out)) hb); clear HB; have HB := n0_; clear n0_; (try clear hb); (try clear hb2); (try clear hk); (try clear hi)) | ((with_reducible refine gate_callee (f := 28) rfl ?_); refine goesL_ (some 11) rfl rfl Try.func28 (by kernel_rfl) rfl #[.slice A0 l0.length c0] rfl (by (try simp only [List.map_toArray, List.map_cons, List.map_nil]); first | done | rfl | (simp only [List.length_drop, List.length_take]; rfl)) ?_; (with_reducible refine (variorumref06_sums.calls k _ _ l0 t111 t112 t113 _ ?side1 ?side2 A4.out).mono ?_); (case side1 => repeat (first | exact (Kd.C_below HR0.out HB.out) | (with_reducible refine Kd.C_alloc ?_ _) | (with_reducible refine Kd.C_drewN ?_ _) | (with_reducible refine Kd.C_drew ?_))); (case side2 => exact HC0.out); rintro e w6 ⟨rfl, hb⟩; refine ⟨_, rfl, ?_⟩; have n0_ := Aside0.mk (below_step (by repeat (first | (with_reducible first | exact HB.out | apply below_alloc | apply pw_below_drewN | apply below_drew1) | exact HB.out)) hb); clear HB; have HB := n0_; clear n0_; (try clear hb); (try clear hb2); (try clear hk); (try clear hi)))
  go_ret
  exact ⟨by first | rfl | (simp [errW_none, errW_some] <;> rfl) | (simp [*, errW_none, errW_some] <;> rfl), by repeat (first | (with_reducible first | exact HB.out | apply below_alloc | apply pw_below_drewN | apply below_drew1) | exact HB.out)⟩
 ·replace c3 := Bool.eq_false_iff.mpr c3
  subst c3
  have H1 : (some 0) = some r := by rw [if_neg (show ¬ (false = true) by decide)] at H; exact H
  clear H
  have H := H1
  clear H1
  obtain rfl := Option.some.inj H
  go_enter Try.func34, Try.ntmps34
  go_wp2_with (first | ((with_reducible refine gate_callee (f := 14) rfl ?_); refine goesL_ (some 7) rfl rfl Try.func14 (by kernel_rfl) rfl #[.slice A0 l0.length c0] rfl (by (try simp only [List.map_toArray, List.map_cons, List.map_nil]); first | done | rfl | (simp only [List.length_drop, List.length_take]; rfl)) ?_; (with_reducible refine (variorumref06_Good.calls _ _ l0 false _ ?side1 ?side2 A2.out).mono ?_); (case side1 => repeat (first | exact HR0.out | (with_reducible refine Kd.C_alloc ?_ _) | (with_reducible refine Kd.C_drewN ?_ _) | (with_reducible refine Kd.C_drew ?_))); (case side2 => exact HC0.out); rintro e w7 ⟨rfl, hb⟩; refine ⟨_, rfl, ?_⟩; have n0_ := Aside0.mk (below_step (by repeat (first | (with_reducible first | exact HB.out | apply below_alloc | apply pw_below_drewN | apply below_drew1) | exact HB.out)) hb); clear HB; have HB := n0_; clear n0_; (try clear hb); (try clear hb2); (try clear hk); (try clear hi)))
  go_ret
  exact ⟨by first | rfl | (simp [errW_none, errW_some] <;> rfl) | (simp [*, errW_none, errW_some] <;> rfl), by repeat (first | (with_reducible first | exact HB.out | apply below_alloc | apply pw_below_drewN | apply below_drew1) | exact HB.out)⟩
end Go.Proofs.Ytjbnffadfohofaa.P
end
-- MERGED YtjbnffadfohofaaEditF
section
namespace Go.Proofs.Ytjbnffadfohofaa.EditF
open Go.RowKit Go.Proofs.Ytjbnffadfohofaa.P Go.Proofs.YtjbnffadfohofaaW.PrintWords Go.Proofs.YtjbnffadfohofaaW.PrintLast Go.Proofs.YtjbnffadfohofaaW.PrintMore Go.Proofs.Ytjbnffadfohofaa.EditL Go.Proofs.Ytjbnffadfohofaa.EditK
theorem kind_f (r : Rn) : edit_kind.f r.f0 r.f1 r.f2 = some (knd r) := rfl
theorem sums_l (l0 : List Rn) (hb : l0.length ≤ 140737488351232) : ∀ (suf pre : List Rn) (k : Nat) (i o : Int), l0 = pre ++ suf → suf.length < k → (∀ r ∈ suf, knd r ≠ 0) → 0 ≤ i → i ≤ 16777216 → 0 ≤ o → o ≤ 16777216 →
  edit_sums.l0 k i o l0 (l0.length : Int) (pre.length : Int) = some (cond (fits suf i o) (i + inL suf, o + outL suf, true) (0, 0, false)) := by
 intro suf
 induction suf with
 | nil =>
  intro pre k i o hl hk _ _ _ _ _
  obtain ⟨k, rfl⟩ : ∃ m, k = m + 1 := ⟨k - 1, by simp at hk; omega⟩
  have : l0.length = pre.length := by rw [hl]; simp
  simp only [edit_sums.l0]
  rw [if_neg (by omega)]
  simp [fits, inL, outL]
 | cons r suf ih =>
  intro pre k i o hl hk hok hi0 hi ho0 ho
  obtain ⟨k, rfl⟩ : ∃ m, k = m + 1 := ⟨k - 1, by simp at hk; omega⟩
  obtain ⟨hl2, hn, hlt⟩ := snoc hl
  have hr := knd_cases r
  have h0 := hok r List.mem_cons_self
  simp only [edit_sums.l0]
  rw [if_pos hlt, if_pos (by omega), if_pos hlt, rd_at hl, w64 (x := 16777216 - i) (by omega) (by omega), w64 (x := 16777216 - o) (by omega) (by omega)]
  by_cases c1 : mx r.f0 r.f2 > 16777216 - i
  ·rw [if_pos c1]
   have : ¬ (r.f0 ≤ 16777216 - i ∧ r.f2 ≤ 16777216 - i) := by
    unfold mx at c1
    split at c1 <;> omega
   have hf : fits (r :: suf) i o = false := by
    rw [Bool.eq_false_iff]
    simp only [fits, ne_eq, Bool.and_eq_true, decide_eq_true_eq]
    rintro ⟨⟨⟨⟨a1, a2⟩, _⟩, _⟩, _⟩
    exact this ⟨a1, a2⟩
   rw [hf]; rfl
  ·rw [if_neg c1]
   have e1 : r.f0 ≤ 16777216 - i ∧ r.f2 ≤ 16777216 - i := by
    unfold mx at c1
    split at c1 <;> omega
   by_cases c2 : mx r.f0 (r.f1.size : Int) > 16777216 - o
   ·rw [if_pos c2]
    have : ¬ (r.f0 ≤ 16777216 - o ∧ (r.f1.size : Int) ≤ 16777216 - o) := by
     unfold mx at c2
     split at c2 <;> omega
    have hf : fits (r :: suf) i o = false := by
     rw [Bool.eq_false_iff]
     simp only [fits, ne_eq, Bool.and_eq_true, decide_eq_true_eq]
     rintro ⟨⟨⟨_, a1⟩, a2⟩, _⟩
     exact this ⟨a1, a2⟩
    rw [hf]; rfl
   ·rw [if_neg c2]
    have e2 : r.f0 ≤ 16777216 - o ∧ (r.f1.size : Int) ≤ 16777216 - o := by
     unfold mx at c2
     split at c2 <;> omega
    have hp := knd_pos h0
    simp only [fits, inL, outL]
    rw [decide_eq_true e1.1, decide_eq_true e1.2, decide_eq_true e2.1, decide_eq_true e2.2, Bool.true_and, Bool.true_and, Bool.true_and, Bool.true_and,
     w64 (x := r.f0 + r.f2) (by omega) (by omega), w64 (x := i + (r.f0 + r.f2)) (by omega) (by omega), w64 (x := r.f0 + (r.f1.size : Int)) (by omega) (by omega), w64 (x := o + (r.f0 + (r.f1.size : Int))) (by omega) (by omega), w64 (x := (pre.length : Int) + 1) (by omega) (by omega), ← hn]
    rw [ih (pre ++ [r]) k _ _ hl2 (by simp at hk; omega) (fun x hx => hok x (List.mem_cons_of_mem _ hx)) (by omega) (by rcases hr with h | h | h | h <;> omega) (by omega) (by rcases hr with h | h | h | h <;> omega)]
    cases fits suf (i + (r.f0 + r.f2)) (o + (r.f0 + (r.f1.size : Int))) with
    | false => rfl
    | true => simp only [cond_true, Option.some.injEq, Prod.mk.injEq, and_true]; omega
theorem sums_f {l : List Rn} (hb : l.length ≤ 140737488351232) (hok : ∀ r ∈ l, knd r ≠ 0) (k : Nat) (hk : l.length < k) : edit_sums.f k l = some (cond (fits l 0 0) (inL l, outL l, true) (0, 0, false)) := by
 unfold edit_sums.f
 have := sums_l l hb l [] k 0 0 rfl hk hok (by omega) (by omega) (by omega) (by omega)
 simp only [Int.zero_add] at this
 exact this
theorem right_l (l0 : List Rn) (hb : l0.length ≤ 140737488351232) : ∀ (suf pre : List Rn) (k : Nat) (last : Int), l0 = pre ++ suf → suf.length < k →
  edit_right.l0 k l0 last l0 (l0.length : Int) (pre.length : Int) = some (ord suf last && decide (l0.length ≤ 65536)) := by
 intro suf
 induction suf with
 | nil =>
  intro pre k last hl hk
  obtain ⟨k, rfl⟩ : ∃ m, k = m + 1 := ⟨k - 1, by simp at hk; omega⟩
  have : l0.length = pre.length := by rw [hl]; simp
  simp only [edit_right.l0]
  rw [if_neg (by omega)]
  simp only [ord, Bool.true_and, Option.some.injEq]
  by_cases h : l0.length ≤ 65536
  ·rw [decide_eq_true h, decide_eq_true (by omega)]
  ·rw [decide_eq_false h, decide_eq_false (by omega)]
 | cons r suf ih =>
  intro pre k last hl hk
  obtain ⟨k, rfl⟩ : ∃ m, k = m + 1 := ⟨k - 1, by simp at hk; omega⟩
  obtain ⟨hl2, hn, hlt⟩ := snoc hl
  have next := ih (pre ++ [r]) k (knd r) hl2 (by simp at hk; omega)
  rw [hn] at next
  simp only [edit_right.l0]
  rw [if_pos hlt, if_pos (by omega), if_pos hlt, rd_at hl, kind_f, Option.bind_some, w64 (x := (pre.length : Int) + 1) (by omega) (by omega), next]
  simp only [ord]
  by_cases c1 : knd r = 0
  ·rw [if_pos c1, decide_eq_false (by omega)]; rfl
  ·rw [if_neg c1, decide_eq_true c1]
   by_cases c2 : knd r = last
   ·rw [if_pos c2, decide_eq_false (by omega)]; rfl
   ·rw [if_neg c2, decide_eq_true c2]
    by_cases c3 : last = 3
    ·rw [if_pos c3]
     by_cases c4 : knd r = 2
     ·rw [if_pos c4, decide_eq_false (show ¬ ¬ (last = 3 ∧ knd r = 2) by omega)]; rfl
     ·rw [if_neg c4, decide_eq_true (show ¬ (last = 3 ∧ knd r = 2) by omega)]; rfl
    ·rw [if_neg c3, decide_eq_true (show ¬ (last = 3 ∧ knd r = 2) by omega)]; rfl
theorem good_f {l : List Rn} (hb : l.length ≤ 140737488351232) (k : Nat) (hk : l.length < k) : edit_Good.f k l = some (good l) := by
 unfold edit_Good.f edit_right.f good
 have := right_l l hb l [] k 0 rfl hk
 simp only [List.length_nil] at this
 rw [show ((0 : Nat) : Int) = 0 from rfl] at this
 rw [this, Option.bind_some]
 cases h : ord l 0 with
 | false => simp
 | true =>
  rw [sums_f hb (ord_ok h) k hk, Option.bind_some]
  by_cases h2 : l.length ≤ 65536
  ·rw [decide_eq_true h2]
   cases fits l 0 0 <;> rfl
  ·rw [decide_eq_false h2]; rfl
theorem in_f {l : List Rn} (hb : l.length ≤ 140737488351232) (k : Nat) (hk : l.length < k) : edit_In.f k l = some (if good l then inL l else 0) := by
 unfold edit_In.f
 rw [good_f hb k hk, Option.bind_some]
 cases h : good l with
 | false => rfl
 | true =>
  obtain ⟨_, _, h2, h3⟩ := good_ok h
  rw [if_pos rfl, sums_f hb h3 k hk, Option.bind_some, h2]; rfl
end Go.Proofs.Ytjbnffadfohofaa.EditF
end
-- MERGED YtjbnffadfohofaaPvariorumref06Norm
section
namespace Go.Proofs.Ytjbnffadfohofaa.P
open Go.RowKit Go.Proofs.YtjbnffadfohofaaW.PrintWords Go.Proofs.YtjbnffadfohofaaW.PrintLast Go.Proofs.YtjbnffadfohofaaW.PrintMore
attribute [local go_sem] max2_int min2_int max_two min_two max_three min_three max_four min_four   -- for this text's walks alone
set_option linter.unusedVariables false
set_option linter.unusedSimpArgs false
mutual
def variorumref06_Norm.l0 : Nat → List (S49) → List (S49) → Int → Option ((List (S49)))
 | 0, _, _, _ => none
 | k + 1, x0, x3, x4 => if x4 < (x0.length : Int) then (if 0 ≤ x4 then ((variorumref06_Kind.f k ((rd_T49 x0 x4).f0) ((rd_T49 x0 x4).f1) ((rd_T49 x0 x4).f2)).bind fun t302 => (if t302 > 0 then (if x3.length < 4398046511104 then (variorumref06_Norm.l0 k x0 (x3 ++ [(⟨(rd_T49 x0 x4).f0, (rd_T49 x0 x4).f1, (rd_T49 x0 x4).f2⟩ : S49)]) (wrap64 (x4 + 1))) else (none)) else (variorumref06_Norm.l0 k x0 x3 (wrap64 (x4 + 1))))) else (none)) else ((variorumref06_sums.f k x3).bind fun bt307 => (if bt307.2.2 = true then (variorumref06_Norm.l1 k x3 ([] : List (S49)) (⟨#[]⟩ : ByteArray) 0 0 0) else (some ([] : List (S49)))))
def variorumref06_Norm.l1 : Nat → List (S49) → List (S49) → ByteArray → Int → Int → Int → Option ((List (S49)))
 | 0, _, _, _, _, _, _ => none
 | k + 1, x3, x8, x9, x10, x11, x12 => if x12 ≤ (x3.length : Int) then (if x12 < (x3.length : Int) then (if 0 ≤ x12 then ((variorumref06_Kind.f k ((rd_T49 x3 x12).f0) ((rd_T49 x3 x12).f1) ((rd_T49 x3 x12).f2)).bind fun t311 => (variorumref06_Norm.j2 k x3 x8 x9 x10 x11 x12 (t311 == 1))) else (none)) else (variorumref06_Norm.j2 k x3 x8 x9 x10 x11 x12 false)) else (if x9.toList = ([] : List UInt8) then (variorumref06_Norm.j3 k x8 x10) else (if x8.length < 4398046511104 then (variorumref06_Norm.j3 k (x8 ++ [(⟨0, x9, 0⟩ : S49)]) x10) else (none)))
def variorumref06_Norm.j2 : Nat → List (S49) → List (S49) → ByteArray → Int → Int → Int → Bool → Option ((List (S49)))
 | 0, _, _, _, _, _, _, _ => none
 | k + 1, x3, x8, x9, x10, x11, x12, x57 => if x57 = true then (if x9.toList = ([] : List UInt8) then (if x10 > 0 then (if x8.length < 4398046511104 then (if 0 ≤ x12 then (if x12 < (x3.length : Int) then (variorumref06_Norm.l1 k x3 (x8 ++ [(⟨0, (⟨#[]⟩ : ByteArray), x10⟩ : S49)]) (⟨#[]⟩ : ByteArray) 0 (wrap64 (x11 + ((rd_T49 x3 x12).f0))) (wrap64 (x12 + 1))) else (none)) else (none)) else (none)) else (if 0 ≤ x12 then (if x12 < (x3.length : Int) then (variorumref06_Norm.l1 k x3 x8 (⟨#[]⟩ : ByteArray) 0 (wrap64 (x11 + ((rd_T49 x3 x12).f0))) (wrap64 (x12 + 1))) else (none)) else (none))) else (if x8.length < 4398046511104 then ((some (x8 ++ [(⟨0, x9, 0⟩ : S49)] : List (S49))).bind fun y317 => (if x10 > 0 then (if y317.length < 4398046511104 then (if 0 ≤ x12 then (if x12 < (x3.length : Int) then (variorumref06_Norm.l1 k x3 (y317 ++ [(⟨0, (⟨#[]⟩ : ByteArray), x10⟩ : S49)]) (⟨#[]⟩ : ByteArray) 0 (wrap64 (x11 + ((rd_T49 x3 x12).f0))) (wrap64 (x12 + 1))) else (none)) else (none)) else (none)) else (if 0 ≤ x12 then (if x12 < (x3.length : Int) then (variorumref06_Norm.l1 k x3 y317 (⟨#[]⟩ : ByteArray) 0 (wrap64 (x11 + ((rd_T49 x3 x12).f0))) (wrap64 (x12 + 1))) else (none)) else (none)))) else (none))) else (if x11 > 0 then (if x8.length < 4398046511104 then ((some (x8 ++ [(⟨x11, (⟨#[]⟩ : ByteArray), 0⟩ : S49)] : List (S49))).bind fun y325 => (if x12 < (x3.length : Int) then (if 0 ≤ x12 then (if x9.size + ((rd_T49 x3 x12).f1).size ≤ 9223372036854775807 then (variorumref06_Norm.l1 k x3 y325 (x9 ++ ((rd_T49 x3 x12).f1)) (wrap64 (x10 + ((rd_T49 x3 x12).f2))) 0 (wrap64 (x12 + 1))) else (none)) else (none)) else (variorumref06_Norm.l1 k x3 y325 x9 x10 0 (wrap64 (x12 + 1))))) else (none)) else (if x12 < (x3.length : Int) then (if 0 ≤ x12 then (if x9.size + ((rd_T49 x3 x12).f1).size ≤ 9223372036854775807 then (variorumref06_Norm.l1 k x3 x8 (x9 ++ ((rd_T49 x3 x12).f1)) (wrap64 (x10 + ((rd_T49 x3 x12).f2))) 0 (wrap64 (x12 + 1))) else (none)) else (none)) else (variorumref06_Norm.l1 k x3 x8 x9 x10 0 (wrap64 (x12 + 1)))))
def variorumref06_Norm.j3 : Nat → List (S49) → Int → Option ((List (S49)))
 | 0, _, _ => none
 | k + 1, x8, x10 => if x10 > 0 then (if x8.length < 4398046511104 then ((some (x8 ++ [(⟨0, (⟨#[]⟩ : ByteArray), x10⟩ : S49)] : List (S49))).bind fun y335 => ((variorumref06_Good.f y335).bind fun t338 => (if t338 = true then (some y335) else (some ([] : List (S49)))))) else (none)) else ((variorumref06_Good.f x8).bind fun t339 => (if t339 = true then (some x8) else (some ([] : List (S49)))))
end
def variorumref06_Norm.f (k : Nat) (l0 : List (S49)) : Option ((List (S49))) := variorumref06_Norm.l0 k l0 ([] : List (S49)) 0
set_option maxHeartbeats 8000000 in
set_option maxRecDepth 100000 in
theorem variorumref06_Norm.calls (k : Nat) (A0 : Option Addr) (c0 : Nat) (l0 : List (S49)) (r : List (S49)) (w : World) (hr0 : Kd.C k49 w A0 l0.length l0) (hc0 : l0.length ≤ c0) (h : variorumref06_Norm.f k l0 = some r) :
  Calls Try.prog 21 #[.slice A0 l0.length c0] w fun e w' => ∃ v0_ : Value, e = .returned (v0_) ∧ Kd.R k49 49 w' w.heap.size (fun _ => True) v0_ r ∧ Below w.heap.size w w' := by
 have hu49 := Try.underlying49
 have HR0 := Aside0.mk hr0
 have HC0 := Aside0.mk hc0
 clear hr0 hc0
 have HB := Aside0.mk (Below.refl w.heap.size w)
 have H : (variorumref06_Norm.l0 k l0 ([] : List (S49)) 0) = some r := h
 clear h
 have H' := Aside0.mk H
 clear H
 go_enter Try.func21, Try.ntmps21
 go_wp2
 go_loopg [3, 4] k (fun kq v3 v4 w' => ∃ (x3_1 : List (S49)) (x4_1 : Int), v4 = .int .i64 x4_1 ∧ Aside0 (variorumref06_Norm.l0 kq l0 x3_1 x4_1 = some r) ∧ Aside0 (kq ≤ k) ∧ Aside0 (Kd.R k49 49 w' w.heap.size (fun _ => True) v3 x3_1) ∧ Aside0 (Below w.heap.size w w'))
 case atStart => exact ⟨(([] : List (S49))), (0), (by (rfl)), H', ⟨Nat.le_refl _⟩, ⟨by (exact Kd.R_nil _ _ _ _ _)⟩, ⟨by repeat ((with_reducible (exact HB.out)))⟩⟩
 case round =>
  clear H'
  obtain ⟨x3_1, x4_1, rfl, HA, HK1, HO_3, HB⟩ := hrel
  cases gk with
  | zero => exact absurd HA.out (by simp [variorumref06_Norm.l0])
  | succ k1 =>
   have H := HA.out
   clear HA
   simp only [variorumref06_Norm.l0] at H
   by_cases c2 : x4_1 < (l0.length : Int)
   ·rw [if_pos c2] at H
    have c2b0 : decide (x4_1 < (l0.length : Int)) = true := decide_eq_true c2
    clear c2
    by_cases c3 : 0 ≤ x4_1
    ·rw [if_pos c3] at H
     have c3b0 : decide (0 ≤ x4_1) = true := decide_eq_true c3
     clear c3
     replace H := Option.bind_eq_some_iff.mp H
     obtain ⟨t302, A40, H⟩ := H
     replace H : (if t302 > 0 then (if x3_1.length < 4398046511104 then (variorumref06_Norm.l0 k1 l0 (x3_1 ++ [(⟨(rd_T49 l0 x4_1).f0, (rd_T49 l0 x4_1).f1, (rd_T49 l0 x4_1).f2⟩ : S49)]) (wrap64 (x4_1 + 1))) else (none)) else (variorumref06_Norm.l0 k1 l0 x3_1 (wrap64 (x4_1 + 1)))) = some r := H
     have A4 := Aside0.mk A40
     clear A40
     by_cases c5 : t302 > 0
     ·rw [if_pos c5] at H
      have c5b0 : decide (0 < t302) = true := decide_eq_true c5
      clear c5
      by_cases c6 : x3_1.length < 4398046511104
      ·rw [if_pos c6] at H
       have LMc6 := Aside0.mk c6
       clear c6
       obtain ⟨y304, hy304⟩ : ∃ y_ : List (S49), y_ = (x3_1 ++ [(⟨(rd_T49 l0 x4_1).f0, (rd_T49 l0 x4_1).f1, (rd_T49 l0 x4_1).f2⟩ : S49)]) := ⟨_, rfl⟩
       replace H : (variorumref06_Norm.l0 k1 l0 y304 (wrap64 (x4_1 + 1))) = some r := by (rw [hy304]; with_reducible exact H)
       have Ny304 := Aside0.mk hy304
       clear hy304
       have H' := Aside0.mk H
       clear H
       have p301 : 0 ≤ (x4_1 : Int) := of_decide_eq_true (by (with_reducible assumption))
       have q301 : x4_1 < (l0.length : Int) := of_decide_eq_true (by (with_reducible assumption))
       obtain ⟨ad301, e301, hx301_0, hx301_1, hx301_2⟩ := at_T49 HR0.out x4_1 p301 q301
       cases e301
       replace hx301_0 := (HB.out.cell (World.block_lt_of_cell? w _ hx301_0)).trans hx301_0
       replace hx301_1 := (HB.out.cell (World.block_lt_of_cell? w _ hx301_1)).trans hx301_1
       replace hx301_2 := (HB.out.cell (World.block_lt_of_cell? w _ hx301_2)).trans hx301_2
       replace p301 := eq_true p301
       replace q301 := eq_true q301
       go_wp2_with (first | ((with_reducible refine gate_callee (f := 27) rfl ?_); refine goesL_ (some 23) rfl rfl Try.func27 (by kernel_rfl) rfl #[.agg #[.int .i64 ((rd_T49 l0 x4_1).f0), .string ((rd_T49 l0 x4_1).f1), .int .i64 ((rd_T49 l0 x4_1).f2)]] rfl (by (try simp only [List.map_toArray, List.map_cons, List.map_nil]); (rfl)) ?_; (with_reducible refine (variorumref06_Kind.calls k1 ((rd_T49 l0 x4_1).f0) ((rd_T49 l0 x4_1).f1) ((rd_T49 l0 x4_1).f2) t302 _ A4.out).mono ?_); rintro e w7 ⟨rfl, hb⟩; refine ⟨_, rfl, ?_⟩; have n0_ := Aside0.mk (Kd.R_below (by (with_reducible repeat ((apply Kd.R_drew))); exact HO_3.out) hb); have n1_ := Aside0.mk (below_step (by repeat ((with_reducible (exact HB.out)))) hb); clear HO_3; clear HB; have HO_3 := n0_; have HB := n1_; clear n0_ n1_; (try clear hb); (try clear hb2); (try clear hk); (try clear hi); have p303 : 0 ≤ (x4_1 : Int) := of_decide_eq_true (by (with_reducible assumption)); have q303 : x4_1 < (l0.length : Int) := of_decide_eq_true (by (with_reducible assumption)); obtain ⟨ad303, e303, hx303_0, hx303_1, hx303_2⟩ := at_T49 HR0.out x4_1 p303 q303; obtain rfl : ad301 = ad303 := (by injection e303); replace hx303_0 := (HB.out.cell (World.block_lt_of_cell? w _ hx303_0)).trans hx303_0; replace hx303_1 := (HB.out.cell (World.block_lt_of_cell? w _ hx303_1)).trans hx303_1; replace hx303_2 := (HB.out.cell (World.block_lt_of_cell? w _ hx303_2)).trans hx303_2; replace p303 := eq_true p303; replace q303 := eq_true q303) | ((with_reducible refine gate_builtin (b := .append) (xs := #[.tmp 25, .tmp 30]) rfl ?_); at_builtin; refine Kd.R_append k49 (w0 := w) w.heap.size rfl (.tmp 25) (.tmp 30) 34 49 (.agg #[(.int .i64 0), (.string ⟨#[]⟩), (.int .i64 0)]) 32 rfl Try.underlying34 info49 rfl (by decide) (by omega) u3 x3_1 (⟨(rd_T49 l0 x4_1).f0, (rd_T49 l0 x4_1).f1, (rd_T49 l0 x4_1).f2⟩ : S49) [.int .i64 ((rd_T49 l0 x4_1).f0), .string ((rd_T49 l0 x4_1).f1), .int .i64 ((rd_T49 l0 x4_1).f2)] (fun _ => True) (fun _ => False) rfl rfl ?aP (fun _ hk => hk.elim) ?aF ?aO ?aB ?aS ?aL ?_; (case aP => exact k49_mkM _ _ _ (⟨(rd_T49 l0 x4_1).f0, (rd_T49 l0 x4_1).f1, (rd_T49 l0 x4_1).f2⟩ : S49)); (case aB => exact (by repeat ((with_reducible (exact HB.out))))); (case aF => exact (fun _ _ => trivial)); (case aO => exact (by (with_reducible repeat ((apply Kd.R_drew))); exact HO_3.out)); (case aS => exact (below_size (by repeat ((with_reducible (exact HB.out)))))); (case aL => have := LMc6.out; omega); intro v305 w8 ho hb hg hat; rw [← Ny304.out] at ho; have n0_ := Aside0.mk (hb); have n1_ := Aside0.mk (ho); clear HB; clear HO_3; have HB := n0_; have HO306 := n1_; clear n0_ n1_; clear ho hb hg hat))
       go_roundg k1
       case measure => have := HK1.out; omega
       case rel => exact ⟨(y304), (wrap64 (x4_1 + 1)), (by (rfl)), H', ⟨by have := HK1.out; omega⟩, ⟨by (with_reducible repeat ((apply Kd.R_drew))); exact HO306.out⟩, ⟨by repeat ((with_reducible (exact HB.out)))⟩⟩
      ·rw [if_neg c6] at H
       exact absurd H (by simp)
     ·rw [if_neg c5] at H
      have c5b0 : decide (0 < t302) = false := decide_eq_false c5
      clear c5
      have H' := Aside0.mk H
      clear H
      have p301 : 0 ≤ (x4_1 : Int) := of_decide_eq_true (by (with_reducible assumption))
      have q301 : x4_1 < (l0.length : Int) := of_decide_eq_true (by (with_reducible assumption))
      obtain ⟨ad301, e301, hx301_0, hx301_1, hx301_2⟩ := at_T49 HR0.out x4_1 p301 q301
      cases e301
      replace hx301_0 := (HB.out.cell (World.block_lt_of_cell? w _ hx301_0)).trans hx301_0
      replace hx301_1 := (HB.out.cell (World.block_lt_of_cell? w _ hx301_1)).trans hx301_1
      replace hx301_2 := (HB.out.cell (World.block_lt_of_cell? w _ hx301_2)).trans hx301_2
      replace p301 := eq_true p301
      replace q301 := eq_true q301
      go_wp2_with (first | ((with_reducible refine gate_callee (f := 27) rfl ?_); refine goesL_ (some 23) rfl rfl Try.func27 (by kernel_rfl) rfl #[.agg #[.int .i64 ((rd_T49 l0 x4_1).f0), .string ((rd_T49 l0 x4_1).f1), .int .i64 ((rd_T49 l0 x4_1).f2)]] rfl (by (try simp only [List.map_toArray, List.map_cons, List.map_nil]); (rfl)) ?_; (with_reducible refine (variorumref06_Kind.calls k1 ((rd_T49 l0 x4_1).f0) ((rd_T49 l0 x4_1).f1) ((rd_T49 l0 x4_1).f2) t302 _ A4.out).mono ?_); rintro e w9 ⟨rfl, hb⟩; refine ⟨_, rfl, ?_⟩; have n0_ := Aside0.mk (Kd.R_below (by (with_reducible repeat ((apply Kd.R_drew))); exact HO_3.out) hb); have n1_ := Aside0.mk (below_step (by repeat ((with_reducible (exact HB.out)))) hb); clear HO_3; clear HB; have HO_3 := n0_; have HB := n1_; clear n0_ n1_; (try clear hb); (try clear hb2); (try clear hk); (try clear hi)))
      go_roundg k1
      case measure => have := HK1.out; omega
      case rel => exact ⟨(x3_1), (wrap64 (x4_1 + 1)), (by (rfl)), H', ⟨by have := HK1.out; omega⟩, ⟨by (with_reducible repeat ((apply Kd.R_drew))); exact HO_3.out⟩, ⟨by repeat ((with_reducible (exact HB.out)))⟩⟩
    ·rw [if_neg c3] at H
     exact absurd H (by simp)
   ·rw [if_neg c2] at H
    have c2b0 : decide (x4_1 < (l0.length : Int)) = false := decide_eq_false c2
    clear c2
    replace H := Option.bind_eq_some_iff.mp H
    obtain ⟨⟨t307, t308, t309⟩, A100, H⟩ := H
    replace H : (if t309 = true then (variorumref06_Norm.l1 k1 x3_1 ([] : List (S49)) (⟨#[]⟩ : ByteArray) 0 0 0) else (some ([] : List (S49)))) = some r := H
    have A10 := Aside0.mk A100
    clear A100
    by_cases c11 : t309 = true
    ·subst c11
     have H1 : (variorumref06_Norm.l1 k1 x3_1 ([] : List (S49)) (⟨#[]⟩ : ByteArray) 0 0 0) = some r := by rw [if_pos rfl] at H; exact H
     clear H
     have H := H1
     clear H1
     have H' := Aside0.mk H
     clear H
     obtain ⟨Ao12, co12, eo12⟩ := Kd.R_slice HO_3.out
     subst eo12
     go_wp2_with (first | ((with_reducible refine gate_callee (f := 28) rfl ?_); refine goesL_ (some 34) rfl rfl Try.func28 (by kernel_rfl) rfl #[.slice Ao12 x3_1.length co12] rfl (by (try simp only [List.map_toArray, List.map_cons, List.map_nil]); (rfl)) ?_; (with_reducible refine (variorumref06_sums.calls k1 _ _ x3_1 t307 t308 true _ ?side1 ?side2 A10.out).mono ?_); (case side1 => repeat ((exact (Kd.R_reads' HO_3.out).2.2))); (case side2 => exact (Kd.R_reads' HO_3.out).2.1); rintro e w13 ⟨rfl, hb⟩; refine ⟨_, rfl, ?_⟩; have n0_ := Aside0.mk (Kd.R_below (by (with_reducible repeat ((apply Kd.R_drew))); exact HO_3.out) hb); have n1_ := Aside0.mk (below_step (by repeat ((with_reducible (exact HB.out)))) hb); clear HO_3; clear HB; have HO_3 := n0_; have HB := n1_; clear n0_ n1_; (try clear hb); (try clear hb2); (try clear hk); (try clear hi)))
     go_loopg [8, 9, 10, 11, 12] k1 (fun kq v8 v9 v10 v11 v12 w' => ∃ (x8_2 : List (S49)) (x9_2 : ByteArray) (x10_2 : Int) (x11_2 : Int) (x12_2 : Int), v9 = .string x9_2 ∧ v10 = .int .i64 x10_2 ∧ v11 = .int .i64 x11_2 ∧ v12 = .int .i64 x12_2 ∧ Aside0 (variorumref06_Norm.l1 kq x3_1 x8_2 x9_2 x10_2 x11_2 x12_2 = some r) ∧ Aside0 (kq ≤ k1) ∧ Aside0 (Kd.R k49 49 w' w.heap.size (fun k_ => some k_ ≠ (v8 : Value).ownBlock) (.slice Ao12 x3_1.length co12) x3_1) ∧ Aside0 (Kd.R k49 49 w' w.heap.size (fun k_ => some k_ ≠ ((.slice Ao12 x3_1.length co12) : Value).ownBlock) v8 x8_2) ∧ Aside0 (Below w.heap.size w w'))
     case atStart => exact ⟨(([] : List (S49))), ((⟨#[]⟩ : ByteArray)), (0), (0), (0), (by (rfl)), (by (rfl)), (by (rfl)), (by (rfl)), H', ⟨Nat.le_refl _⟩, ⟨by (with_reducible repeat ((apply Kd.R_drew))); exact Kd.R_mono HO_3.out (fun _ hk => (by simp [Value.ownBlock]))⟩, ⟨by (exact Kd.R_nil _ _ _ _ _)⟩, ⟨by repeat ((with_reducible (exact HB.out)))⟩⟩
     case round =>
      clear H'
      try clear c1
      try clear c2
      try clear c2b0
      try clear p2
      try clear c3
      try clear c3b0
      try clear p3
      try clear q3
      try clear hx3
      try clear c5
      try clear c5b0
      try clear c6
      try clear p6
      try clear c11
      try clear hx301_0
      try clear hx301_1
      try clear hx301_2
      try clear hx303_0
      try clear hx303_1
      try clear hx303_2
      try clear p301
      try clear p303
      try clear q301
      try clear q303
      obtain ⟨x8_2, x9_2, x10_2, x11_2, x12_2, rfl, rfl, rfl, rfl, HA, HK2, HO_3, HO_8, HB⟩ := hrel
      cases gk with
      | zero => exact absurd HA.out (by simp [variorumref06_Norm.l1])
      | succ k2 =>
       have H := HA.out
       clear HA
       simp only [variorumref06_Norm.l1] at H
       by_cases c14 : x12_2 ≤ (x3_1.length : Int)
       ·rw [if_pos c14] at H
        have c14b0 : decide (x12_2 ≤ (x3_1.length : Int)) = true := decide_eq_true c14
        clear c14
        have HC15 := Aside0.mk H
        clear H
        go_upto_region 17 with (fail)
        go_cut [57] (fun v57 wc => ∃ (kq : Nat) (x57_14 : Bool), v57 = .bool x57_14 ∧ Aside0 (variorumref06_Norm.j2 kq x3_1 x8_2 x9_2 x10_2 x11_2 x12_2 x57_14 = some r) ∧ Aside0 (kq ≤ k2) ∧ Aside0 (Kd.R k49 49 wc w.heap.size (fun k_ => some k_ ≠ (u8 : Value).ownBlock) (.slice Ao12 x3_1.length co12) x3_1) ∧ Aside0 (Kd.R k49 49 wc w.heap.size (fun k_ => some k_ ≠ ((.slice Ao12 x3_1.length co12) : Value).ownBlock) u8 x8_2) ∧ Aside0 (Below w.heap.size w wc))
        case first =>
         have H := HC15.out
         clear HC15
         by_cases c16 : x12_2 < (x3_1.length : Int)
         ·rw [if_pos c16] at H
          have c16b0 : decide (x12_2 < (x3_1.length : Int)) = true := decide_eq_true c16
          clear c16
          ((skip))
          by_cases c17 : 0 ≤ x12_2
          ·rw [if_pos c17] at H
           have c17b0 : decide (0 ≤ x12_2) = true := decide_eq_true c17
           clear c17
           replace H := Option.bind_eq_some_iff.mp H
           obtain ⟨t311, A180, H⟩ := H
           replace H : (variorumref06_Norm.j2 k2 x3_1 x8_2 x9_2 x10_2 x11_2 x12_2 (t311 == 1)) = some r := H
           have A18 := Aside0.mk A180
           clear A180
           have H' := Aside0.mk H
           clear H
           have p310 : 0 ≤ (x12_2 : Int) := of_decide_eq_true (by (with_reducible assumption))
           have q310 : x12_2 < (x3_1.length : Int) := of_decide_eq_true (by (with_reducible assumption))
           obtain ⟨ad310, e310, hx310_0, hx310_1, hx310_2⟩ := at_T49 (Kd.R_reads' HO_3.out).2.2 x12_2 p310 q310
           cases e310
           replace p310 := eq_true p310
           replace q310 := eq_true q310
           go_wp2_with (first | (go_at_call 27; (with_reducible refine (variorumref06_Kind.calls k2 ((rd_T49 x3_1 x12_2).f0) ((rd_T49 x3_1 x12_2).f1) ((rd_T49 x3_1 x12_2).f2) t311 _ A18.out).mono ?_); rintro e w19 ⟨rfl, hb⟩; have n0_ := Aside0.mk (Kd.R_below (by (with_reducible repeat ((apply Kd.R_drew))); exact HO_3.out) hb); have n1_ := Aside0.mk (Kd.R_below (by (with_reducible repeat ((apply Kd.R_drew))); exact HO_8.out) hb); have n2_ := Aside0.mk (below_step (by repeat ((with_reducible (exact HB.out)))) hb); clear HO_3; clear HO_8; clear HB; have HO_3 := n0_; have HO_8 := n1_; have HB := n2_; clear n0_ n1_ n2_; (try clear hb); (try clear hb2); (try clear hk); (try clear hi)))
           go_meet
           case rel => exact ⟨_, ((t311 == 1)), (by (rfl)), H', ⟨by have := HK1.out; have := HK2.out; (omega)⟩, ⟨by (with_reducible repeat ((apply Kd.R_drew))); exact HO_3.out⟩, ⟨by (with_reducible repeat ((apply Kd.R_drew))); exact HO_8.out⟩, ⟨by repeat ((with_reducible (exact HB.out)))⟩⟩
          ·rw [if_neg c17] at H
           exact absurd H (by simp)
         ·rw [if_neg c16] at H
          have c16b0 : decide (x12_2 < (x3_1.length : Int)) = false := decide_eq_false c16
          clear c16
          ((skip))
          have H' := Aside0.mk H
          clear H
          go_wp2
          go_meet
          case rel => exact ⟨_, (false), (by (rfl)), H', ⟨by have := HK1.out; have := HK2.out; (omega)⟩, ⟨by (with_reducible repeat ((apply Kd.R_drew))); exact HO_3.out⟩, ⟨by (with_reducible repeat ((apply Kd.R_drew))); exact HO_8.out⟩, ⟨by repeat ((with_reducible (exact HB.out)))⟩⟩
        case rest =>
         clear HC15
         try clear c1
         try clear c2
         try clear c2b0
         try clear p2
         try clear c3
         try clear c3b0
         try clear p3
         try clear q3
         try clear hx3
         try clear c5
         try clear c5b0
         try clear c6
         try clear p6
         try clear c11
         try clear c14
         try clear c14b0
         try clear c16
         try clear c16b0
         try clear c17
         try clear c17b0
         try clear hx301_0
         try clear hx301_1
         try clear hx301_2
         try clear hx303_0
         try clear hx303_1
         try clear hx303_2
         try clear hx310_0
         try clear hx310_1
         try clear hx310_2
         try clear p2
         try clear p3
         try clear p301
         try clear p303
         try clear p310
         try clear p6
         try clear q3
         try clear q301
         try clear q303
         try clear q310
         obtain ⟨kq, x57_14, rfl, HA, HJ14, HO_3, HO_8, HB⟩ := hcut
         cases kq with
         | zero => exact absurd HA.out (by simp [variorumref06_Norm.j2])
         | succ kj14 =>
          have H := HA.out
          clear HA
          simp only [variorumref06_Norm.j2] at H
          by_cases c20 : x57_14 = true
          ·subst c20
           have H1 : (if x9_2.toList = ([] : List UInt8) then (if x10_2 > 0 then (if x8_2.length < 4398046511104 then (if 0 ≤ x12_2 then (if x12_2 < (x3_1.length : Int) then (variorumref06_Norm.l1 kj14 x3_1 (x8_2 ++ [(⟨0, (⟨#[]⟩ : ByteArray), x10_2⟩ : S49)]) (⟨#[]⟩ : ByteArray) 0 (wrap64 (x11_2 + ((rd_T49 x3_1 x12_2).f0))) (wrap64 (x12_2 + 1))) else (none)) else (none)) else (none)) else (if 0 ≤ x12_2 then (if x12_2 < (x3_1.length : Int) then (variorumref06_Norm.l1 kj14 x3_1 x8_2 (⟨#[]⟩ : ByteArray) 0 (wrap64 (x11_2 + ((rd_T49 x3_1 x12_2).f0))) (wrap64 (x12_2 + 1))) else (none)) else (none))) else (if x8_2.length < 4398046511104 then ((some (x8_2 ++ [(⟨0, x9_2, 0⟩ : S49)] : List (S49))).bind fun y317 => (if x10_2 > 0 then (if y317.length < 4398046511104 then (if 0 ≤ x12_2 then (if x12_2 < (x3_1.length : Int) then (variorumref06_Norm.l1 kj14 x3_1 (y317 ++ [(⟨0, (⟨#[]⟩ : ByteArray), x10_2⟩ : S49)]) (⟨#[]⟩ : ByteArray) 0 (wrap64 (x11_2 + ((rd_T49 x3_1 x12_2).f0))) (wrap64 (x12_2 + 1))) else (none)) else (none)) else (none)) else (if 0 ≤ x12_2 then (if x12_2 < (x3_1.length : Int) then (variorumref06_Norm.l1 kj14 x3_1 y317 (⟨#[]⟩ : ByteArray) 0 (wrap64 (x11_2 + ((rd_T49 x3_1 x12_2).f0))) (wrap64 (x12_2 + 1))) else (none)) else (none)))) else (none))) = some r := by rw [if_pos rfl] at H; exact H
           clear H
           have H := H1
           clear H1
           by_cases c21 : x9_2.toList = ([] : List UInt8)
           ·rw [if_pos c21] at H
            have c21b0 : (x9_2.toList == ([] : List UInt8)) = true := beq_iff_eq.mpr c21
            have c21e : x9_2.toList.isEmpty = true := List.isEmpty_iff.mpr c21
            have c21b1 : (x9_2.toList != ([] : List UInt8)) = false := bne_eq_false_iff_eq.mpr c21
            clear c21
            by_cases c22 : x10_2 > 0
            ·rw [if_pos c22] at H
             have c22b0 : decide (0 < x10_2) = true := decide_eq_true c22
             clear c22
             by_cases c23 : x8_2.length < 4398046511104
             ·rw [if_pos c23] at H
              have LMc23 := Aside0.mk c23
              clear c23
              obtain ⟨y312, hy312⟩ : ∃ y_ : List (S49), y_ = (x8_2 ++ [(⟨0, (⟨#[]⟩ : ByteArray), x10_2⟩ : S49)]) := ⟨_, rfl⟩
              replace H : (if 0 ≤ x12_2 then (if x12_2 < (x3_1.length : Int) then (variorumref06_Norm.l1 kj14 x3_1 y312 (⟨#[]⟩ : ByteArray) 0 (wrap64 (x11_2 + ((rd_T49 x3_1 x12_2).f0))) (wrap64 (x12_2 + 1))) else (none)) else (none)) = some r := by (rw [hy312]; with_reducible exact H)
              have Ny312 := Aside0.mk hy312
              clear hy312
              by_cases c24 : 0 ≤ x12_2
              ·rw [if_pos c24] at H
               have c24b0 : decide (0 ≤ x12_2) = true := decide_eq_true c24
               clear c24
               by_cases c25 : x12_2 < (x3_1.length : Int)
               ·rw [if_pos c25] at H
                have c25b0 : decide (x12_2 < (x3_1.length : Int)) = true := decide_eq_true c25
                clear c25
                have H' := Aside0.mk H
                clear H
                go_wp2_with (first | ((with_reducible refine gate_builtin (b := .append) (xs := #[.tmp 67, .tmp 70]) rfl ?_); at_builtin; refine Kd.R_append k49 (w0 := w) w.heap.size rfl (.tmp 67) (.tmp 70) 34 49 (.agg #[(.int .i64 0), (.string ⟨#[]⟩), (.int .i64 0)]) 32 rfl Try.underlying34 info49 rfl (by decide) (by omega) u8 x8_2 (⟨0, (⟨#[]⟩ : ByteArray), x10_2⟩ : S49) [.int .i64 0, .string (⟨#[]⟩ : ByteArray), .int .i64 x10_2] (fun k_ => some k_ ≠ (.slice Ao12 x3_1.length co12 : Value).ownBlock) (fun _ => False) rfl rfl ?aP (fun _ hk => hk.elim) ?aF ?aO ?aB ?aS ?aL ?_; (case aP => exact k49_mkM _ _ _ (⟨0, (⟨#[]⟩ : ByteArray), x10_2⟩ : S49)); (case aB => exact (by repeat ((with_reducible (exact HB.out))))); (case aF => exact (fun k_ hk => Kd.fresh' (Kd.R_lt (by (with_reducible repeat ((apply Kd.R_drew))); exact HO_3.out)) k_ hk)); (case aO => exact (by (with_reducible repeat ((apply Kd.R_drew))); exact HO_8.out)); (case aS => exact (below_size (by repeat ((with_reducible (exact HB.out)))))); (case aL => have := LMc23.out; omega); intro v313 w26 ho hb hg hat; rw [← Ny312.out] at ho; have n0_ := Aside0.mk (Kd.R_after (ok := (fun _ => True)) (by (with_reducible repeat ((apply Kd.R_drew))); exact Kd.R_mono HO_3.out (fun _ hk => ⟨trivial, hk⟩)) hg hat); have n1_ := Aside0.mk (hb); have n2_ := Aside0.mk (ho); clear HO_3; clear HB; clear HO_8; have HO_3 := n0_; have HB := n1_; have HO314 := n2_; clear n0_ n1_ n2_; clear ho hb hg hat; have p315 : 0 ≤ (x12_2 : Int) := of_decide_eq_true (by (with_reducible assumption)); have q315 : x12_2 < (x3_1.length : Int) := of_decide_eq_true (by (with_reducible assumption)); obtain ⟨ad315, e315, hx315_0, hx315_1, hx315_2⟩ := at_T49 (Kd.R_reads' HO_3.out).2.2 x12_2 p315 q315; cases e315; replace p315 := eq_true p315; replace q315 := eq_true q315))
                go_roundg kj14
                case measure => have := HK1.out; have := HK2.out; have := HJ14.out; omega
                case rel => exact ⟨(y312), ((⟨#[]⟩ : ByteArray)), (0), (wrap64 (x11_2 + ((rd_T49 x3_1 x12_2).f0))), (wrap64 (x12_2 + 1)), (by (rfl)), (by (rfl)), (by (rfl)), (by (rfl)), H', ⟨by have := HK1.out; have := HK2.out; have := HJ14.out; omega⟩, ⟨by (with_reducible repeat ((apply Kd.R_drew))); exact Kd.R_mono HO_3.out (fun _ hk => hk.2)⟩, ⟨by (with_reducible repeat ((apply Kd.R_drew))); exact HO314.out⟩, ⟨by repeat ((with_reducible (exact HB.out)))⟩⟩
               ·rw [if_neg c25] at H
                exact absurd H (by simp)
              ·rw [if_neg c24] at H
               exact absurd H (by simp)
             ·rw [if_neg c23] at H
              exact absurd H (by simp)
            ·rw [if_neg c22] at H
             have c22b0 : decide (0 < x10_2) = false := decide_eq_false c22
             clear c22
             by_cases c27 : 0 ≤ x12_2
             ·rw [if_pos c27] at H
              have c27b0 : decide (0 ≤ x12_2) = true := decide_eq_true c27
              clear c27
              by_cases c28 : x12_2 < (x3_1.length : Int)
              ·rw [if_pos c28] at H
               have c28b0 : decide (x12_2 < (x3_1.length : Int)) = true := decide_eq_true c28
               clear c28
               have H' := Aside0.mk H
               clear H
               have p316 : 0 ≤ (x12_2 : Int) := of_decide_eq_true (by (with_reducible assumption))
               have q316 : x12_2 < (x3_1.length : Int) := of_decide_eq_true (by (with_reducible assumption))
               obtain ⟨ad316, e316, hx316_0, hx316_1, hx316_2⟩ := at_T49 (Kd.R_reads' HO_3.out).2.2 x12_2 p316 q316
               cases e316
               replace p316 := eq_true p316
               replace q316 := eq_true q316
               go_wp2
               go_roundg kj14
               case measure => have := HK1.out; have := HK2.out; have := HJ14.out; omega
               case rel => exact ⟨(x8_2), ((⟨#[]⟩ : ByteArray)), (0), (wrap64 (x11_2 + ((rd_T49 x3_1 x12_2).f0))), (wrap64 (x12_2 + 1)), (by (rfl)), (by (rfl)), (by (rfl)), (by (rfl)), H', ⟨by have := HK1.out; have := HK2.out; have := HJ14.out; omega⟩, ⟨by (with_reducible repeat ((apply Kd.R_drew))); exact HO_3.out⟩, ⟨by (with_reducible repeat ((apply Kd.R_drew))); exact HO_8.out⟩, ⟨by repeat ((with_reducible (exact HB.out)))⟩⟩
              ·rw [if_neg c28] at H
               exact absurd H (by simp)
             ·rw [if_neg c27] at H
              exact absurd H (by simp)
           ·rw [if_neg c21] at H
            have c21b0 : (x9_2.toList == ([] : List UInt8)) = false := beq_eq_false_iff_ne.mpr c21
            have c21e : x9_2.toList.isEmpty = false := List.isEmpty_eq_false_iff.mpr c21
            have c21b1 : (x9_2.toList != ([] : List UInt8)) = true := bne_iff_ne.mpr c21
            by_cases c29 : x8_2.length < 4398046511104
            ·rw [if_pos c29] at H
             have LMc29 := Aside0.mk c29
             clear c29
             obtain ⟨y317, hy317⟩ : ∃ y_ : List (S49), y_ = (x8_2 ++ [(⟨0, x9_2, 0⟩ : S49)]) := ⟨_, rfl⟩
             replace H : (if x10_2 > 0 then (if y317.length < 4398046511104 then (if 0 ≤ x12_2 then (if x12_2 < (x3_1.length : Int) then (variorumref06_Norm.l1 kj14 x3_1 (y317 ++ [(⟨0, (⟨#[]⟩ : ByteArray), x10_2⟩ : S49)]) (⟨#[]⟩ : ByteArray) 0 (wrap64 (x11_2 + ((rd_T49 x3_1 x12_2).f0))) (wrap64 (x12_2 + 1))) else (none)) else (none)) else (none)) else (if 0 ≤ x12_2 then (if x12_2 < (x3_1.length : Int) then (variorumref06_Norm.l1 kj14 x3_1 y317 (⟨#[]⟩ : ByteArray) 0 (wrap64 (x11_2 + ((rd_T49 x3_1 x12_2).f0))) (wrap64 (x12_2 + 1))) else (none)) else (none))) = some r := by (have H2_ := (Option.bind_some _ _).symm.trans H; rw [hy317]; with_reducible exact H2_)
             have Ny317 := Aside0.mk hy317
             clear hy317
             by_cases c30 : x10_2 > 0
             ·rw [if_pos c30] at H
              have c30b0 : decide (0 < x10_2) = true := decide_eq_true c30
              clear c30
              by_cases c31 : y317.length < 4398046511104
              ·rw [if_pos c31] at H
               have LMc31 := Aside0.mk c31
               clear c31
               obtain ⟨y320, hy320⟩ : ∃ y_ : List (S49), y_ = (y317 ++ [(⟨0, (⟨#[]⟩ : ByteArray), x10_2⟩ : S49)]) := ⟨_, rfl⟩
               replace H : (if 0 ≤ x12_2 then (if x12_2 < (x3_1.length : Int) then (variorumref06_Norm.l1 kj14 x3_1 y320 (⟨#[]⟩ : ByteArray) 0 (wrap64 (x11_2 + ((rd_T49 x3_1 x12_2).f0))) (wrap64 (x12_2 + 1))) else (none)) else (none)) = some r := by (rw [hy320]; with_reducible exact H)
               have Ny320 := Aside0.mk hy320
               clear hy320
               by_cases c32 : 0 ≤ x12_2
               ·rw [if_pos c32] at H
                have c32b0 : decide (0 ≤ x12_2) = true := decide_eq_true c32
                clear c32
                by_cases c33 : x12_2 < (x3_1.length : Int)
                ·rw [if_pos c33] at H
                 have c33b0 : decide (x12_2 < (x3_1.length : Int)) = true := decide_eq_true c33
                 clear c33
                 have H' := Aside0.mk H
                 clear H
                 go_wp2_with (first | ((with_reducible refine gate_builtin (b := .append) (xs := #[.tmp 60, .tmp 63]) rfl ?_); at_builtin; refine Kd.R_append k49 (w0 := w) w.heap.size rfl (.tmp 60) (.tmp 63) 34 49 (.agg #[(.int .i64 0), (.string ⟨#[]⟩), (.int .i64 0)]) 32 rfl Try.underlying34 info49 rfl (by decide) (by omega) u8 x8_2 (⟨0, x9_2, 0⟩ : S49) [.int .i64 0, .string x9_2, .int .i64 0] (fun k_ => some k_ ≠ (.slice Ao12 x3_1.length co12 : Value).ownBlock) (fun _ => False) rfl rfl ?aP (fun _ hk => hk.elim) ?aF ?aO ?aB ?aS ?aL ?_; (case aP => exact k49_mkM _ _ _ (⟨0, x9_2, 0⟩ : S49)); (case aB => exact (by repeat ((with_reducible (exact HB.out))))); (case aF => exact (fun k_ hk => Kd.fresh' (Kd.R_lt (by (with_reducible repeat ((apply Kd.R_drew))); exact HO_3.out)) k_ hk)); (case aO => exact (by (with_reducible repeat ((apply Kd.R_drew))); exact HO_8.out)); (case aS => exact (below_size (by repeat ((with_reducible (exact HB.out)))))); (case aL => have := LMc29.out; omega); intro v318 w34 ho hb hg hat; rw [← Ny317.out] at ho; have n0_ := Aside0.mk (Kd.R_after (ok := (fun _ => True)) (by (with_reducible repeat ((apply Kd.R_drew))); exact Kd.R_mono HO_3.out (fun _ hk => ⟨trivial, hk⟩)) hg hat); have n1_ := Aside0.mk (hb); have n2_ := Aside0.mk (ho); clear HO_3; clear HB; clear HO_8; have HO_3 := n0_; have HB := n1_; have HO319 := n2_; clear n0_ n1_ n2_; clear ho hb hg hat) | ((with_reducible refine gate_builtin (b := .append) (xs := #[.tmp 67, .tmp 70]) rfl ?_); at_builtin; refine Kd.R_append k49 (w0 := w) w.heap.size rfl (.tmp 67) (.tmp 70) 34 49 (.agg #[(.int .i64 0), (.string ⟨#[]⟩), (.int .i64 0)]) 32 rfl Try.underlying34 info49 rfl (by decide) (by omega) v318 y317 (⟨0, (⟨#[]⟩ : ByteArray), x10_2⟩ : S49) [.int .i64 0, .string (⟨#[]⟩ : ByteArray), .int .i64 x10_2] (fun k_ => some k_ ≠ (.slice Ao12 x3_1.length co12 : Value).ownBlock) (fun _ => False) rfl rfl ?aP (fun _ hk => hk.elim) ?aF ?aO ?aB ?aS ?aL ?_; (case aP => exact k49_mkM _ _ _ (⟨0, (⟨#[]⟩ : ByteArray), x10_2⟩ : S49)); (case aB => exact (by repeat ((with_reducible (exact HB.out))))); (case aF => exact (fun k_ hk => Kd.fresh' (Kd.R_lt (by (with_reducible repeat ((apply Kd.R_drew))); exact HO_3.out)) k_ hk)); (case aO => exact (by (with_reducible repeat ((apply Kd.R_drew))); exact HO319.out)); (case aS => exact (below_size (by repeat ((with_reducible (exact HB.out)))))); (case aL => have := LMc31.out; omega); intro v321 w35 ho hb hg hat; rw [← Ny320.out] at ho; have n0_ := Aside0.mk (Kd.R_after (ok := (fun _ => True)) (by (with_reducible repeat ((apply Kd.R_drew))); exact HO_3.out) hg hat); have n1_ := Aside0.mk (hb); have n2_ := Aside0.mk (ho); clear HO_3; clear HB; clear HO319; have HO_3 := n0_; have HB := n1_; have HO322 := n2_; clear n0_ n1_ n2_; clear ho hb hg hat; have p323 : 0 ≤ (x12_2 : Int) := of_decide_eq_true (by (with_reducible assumption)); have q323 : x12_2 < (x3_1.length : Int) := of_decide_eq_true (by (with_reducible assumption)); obtain ⟨ad323, e323, hx323_0, hx323_1, hx323_2⟩ := at_T49 (Kd.R_reads' HO_3.out).2.2 x12_2 p323 q323; cases e323; replace p323 := eq_true p323; replace q323 := eq_true q323))
                 go_roundg kj14
                 case measure => have := HK1.out; have := HK2.out; have := HJ14.out; omega
                 case rel => exact ⟨(y320), ((⟨#[]⟩ : ByteArray)), (0), (wrap64 (x11_2 + ((rd_T49 x3_1 x12_2).f0))), (wrap64 (x12_2 + 1)), (by (rfl)), (by (rfl)), (by (rfl)), (by (rfl)), H', ⟨by have := HK1.out; have := HK2.out; have := HJ14.out; omega⟩, ⟨by (with_reducible repeat ((apply Kd.R_drew))); exact Kd.R_mono HO_3.out (fun _ hk => hk.2)⟩, ⟨by (with_reducible repeat ((apply Kd.R_drew))); exact HO322.out⟩, ⟨by repeat ((with_reducible (exact HB.out)))⟩⟩
                ·rw [if_neg c33] at H
                 exact absurd H (by simp)
               ·rw [if_neg c32] at H
                exact absurd H (by simp)
              ·rw [if_neg c31] at H
               exact absurd H (by simp)
             ·rw [if_neg c30] at H
              have c30b0 : decide (0 < x10_2) = false := decide_eq_false c30
              clear c30
              by_cases c36 : 0 ≤ x12_2
              ·rw [if_pos c36] at H
               have c36b0 : decide (0 ≤ x12_2) = true := decide_eq_true c36
               clear c36
               by_cases c37 : x12_2 < (x3_1.length : Int)
               ·rw [if_pos c37] at H
                have c37b0 : decide (x12_2 < (x3_1.length : Int)) = true := decide_eq_true c37
                clear c37
                have H' := Aside0.mk H
                clear H
                go_wp2_with (first | ((with_reducible refine gate_builtin (b := .append) (xs := #[.tmp 60, .tmp 63]) rfl ?_); at_builtin; refine Kd.R_append k49 (w0 := w) w.heap.size rfl (.tmp 60) (.tmp 63) 34 49 (.agg #[(.int .i64 0), (.string ⟨#[]⟩), (.int .i64 0)]) 32 rfl Try.underlying34 info49 rfl (by decide) (by omega) u8 x8_2 (⟨0, x9_2, 0⟩ : S49) [.int .i64 0, .string x9_2, .int .i64 0] (fun k_ => some k_ ≠ (.slice Ao12 x3_1.length co12 : Value).ownBlock) (fun _ => False) rfl rfl ?aP (fun _ hk => hk.elim) ?aF ?aO ?aB ?aS ?aL ?_; (case aP => exact k49_mkM _ _ _ (⟨0, x9_2, 0⟩ : S49)); (case aB => exact (by repeat ((with_reducible (exact HB.out))))); (case aF => exact (fun k_ hk => Kd.fresh' (Kd.R_lt (by (with_reducible repeat ((apply Kd.R_drew))); exact HO_3.out)) k_ hk)); (case aO => exact (by (with_reducible repeat ((apply Kd.R_drew))); exact HO_8.out)); (case aS => exact (below_size (by repeat ((with_reducible (exact HB.out)))))); (case aL => have := LMc29.out; omega); intro v318 w38 ho hb hg hat; rw [← Ny317.out] at ho; have n0_ := Aside0.mk (Kd.R_after (ok := (fun _ => True)) (by (with_reducible repeat ((apply Kd.R_drew))); exact Kd.R_mono HO_3.out (fun _ hk => ⟨trivial, hk⟩)) hg hat); have n1_ := Aside0.mk (hb); have n2_ := Aside0.mk (ho); clear HO_3; clear HB; clear HO_8; have HO_3 := n0_; have HB := n1_; have HO319 := n2_; clear n0_ n1_ n2_; clear ho hb hg hat; have p324 : 0 ≤ (x12_2 : Int) := of_decide_eq_true (by (with_reducible assumption)); have q324 : x12_2 < (x3_1.length : Int) := of_decide_eq_true (by (with_reducible assumption)); obtain ⟨ad324, e324, hx324_0, hx324_1, hx324_2⟩ := at_T49 (Kd.R_reads' HO_3.out).2.2 x12_2 p324 q324; cases e324; replace p324 := eq_true p324; replace q324 := eq_true q324))
                go_roundg kj14
                case measure => have := HK1.out; have := HK2.out; have := HJ14.out; omega
                case rel => exact ⟨(y317), ((⟨#[]⟩ : ByteArray)), (0), (wrap64 (x11_2 + ((rd_T49 x3_1 x12_2).f0))), (wrap64 (x12_2 + 1)), (by (rfl)), (by (rfl)), (by (rfl)), (by (rfl)), H', ⟨by have := HK1.out; have := HK2.out; have := HJ14.out; omega⟩, ⟨by (with_reducible repeat ((apply Kd.R_drew))); exact Kd.R_mono HO_3.out (fun _ hk => hk.2)⟩, ⟨by (with_reducible repeat ((apply Kd.R_drew))); exact HO319.out⟩, ⟨by repeat ((with_reducible (exact HB.out)))⟩⟩
               ·rw [if_neg c37] at H
                exact absurd H (by simp)
              ·rw [if_neg c36] at H
               exact absurd H (by simp)
            ·rw [if_neg c29] at H
             exact absurd H (by simp)
          ·replace c20 := Bool.eq_false_iff.mpr c20
           subst c20
           have H1 : (if x11_2 > 0 then (if x8_2.length < 4398046511104 then ((some (x8_2 ++ [(⟨x11_2, (⟨#[]⟩ : ByteArray), 0⟩ : S49)] : List (S49))).bind fun y325 => (if x12_2 < (x3_1.length : Int) then (if 0 ≤ x12_2 then (if x9_2.size + ((rd_T49 x3_1 x12_2).f1).size ≤ 9223372036854775807 then (variorumref06_Norm.l1 kj14 x3_1 y325 (x9_2 ++ ((rd_T49 x3_1 x12_2).f1)) (wrap64 (x10_2 + ((rd_T49 x3_1 x12_2).f2))) 0 (wrap64 (x12_2 + 1))) else (none)) else (none)) else (variorumref06_Norm.l1 kj14 x3_1 y325 x9_2 x10_2 0 (wrap64 (x12_2 + 1))))) else (none)) else (if x12_2 < (x3_1.length : Int) then (if 0 ≤ x12_2 then (if x9_2.size + ((rd_T49 x3_1 x12_2).f1).size ≤ 9223372036854775807 then (variorumref06_Norm.l1 kj14 x3_1 x8_2 (x9_2 ++ ((rd_T49 x3_1 x12_2).f1)) (wrap64 (x10_2 + ((rd_T49 x3_1 x12_2).f2))) 0 (wrap64 (x12_2 + 1))) else (none)) else (none)) else (variorumref06_Norm.l1 kj14 x3_1 x8_2 x9_2 x10_2 0 (wrap64 (x12_2 + 1))))) = some r := by rw [if_neg (show ¬ (false = true) by decide)] at H; exact H
           clear H
           have H := H1
           clear H1
           by_cases c39 : x11_2 > 0
           ·rw [if_pos c39] at H
            have c39b0 : decide (0 < x11_2) = true := decide_eq_true c39
            clear c39
            by_cases c40 : x8_2.length < 4398046511104
            ·rw [if_pos c40] at H
             have LMc40 := Aside0.mk c40
             clear c40
             obtain ⟨y325, hy325⟩ : ∃ y_ : List (S49), y_ = (x8_2 ++ [(⟨x11_2, (⟨#[]⟩ : ByteArray), 0⟩ : S49)]) := ⟨_, rfl⟩
             replace H : (if x12_2 < (x3_1.length : Int) then (if 0 ≤ x12_2 then (if x9_2.size + ((rd_T49 x3_1 x12_2).f1).size ≤ 9223372036854775807 then (variorumref06_Norm.l1 kj14 x3_1 y325 (x9_2 ++ ((rd_T49 x3_1 x12_2).f1)) (wrap64 (x10_2 + ((rd_T49 x3_1 x12_2).f2))) 0 (wrap64 (x12_2 + 1))) else (none)) else (none)) else (variorumref06_Norm.l1 kj14 x3_1 y325 x9_2 x10_2 0 (wrap64 (x12_2 + 1)))) = some r := by (have H2_ := (Option.bind_some _ _).symm.trans H; rw [hy325]; with_reducible exact H2_)
             have Ny325 := Aside0.mk hy325
             clear hy325
             by_cases c41 : x12_2 < (x3_1.length : Int)
             ·rw [if_pos c41] at H
              have c41b0 : decide (x12_2 < (x3_1.length : Int)) = true := decide_eq_true c41
              clear c41
              by_cases c42 : 0 ≤ x12_2
              ·rw [if_pos c42] at H
               have c42b0 : decide (0 ≤ x12_2) = true := decide_eq_true c42
               clear c42
               by_cases c43 : x9_2.size + ((rd_T49 x3_1 x12_2).f1).size ≤ 9223372036854775807
               ·rw [if_pos c43] at H
                have c43b0 := eq_true c43
                have c43b1 : decide (x9_2.size + ((rd_T49 x3_1 x12_2).f1).size ≤ 9223372036854775807) = true := decide_eq_true c43
                try have c43b2 : (9223372036854775807 < x9_2.size + ((rd_T49 x3_1 x12_2).f1).size) = False := eq_false (Nat.not_lt.2 c43)
                have H' := Aside0.mk H
                clear H
                go_wp2_with (first | ((with_reducible refine gate_builtin (b := .append) (xs := #[.tmp 81, .tmp 84]) rfl ?_); at_builtin; refine Kd.R_append k49 (w0 := w) w.heap.size rfl (.tmp 81) (.tmp 84) 34 49 (.agg #[(.int .i64 0), (.string ⟨#[]⟩), (.int .i64 0)]) 32 rfl Try.underlying34 info49 rfl (by decide) (by omega) u8 x8_2 (⟨x11_2, (⟨#[]⟩ : ByteArray), 0⟩ : S49) [.int .i64 x11_2, .string (⟨#[]⟩ : ByteArray), .int .i64 0] (fun k_ => some k_ ≠ (.slice Ao12 x3_1.length co12 : Value).ownBlock) (fun _ => False) rfl rfl ?aP (fun _ hk => hk.elim) ?aF ?aO ?aB ?aS ?aL ?_; (case aP => exact k49_mkM _ _ _ (⟨x11_2, (⟨#[]⟩ : ByteArray), 0⟩ : S49)); (case aB => exact (by repeat ((with_reducible (exact HB.out))))); (case aF => exact (fun k_ hk => Kd.fresh' (Kd.R_lt (by (with_reducible repeat ((apply Kd.R_drew))); exact HO_3.out)) k_ hk)); (case aO => exact (by (with_reducible repeat ((apply Kd.R_drew))); exact HO_8.out)); (case aS => exact (below_size (by repeat ((with_reducible (exact HB.out)))))); (case aL => have := LMc40.out; omega); intro v326 w44 ho hb hg hat; rw [← Ny325.out] at ho; have n0_ := Aside0.mk (Kd.R_after (ok := (fun _ => True)) (by (with_reducible repeat ((apply Kd.R_drew))); exact Kd.R_mono HO_3.out (fun _ hk => ⟨trivial, hk⟩)) hg hat); have n1_ := Aside0.mk (hb); have n2_ := Aside0.mk (ho); clear HO_3; clear HB; clear HO_8; have HO_3 := n0_; have HB := n1_; have HO327 := n2_; clear n0_ n1_ n2_; clear ho hb hg hat; have p328 : 0 ≤ (x12_2 : Int) := of_decide_eq_true (by (with_reducible assumption)); have q328 : x12_2 < (x3_1.length : Int) := of_decide_eq_true (by (with_reducible assumption)); obtain ⟨ad328, e328, hx328_0, hx328_1, hx328_2⟩ := at_T49 (Kd.R_reads' HO_3.out).2.2 x12_2 p328 q328; cases e328; replace p328 := eq_true p328; replace q328 := eq_true q328; have p329 : 0 ≤ (x12_2 : Int) := of_decide_eq_true (by (with_reducible assumption)); have q329 : x12_2 < (x3_1.length : Int) := of_decide_eq_true (by (with_reducible assumption)); obtain ⟨ad329, e329, hx329_0, hx329_1, hx329_2⟩ := at_T49 (Kd.R_reads' HO_3.out).2.2 x12_2 p329 q329; obtain rfl : ad328 = ad329 := (by injection e329); replace p329 := eq_true p329; replace q329 := eq_true q329))
                go_roundg kj14
                case measure => have := HK1.out; have := HK2.out; have := HJ14.out; omega
                case rel => exact ⟨(y325), (x9_2 ++ ((rd_T49 x3_1 x12_2).f1)), (wrap64 (x10_2 + ((rd_T49 x3_1 x12_2).f2))), (0), (wrap64 (x12_2 + 1)), (by (rfl)), (by (rfl)), (by (rfl)), (by (rfl)), H', ⟨by have := HK1.out; have := HK2.out; have := HJ14.out; omega⟩, ⟨by (with_reducible repeat ((apply Kd.R_drew))); exact Kd.R_mono HO_3.out (fun _ hk => hk.2)⟩, ⟨by (with_reducible repeat ((apply Kd.R_drew))); exact HO327.out⟩, ⟨by repeat ((with_reducible (exact HB.out)))⟩⟩
               ·rw [if_neg c43] at H
                exact absurd H (by simp)
              ·rw [if_neg c42] at H
               exact absurd H (by simp)
             ·rw [if_neg c41] at H
              have c41b0 : decide (x12_2 < (x3_1.length : Int)) = false := decide_eq_false c41
              clear c41
              have H' := Aside0.mk H
              clear H
              go_wp2_with (first | ((with_reducible refine gate_builtin (b := .append) (xs := #[.tmp 81, .tmp 84]) rfl ?_); at_builtin; refine Kd.R_append k49 (w0 := w) w.heap.size rfl (.tmp 81) (.tmp 84) 34 49 (.agg #[(.int .i64 0), (.string ⟨#[]⟩), (.int .i64 0)]) 32 rfl Try.underlying34 info49 rfl (by decide) (by omega) u8 x8_2 (⟨x11_2, (⟨#[]⟩ : ByteArray), 0⟩ : S49) [.int .i64 x11_2, .string (⟨#[]⟩ : ByteArray), .int .i64 0] (fun k_ => some k_ ≠ (.slice Ao12 x3_1.length co12 : Value).ownBlock) (fun _ => False) rfl rfl ?aP (fun _ hk => hk.elim) ?aF ?aO ?aB ?aS ?aL ?_; (case aP => exact k49_mkM _ _ _ (⟨x11_2, (⟨#[]⟩ : ByteArray), 0⟩ : S49)); (case aB => exact (by repeat ((with_reducible (exact HB.out))))); (case aF => exact (fun k_ hk => Kd.fresh' (Kd.R_lt (by (with_reducible repeat ((apply Kd.R_drew))); exact HO_3.out)) k_ hk)); (case aO => exact (by (with_reducible repeat ((apply Kd.R_drew))); exact HO_8.out)); (case aS => exact (below_size (by repeat ((with_reducible (exact HB.out)))))); (case aL => have := LMc40.out; omega); intro v326 w45 ho hb hg hat; rw [← Ny325.out] at ho; have n0_ := Aside0.mk (Kd.R_after (ok := (fun _ => True)) (by (with_reducible repeat ((apply Kd.R_drew))); exact Kd.R_mono HO_3.out (fun _ hk => ⟨trivial, hk⟩)) hg hat); have n1_ := Aside0.mk (hb); have n2_ := Aside0.mk (ho); clear HO_3; clear HB; clear HO_8; have HO_3 := n0_; have HB := n1_; have HO327 := n2_; clear n0_ n1_ n2_; clear ho hb hg hat))
              go_roundg kj14
              case measure => have := HK1.out; have := HK2.out; have := HJ14.out; omega
              case rel => exact ⟨(y325), (x9_2), (x10_2), (0), (wrap64 (x12_2 + 1)), (by (rfl)), (by (rfl)), (by (rfl)), (by (rfl)), H', ⟨by have := HK1.out; have := HK2.out; have := HJ14.out; omega⟩, ⟨by (with_reducible repeat ((apply Kd.R_drew))); exact Kd.R_mono HO_3.out (fun _ hk => hk.2)⟩, ⟨by (with_reducible repeat ((apply Kd.R_drew))); exact HO327.out⟩, ⟨by repeat ((with_reducible (exact HB.out)))⟩⟩
            ·rw [if_neg c40] at H
             exact absurd H (by simp)
           ·rw [if_neg c39] at H
            have c39b0 : decide (0 < x11_2) = false := decide_eq_false c39
            clear c39
            by_cases c46 : x12_2 < (x3_1.length : Int)
            ·rw [if_pos c46] at H
             have c46b0 : decide (x12_2 < (x3_1.length : Int)) = true := decide_eq_true c46
             clear c46
             by_cases c47 : 0 ≤ x12_2
             ·rw [if_pos c47] at H
              have c47b0 : decide (0 ≤ x12_2) = true := decide_eq_true c47
              clear c47
              by_cases c48 : x9_2.size + ((rd_T49 x3_1 x12_2).f1).size ≤ 9223372036854775807
              ·rw [if_pos c48] at H
               have c48b0 := eq_true c48
               have c48b1 : decide (x9_2.size + ((rd_T49 x3_1 x12_2).f1).size ≤ 9223372036854775807) = true := decide_eq_true c48
               try have c48b2 : (9223372036854775807 < x9_2.size + ((rd_T49 x3_1 x12_2).f1).size) = False := eq_false (Nat.not_lt.2 c48)
               have H' := Aside0.mk H
               clear H
               have p330 : 0 ≤ (x12_2 : Int) := of_decide_eq_true (by (with_reducible assumption))
               have q330 : x12_2 < (x3_1.length : Int) := of_decide_eq_true (by (with_reducible assumption))
               obtain ⟨ad330, e330, hx330_0, hx330_1, hx330_2⟩ := at_T49 (Kd.R_reads' HO_3.out).2.2 x12_2 p330 q330
               cases e330
               replace p330 := eq_true p330
               replace q330 := eq_true q330
               have p331 : 0 ≤ (x12_2 : Int) := of_decide_eq_true (by (with_reducible assumption))
               have q331 : x12_2 < (x3_1.length : Int) := of_decide_eq_true (by (with_reducible assumption))
               obtain ⟨ad331, e331, hx331_0, hx331_1, hx331_2⟩ := at_T49 (Kd.R_reads' HO_3.out).2.2 x12_2 p331 q331
               obtain rfl : ad330 = ad331 := (by injection e331)
               replace p331 := eq_true p331
               replace q331 := eq_true q331
               go_wp2
               go_roundg kj14
               case measure => have := HK1.out; have := HK2.out; have := HJ14.out; omega
               case rel => exact ⟨(x8_2), (x9_2 ++ ((rd_T49 x3_1 x12_2).f1)), (wrap64 (x10_2 + ((rd_T49 x3_1 x12_2).f2))), (0), (wrap64 (x12_2 + 1)), (by (rfl)), (by (rfl)), (by (rfl)), (by (rfl)), H', ⟨by have := HK1.out; have := HK2.out; have := HJ14.out; omega⟩, ⟨by (with_reducible repeat ((apply Kd.R_drew))); exact HO_3.out⟩, ⟨by (with_reducible repeat ((apply Kd.R_drew))); exact HO_8.out⟩, ⟨by repeat ((with_reducible (exact HB.out)))⟩⟩
              ·rw [if_neg c48] at H
               exact absurd H (by simp)
             ·rw [if_neg c47] at H
              exact absurd H (by simp)
            ·rw [if_neg c46] at H
             have c46b0 : decide (x12_2 < (x3_1.length : Int)) = false := decide_eq_false c46
             clear c46
             have H' := Aside0.mk H
             clear H
             go_wp2
             go_roundg kj14
             case measure => have := HK1.out; have := HK2.out; have := HJ14.out; omega
             case rel => exact ⟨(x8_2), (x9_2), (x10_2), (0), (wrap64 (x12_2 + 1)), (by (rfl)), (by (rfl)), (by (rfl)), (by (rfl)), H', ⟨by have := HK1.out; have := HK2.out; have := HJ14.out; omega⟩, ⟨by (with_reducible repeat ((apply Kd.R_drew))); exact HO_3.out⟩, ⟨by (with_reducible repeat ((apply Kd.R_drew))); exact HO_8.out⟩, ⟨by repeat ((with_reducible (exact HB.out)))⟩⟩
       ·rw [if_neg c14] at H
        have c14b0 : decide (x12_2 ≤ (x3_1.length : Int)) = false := decide_eq_false c14
        clear c14
        have HC49 := Aside0.mk H
        clear H
        go_upto_if 105 with (fail)
        go_cut [8] (fun v8 wc => ∃ (kq : Nat) (x8_48 : List (S49)), Aside0 (variorumref06_Norm.j3 kq x8_48 x10_2 = some r) ∧ Aside0 (kq ≤ k2) ∧ Aside0 (Kd.R k49 49 wc w.heap.size (fun _ => True) v8 x8_48) ∧ Aside0 (Below w.heap.size w wc))
        case first =>
         have H := HC49.out
         clear HC49
         by_cases c50 : x9_2.toList = ([] : List UInt8)
         ·rw [if_pos c50] at H
          have c50b0 : (x9_2.toList == ([] : List UInt8)) = true := beq_iff_eq.mpr c50
          have c50e : x9_2.toList.isEmpty = true := List.isEmpty_iff.mpr c50
          have c50b1 : (x9_2.toList != ([] : List UInt8)) = false := bne_eq_false_iff_eq.mpr c50
          clear c50
          ((rw [c50e]; simp only [Bool.not_true, Bool.not_false]))
          have H' := Aside0.mk H
          clear H
          go_wp2
          go_meet
          case rel => exact ⟨_, (x8_2), H', ⟨by have := HK1.out; have := HK2.out; (omega)⟩, ⟨by (with_reducible repeat ((apply Kd.R_drew))); exact Kd.R_mono HO_8.out (fun _ hk => trivial)⟩, ⟨by repeat ((with_reducible (exact HB.out)))⟩⟩
         ·rw [if_neg c50] at H
          have c50b0 : (x9_2.toList == ([] : List UInt8)) = false := beq_eq_false_iff_ne.mpr c50
          have c50e : x9_2.toList.isEmpty = false := List.isEmpty_eq_false_iff.mpr c50
          have c50b1 : (x9_2.toList != ([] : List UInt8)) = true := bne_iff_ne.mpr c50
          ((rw [c50e]; simp only [Bool.not_true, Bool.not_false]))
          by_cases c51 : x8_2.length < 4398046511104
          ·rw [if_pos c51] at H
           have LMc51 := Aside0.mk c51
           clear c51
           obtain ⟨y332, hy332⟩ : ∃ y_ : List (S49), y_ = (x8_2 ++ [(⟨0, x9_2, 0⟩ : S49)]) := ⟨_, rfl⟩
           replace H : (variorumref06_Norm.j3 k2 y332 x10_2) = some r := by (rw [hy332]; with_reducible exact H)
           have Ny332 := Aside0.mk hy332
           clear hy332
           have H' := Aside0.mk H
           clear H
           go_wp2_with (first | ((with_reducible refine gate_builtin (b := .append) (xs := #[.tmp 106, .tmp 109]) rfl ?_); at_builtin; refine Kd.R_append k49 (w0 := w) w.heap.size rfl (.tmp 106) (.tmp 109) 34 49 (.agg #[(.int .i64 0), (.string ⟨#[]⟩), (.int .i64 0)]) 32 rfl Try.underlying34 info49 rfl (by decide) (by omega) u8 x8_2 (⟨0, x9_2, 0⟩ : S49) [.int .i64 0, .string x9_2, .int .i64 0] (fun k_ => some k_ ≠ (.slice Ao12 x3_1.length co12 : Value).ownBlock) (fun _ => False) rfl rfl ?aP (fun _ hk => hk.elim) ?aF ?aO ?aB ?aS ?aL ?_; (case aP => exact k49_mkM _ _ _ (⟨0, x9_2, 0⟩ : S49)); (case aB => exact (by repeat ((with_reducible (exact HB.out))))); (case aF => exact (fun k_ hk => Kd.fresh' (Kd.R_lt (by (with_reducible repeat ((apply Kd.R_drew))); exact HO_3.out)) k_ hk)); (case aO => exact (by (with_reducible repeat ((apply Kd.R_drew))); exact HO_8.out)); (case aS => exact (below_size (by repeat ((with_reducible (exact HB.out)))))); (case aL => have := LMc51.out; omega); intro v333 w52 ho hb hg hat; rw [← Ny332.out] at ho; have n0_ := Aside0.mk (Kd.R_after (ok := (fun _ => True)) (by (with_reducible repeat ((apply Kd.R_drew))); exact Kd.R_mono HO_3.out (fun _ hk => ⟨trivial, hk⟩)) hg hat); have n1_ := Aside0.mk (hb); have n2_ := Aside0.mk (ho); clear HO_3; clear HB; clear HO_8; have HO_3 := n0_; have HB := n1_; have HO334 := n2_; clear n0_ n1_ n2_; clear ho hb hg hat))
           go_meet
           case rel => exact ⟨_, (y332), H', ⟨by have := HK1.out; have := HK2.out; (omega)⟩, ⟨by (with_reducible repeat ((apply Kd.R_drew))); exact Kd.R_mono HO334.out (fun _ hk => trivial)⟩, ⟨by repeat ((with_reducible (exact HB.out)))⟩⟩
          ·rw [if_neg c51] at H
           exact absurd H (by simp)
        case rest =>
         clear HC49
         try clear c1
         try clear c2
         try clear c2b0
         try clear p2
         try clear c3
         try clear c3b0
         try clear p3
         try clear q3
         try clear hx3
         try clear c4
         try clear c5
         try clear c5b0
         try clear c6
         try clear p6
         try clear c11
         try clear c14
         try clear c14b0
         try clear c16
         try clear c16b0
         try clear c17
         try clear c17b0
         try clear c20
         try clear c21
         try clear c21b0
         try clear c21b1
         try clear c22
         try clear c22b0
         try clear c23
         try clear c24
         try clear c24b0
         try clear c25
         try clear c25b0
         try clear c27
         try clear c27b0
         try clear c28
         try clear c28b0
         try clear c29
         try clear c30
         try clear c30b0
         try clear p30
         try clear q30
         try clear hx30
         try clear c31
         try clear p31
         try clear q31
         try clear hx31
         try clear c32
         try clear c32b0
         try clear p32
         try clear q32
         try clear hx32
         try clear c33
         try clear c33b0
         try clear p33
         try clear q33
         try clear hx33
         try clear c36
         try clear c36b0
         try clear c37
         try clear c37b0
         try clear c39
         try clear c39b0
         try clear c40
         try clear c41
         try clear c41b0
         try clear c42
         try clear c42b0
         try clear c43
         try clear c43b0
         try clear c43b1
         try clear c43b2
         try clear c46
         try clear c46b0
         try clear c47
         try clear c47b0
         try clear c48
         try clear c48b0
         try clear c48b1
         try clear c48b2
         try clear c50
         try clear c50b0
         try clear c50b1
         try clear c51
         try clear hx301_0
         try clear hx301_1
         try clear hx301_2
         try clear hx303_0
         try clear hx303_1
         try clear hx303_2
         try clear hx310_0
         try clear hx310_1
         try clear hx310_2
         try clear hx315_0
         try clear hx315_1
         try clear hx315_2
         try clear hx316_0
         try clear hx316_1
         try clear hx316_2
         try clear hx323_0
         try clear hx323_1
         try clear hx323_2
         try clear hx324_0
         try clear hx324_1
         try clear hx324_2
         try clear hx328_0
         try clear hx328_1
         try clear hx328_2
         try clear hx329_0
         try clear hx329_1
         try clear hx329_2
         try clear hx330_0
         try clear hx330_1
         try clear hx330_2
         try clear hx331_0
         try clear hx331_1
         try clear hx331_2
         try clear p2
         try clear p3
         try clear p301
         try clear p303
         try clear p310
         try clear p315
         try clear p316
         try clear p323
         try clear p324
         try clear p328
         try clear p329
         try clear p330
         try clear p331
         try clear p6
         try clear q3
         try clear q301
         try clear q303
         try clear q310
         try clear q315
         try clear q316
         try clear q323
         try clear q324
         try clear q328
         try clear q329
         try clear q330
         try clear q331
         obtain ⟨kq, x8_48, HA, HJ48, HO_8, HB⟩ := hcut
         cases kq with
         | zero => exact absurd HA.out (by simp [variorumref06_Norm.j3])
         | succ kj48 =>
          have H := HA.out
          clear HA
          simp only [variorumref06_Norm.j3] at H
          by_cases c53 : x10_2 > 0
          ·rw [if_pos c53] at H
           have c53b0 : decide (0 < x10_2) = true := decide_eq_true c53
           clear c53
           by_cases c54 : x8_48.length < 4398046511104
           ·rw [if_pos c54] at H
            have LMc54 := Aside0.mk c54
            clear c54
            obtain ⟨y335, hy335⟩ : ∃ y_ : List (S49), y_ = (x8_48 ++ [(⟨0, (⟨#[]⟩ : ByteArray), x10_2⟩ : S49)]) := ⟨_, rfl⟩
            replace H : ((variorumref06_Good.f y335).bind fun t338 => (if t338 = true then (some y335) else (some ([] : List (S49))))) = some r := by (have H2_ := (Option.bind_some _ _).symm.trans H; rw [hy335]; with_reducible exact H2_)
            have Ny335 := Aside0.mk hy335
            clear hy335
            replace H := Option.bind_eq_some_iff.mp H
            obtain ⟨t338, A550, H⟩ := H
            replace H : (if t338 = true then (some y335) else (some ([] : List (S49)))) = some r := H
            have A55 := Aside0.mk A550
            clear A550
            by_cases c56 : t338 = true
            ·subst c56
             have H1 : (some y335) = some r := by rw [if_pos rfl] at H; exact H
             clear H
             have H := H1
             clear H1
             obtain rfl := Option.some.inj H
             go_wp2_with (first | ((with_reducible refine gate_builtin (b := .append) (xs := #[.tmp 113, .tmp 116]) rfl ?_); at_builtin; refine Kd.R_append k49 (w0 := w) w.heap.size rfl (.tmp 113) (.tmp 116) 34 49 (.agg #[(.int .i64 0), (.string ⟨#[]⟩), (.int .i64 0)]) 32 rfl Try.underlying34 info49 rfl (by decide) (by omega) u8 x8_48 (⟨0, (⟨#[]⟩ : ByteArray), x10_2⟩ : S49) [.int .i64 0, .string (⟨#[]⟩ : ByteArray), .int .i64 x10_2] (fun _ => True) (fun _ => False) rfl rfl ?aP (fun _ hk => hk.elim) ?aF ?aO ?aB ?aS ?aL ?_; (case aP => exact k49_mkM _ _ _ (⟨0, (⟨#[]⟩ : ByteArray), x10_2⟩ : S49)); (case aB => exact (by repeat ((with_reducible (exact HB.out))))); (case aF => exact (fun _ _ => trivial)); (case aO => exact (by (with_reducible repeat ((apply Kd.R_drew))); exact HO_8.out)); (case aS => exact (below_size (by repeat ((with_reducible (exact HB.out)))))); (case aL => have := LMc54.out; omega); intro v336 w57 ho hb hg hat; rw [← Ny335.out] at ho; have n0_ := Aside0.mk (hb); have n1_ := Aside0.mk (ho); clear HB; clear HO_8; have HB := n0_; have HO337 := n1_; clear n0_ n1_; clear ho hb hg hat; obtain ⟨Ao58, co58, eo58⟩ := Kd.R_slice HO337.out; subst eo58) | ((with_reducible refine gate_callee (f := 14) rfl ?_); refine goesL_ (some 119) rfl rfl Try.func14 (by kernel_rfl) rfl #[.slice Ao58 y335.length co58] rfl (by (try simp only [List.map_toArray, List.map_cons, List.map_nil]); (rfl)) ?_; (with_reducible refine (variorumref06_Good.calls _ _ y335 true _ ?side1 ?side2 A55.out).mono ?_); (case side1 => repeat ((exact (Kd.R_reads' HO337.out).2.2))); (case side2 => exact (Kd.R_reads' HO337.out).2.1); rintro e w59 ⟨rfl, hb⟩; refine ⟨_, rfl, ?_⟩; have n0_ := Aside0.mk (Kd.R_below (by (with_reducible repeat ((apply Kd.R_drew))); exact HO337.out) hb); have n1_ := Aside0.mk (below_step (by repeat ((with_reducible (exact HB.out)))) hb); clear HO337; clear HB; have HO337 := n0_; have HB := n1_; clear n0_ n1_; (try clear hb); (try clear hb2); (try clear hk); (try clear hi)))
             go_ret
             exact ⟨_, by (rfl), by (with_reducible repeat ((apply Kd.R_drew))); exact HO337.out, by repeat ((with_reducible (exact HB.out)))⟩
            ·replace c56 := Bool.eq_false_iff.mpr c56
             subst c56
             have H1 : (some ([] : List (S49))) = some r := by rw [if_neg (show ¬ (false = true) by decide)] at H; exact H
             clear H
             have H := H1
             clear H1
             obtain rfl := Option.some.inj H
             go_wp2_with (first | ((with_reducible refine gate_builtin (b := .append) (xs := #[.tmp 113, .tmp 116]) rfl ?_); at_builtin; refine Kd.R_append k49 (w0 := w) w.heap.size rfl (.tmp 113) (.tmp 116) 34 49 (.agg #[(.int .i64 0), (.string ⟨#[]⟩), (.int .i64 0)]) 32 rfl Try.underlying34 info49 rfl (by decide) (by omega) u8 x8_48 (⟨0, (⟨#[]⟩ : ByteArray), x10_2⟩ : S49) [.int .i64 0, .string (⟨#[]⟩ : ByteArray), .int .i64 x10_2] (fun _ => True) (fun _ => False) rfl rfl ?aP (fun _ hk => hk.elim) ?aF ?aO ?aB ?aS ?aL ?_; (case aP => exact k49_mkM _ _ _ (⟨0, (⟨#[]⟩ : ByteArray), x10_2⟩ : S49)); (case aB => exact (by repeat ((with_reducible (exact HB.out))))); (case aF => exact (fun _ _ => trivial)); (case aO => exact (by (with_reducible repeat ((apply Kd.R_drew))); exact HO_8.out)); (case aS => exact (below_size (by repeat ((with_reducible (exact HB.out)))))); (case aL => have := LMc54.out; omega); intro v336 w60 ho hb hg hat; rw [← Ny335.out] at ho; have n0_ := Aside0.mk (hb); have n1_ := Aside0.mk (ho); clear HB; clear HO_8; have HB := n0_; have HO337 := n1_; clear n0_ n1_; clear ho hb hg hat; obtain ⟨Ao61, co61, eo61⟩ := Kd.R_slice HO337.out; subst eo61) | ((with_reducible refine gate_callee (f := 14) rfl ?_); refine goesL_ (some 119) rfl rfl Try.func14 (by kernel_rfl) rfl #[.slice Ao61 y335.length co61] rfl (by (try simp only [List.map_toArray, List.map_cons, List.map_nil]); (rfl)) ?_; (with_reducible refine (variorumref06_Good.calls _ _ y335 false _ ?side1 ?side2 A55.out).mono ?_); (case side1 => repeat ((exact (Kd.R_reads' HO337.out).2.2))); (case side2 => exact (Kd.R_reads' HO337.out).2.1); rintro e w62 ⟨rfl, hb⟩; refine ⟨_, rfl, ?_⟩; have n0_ := Aside0.mk (Kd.R_below (by (with_reducible repeat ((apply Kd.R_drew))); exact HO337.out) hb); have n1_ := Aside0.mk (below_step (by repeat ((with_reducible (exact HB.out)))) hb); clear HO337; clear HB; have HO337 := n0_; have HB := n1_; clear n0_ n1_; (try clear hb); (try clear hb2); (try clear hk); (try clear hi)))
             go_ret
             exact ⟨_, by (rfl), by (exact Kd.R_nil _ _ _ _ _), by repeat ((with_reducible (exact HB.out)))⟩
           ·rw [if_neg c54] at H
            exact absurd H (by simp)
          ·rw [if_neg c53] at H
           have c53b0 : decide (0 < x10_2) = false := decide_eq_false c53
           clear c53
           replace H := Option.bind_eq_some_iff.mp H
           obtain ⟨t339, A630, H⟩ := H
           replace H : (if t339 = true then (some x8_48) else (some ([] : List (S49)))) = some r := H
           have A63 := Aside0.mk A630
           clear A630
           by_cases c64 : t339 = true
           ·subst c64
            have H1 : (some x8_48) = some r := by rw [if_pos rfl] at H; exact H
            clear H
            have H := H1
            clear H1
            obtain rfl := Option.some.inj H
            obtain ⟨Ao65, co65, eo65⟩ := Kd.R_slice HO_8.out
            subst eo65
            go_wp2_with (first | ((with_reducible refine gate_callee (f := 14) rfl ?_); refine goesL_ (some 119) rfl rfl Try.func14 (by kernel_rfl) rfl #[.slice Ao65 x8_48.length co65] rfl (by (try simp only [List.map_toArray, List.map_cons, List.map_nil]); (rfl)) ?_; (with_reducible refine (variorumref06_Good.calls _ _ x8_48 true _ ?side1 ?side2 A63.out).mono ?_); (case side1 => repeat ((exact (Kd.R_reads' HO_8.out).2.2))); (case side2 => exact (Kd.R_reads' HO_8.out).2.1); rintro e w66 ⟨rfl, hb⟩; refine ⟨_, rfl, ?_⟩; have n0_ := Aside0.mk (Kd.R_below (by (with_reducible repeat ((apply Kd.R_drew))); exact HO_8.out) hb); have n1_ := Aside0.mk (below_step (by repeat ((with_reducible (exact HB.out)))) hb); clear HO_8; clear HB; have HO_8 := n0_; have HB := n1_; clear n0_ n1_; (try clear hb); (try clear hb2); (try clear hk); (try clear hi)))
            go_ret
            exact ⟨_, by (rfl), by (with_reducible repeat ((apply Kd.R_drew))); exact HO_8.out, by repeat ((with_reducible (exact HB.out)))⟩
           ·replace c64 := Bool.eq_false_iff.mpr c64
            subst c64
            have H1 : (some ([] : List (S49))) = some r := by rw [if_neg (show ¬ (false = true) by decide)] at H; exact H
            clear H
            have H := H1
            clear H1
            obtain rfl := Option.some.inj H
            obtain ⟨Ao67, co67, eo67⟩ := Kd.R_slice HO_8.out
            subst eo67
            go_wp2_with (first | ((with_reducible refine gate_callee (f := 14) rfl ?_); refine goesL_ (some 119) rfl rfl Try.func14 (by kernel_rfl) rfl #[.slice Ao67 x8_48.length co67] rfl (by (try simp only [List.map_toArray, List.map_cons, List.map_nil]); (rfl)) ?_; (with_reducible refine (variorumref06_Good.calls _ _ x8_48 false _ ?side1 ?side2 A63.out).mono ?_); (case side1 => repeat ((exact (Kd.R_reads' HO_8.out).2.2))); (case side2 => exact (Kd.R_reads' HO_8.out).2.1); rintro e w68 ⟨rfl, hb⟩; refine ⟨_, rfl, ?_⟩; have n0_ := Aside0.mk (Kd.R_below (by (with_reducible repeat ((apply Kd.R_drew))); exact HO_8.out) hb); have n1_ := Aside0.mk (below_step (by repeat ((with_reducible (exact HB.out)))) hb); clear HO_8; clear HB; have HO_8 := n0_; have HB := n1_; clear n0_ n1_; (try clear hb); (try clear hb2); (try clear hk); (try clear hi)))
            go_ret
            exact ⟨_, by (rfl), by (exact Kd.R_nil _ _ _ _ _), by repeat ((with_reducible (exact HB.out)))⟩
    ·replace c11 := Bool.eq_false_iff.mpr c11
     subst c11
     have H1 : (some ([] : List (S49))) = some r := by rw [if_neg (show ¬ (false = true) by decide)] at H; exact H
     clear H
     have H := H1
     clear H1
     obtain rfl := Option.some.inj H
     obtain ⟨Ao69, co69, eo69⟩ := Kd.R_slice HO_3.out
     subst eo69
     go_wp2_with (first | ((with_reducible refine gate_callee (f := 28) rfl ?_); refine goesL_ (some 34) rfl rfl Try.func28 (by kernel_rfl) rfl #[.slice Ao69 x3_1.length co69] rfl (by (try simp only [List.map_toArray, List.map_cons, List.map_nil]); (rfl)) ?_; (with_reducible refine (variorumref06_sums.calls k1 _ _ x3_1 t307 t308 false _ ?side1 ?side2 A10.out).mono ?_); (case side1 => repeat ((exact (Kd.R_reads' HO_3.out).2.2))); (case side2 => exact (Kd.R_reads' HO_3.out).2.1); rintro e w70 ⟨rfl, hb⟩; refine ⟨_, rfl, ?_⟩; have n0_ := Aside0.mk (Kd.R_below (by (with_reducible repeat ((apply Kd.R_drew))); exact HO_3.out) hb); have n1_ := Aside0.mk (below_step (by repeat ((with_reducible (exact HB.out)))) hb); clear HO_3; clear HB; have HO_3 := n0_; have HB := n1_; clear n0_ n1_; (try clear hb); (try clear hb2); (try clear hk); (try clear hi)))
     go_ret
     exact ⟨_, by (rfl), by (exact Kd.R_nil _ _ _ _ _), by repeat ((with_reducible (exact HB.out)))⟩
end Go.Proofs.Ytjbnffadfohofaa.P
end
-- MERGED YtjbnffadfohofaaEditH
section
namespace Go.Proofs.Ytjbnffadfohofaa.EditH
open Go.RowKit Go.Proofs.Ytjbnffadfohofaa.P Go.Proofs.YtjbnffadfohofaaW.PrintWords Go.Proofs.YtjbnffadfohofaaW.PrintLast Go.Proofs.YtjbnffadfohofaaW.PrintMore Go.Proofs.Ytjbnffadfohofaa.EditL Go.Proofs.Ytjbnffadfohofaa.EditK Go.Proofs.Ytjbnffadfohofaa.EditF Go.Proofs.Ytjbnffadfohofaa.EditG
set_option linter.unusedSimpArgs false
set_option linter.unusedVariables false
theorem rgood_f {l : List Rn} (hb : l.length ≤ 140737488351232) : variorumref06_Good.f l = some (good l) := by unfold variorumref06_Good.f; rw [if_pos hb]
theorem rin_f {l : List Rn} (hb : l.length ≤ 140737488351232) (k : Nat) (hk : l.length < k) : variorumref06_In.f k l = some (if good l then inL l else 0) := by
 unfold variorumref06_In.f
 rw [rgood_f hb, Option.bind_some]
 cases h : good l with
 | false => rfl
 | true =>
  obtain ⟨_, _, h2, h3⟩ := good_ok h
  rw [if_pos rfl, rsums_f hb h3 k hk, Option.bind_some, h2]; rfl
theorem rkind_k (r : Rn) {k : Nat} (hk : 2 ≤ k) : variorumref06_Kind.f k r.f0 r.f1 r.f2 = some (knd r) := by
 obtain ⟨k, rfl⟩ : ∃ m, k = m + 2 := ⟨k - 2, by omega⟩
 exact rkind_f r k
def fin (o : List Rn) : List Rn := if good o then o else []
theorem fin_bind (o : List Rn) (ho : o.length ≤ 140737488351232) : ((variorumref06_Good.f o).bind fun t => if t = true then some o else some []) = some (fin o) := by
 rw [rgood_f ho, Option.bind_some]
 unfold fin
 split <;> rfl
theorem j3_f (k : Nat) (o : List Rn) (d : Int) (hk : 1 ≤ k) (ho : o.length ≤ 4000000000000) : variorumref06_Norm.j3 k o d = some (fin (o ++ (if 0 < d then [⟨0, E, d⟩] else []))) := by
 obtain ⟨k, rfl⟩ : ∃ m, k = m + 1 := ⟨k - 1, by omega⟩
 simp only [variorumref06_Norm.j3]
 by_cases h : d > 0
 ·rw [if_pos h, if_pos (show 0 < d from h), if_pos (by omega), Option.bind_some]
  exact fin_bind _ (by simp; omega)
 ·rw [if_neg h, if_neg (show ¬ 0 < d from h), List.append_nil]
  exact fin_bind _ (by omega)
theorem l1_end (f : List Rn) (hf : f.length ≤ 4000000) (k : Nat) (o : List Rn) (a : ByteArray) (d : Int) (hk : 2 ≤ k) (ho : o.length ≤ 3000000000000) :
  variorumref06_Norm.l1 k f o a d 0 ((f.length : Int) + 1) = some (fin (o ++ fl 0 a d)) := by
 obtain ⟨k, rfl⟩ : ∃ m, k = m + 1 := ⟨k - 1, by omega⟩
 simp only [variorumref06_Norm.l1]
 rw [if_neg (by omega)]
 by_cases h : a.size = 0
 ·rw [if_pos (tl_nil.2 h), j3_f k o d (by omega) (by omega)]
  unfold fl
  rw [if_neg (show ¬ (0 : Int) < 0 by decide), if_neg (show ¬ a.size ≠ 0 from fun h2 => h2 h)]
  rfl
 ·rw [if_neg (fun h2 => h (tl_nil.1 h2)), if_pos (by omega), j3_f k _ d (by omega) (by simp; omega)]
  unfold fl
  rw [if_neg (show ¬ (0 : Int) < 0 by decide), if_pos h, List.append_assoc]
  rfl
theorem jn_keep (l : List Rn) (h : ∀ r ∈ l, knd r ≠ 0) : ∀ (k : Int) (a : ByteArray) (d : Int), 0 ≤ k → 0 ≤ d → (a.size ≠ 0 ∨ 0 < d) → jn l k a d = (if 0 < k then [⟨k, E, 0⟩] else []) ++ jn l 0 a d := by
 have hfl : ∀ (k : Int) (a : ByteArray) (d : Int), fl k a d = (if 0 < k then [⟨k, E, 0⟩] else []) ++ fl 0 a d := fun k a d => by
  show _ = _ ++ ((if (0 : Int) < 0 then _ else _) ++ _)
  rw [if_neg (show ¬ (0 : Int) < 0 by decide)]; rfl
 induction l with
 | nil => intro k a d _ _ _; exact hfl k a d
 | cons r l ih =>
  intro k a d hk hd hp
  have h2 : ∀ x ∈ l, knd x ≠ 0 := fun x hx => h x (List.mem_cons_of_mem _ hx)
  have hpos := knd_pos (h r List.mem_cons_self)
  by_cases c : knd r = 1
  ·rw [jn_flush c hp, jn_flush c hp, hfl k a d, List.append_assoc]
  ·have h0 : r.f0 = 0 := by
    rcases knd_three (h r List.mem_cons_self) with c2 | c2 | c2
    ·exact absurd c2 c
    ·exact (run_eq2 c2).2.1
    ·exact (run_eq3 c2).2.1
   rw [jn_on (fun h => c h.1), jn_on (fun h => c h.1), h0, Int.add_zero, Int.add_zero]
   refine ih h2 k _ _ hk (by omega) ?_
   rw [size_add]
   omega
set_option maxHeartbeats 4000000 in
theorem l1_f (f : List Rn) (hf : ∀ r ∈ f, knd r ≠ 0) (hl : f.length ≤ 4000000) : ∀ (suf pre : List Rn) (k : Nat) (o : List Rn) (a : ByteArray) (d kp : Int), f = pre ++ suf → 2 * suf.length + 8 ≤ k → (kp = 0 ∨ (a.size = 0 ∧ d = 0)) → 0 ≤ kp → 0 ≤ d →
  kp + d + inL suf ≤ 16777216 → kp + (a.size : Int) + outL suf ≤ 16777216 → o.length + 3 * suf.length ≤ 2000000000000 → variorumref06_Norm.l1 k f o a d kp (pre.length : Int) = some (fin (o ++ jn suf kp a d)) := by
 intro suf
 induction suf with
 | nil =>
  intro pre k o a d kp hfe hk hst hkp hd hi ho hol
  have hpl : f.length = pre.length := by rw [hfe]; simp
  obtain ⟨k, rfl⟩ : ∃ m, k = m + 2 := ⟨k - 2, by simp at hk; omega⟩
  have hend := fun (o' : List Rn) (h : o'.length ≤ 3000000000000) => l1_end f hl k o' a d (by simp at hk; omega) h
  simp only [variorumref06_Norm.l1]
  rw [if_pos (by omega), if_neg (by omega)]
  simp only [variorumref06_Norm.j2]
  rw [if_neg (by simp)]
  rw [w64 (x := (pre.length : Int) + 1) (by omega) (by omega), show (pre.length : Int) + 1 = (f.length : Int) + 1 by omega]
  by_cases h : kp > 0
  ·rw [if_pos h, if_pos (by simp at hol; omega), Option.bind_some, if_neg (by omega), hend _ (by simp at hol ⊢; omega)]
   show _ = some (fin (o ++ fl kp a d))
   rw [List.append_assoc]
   unfold fl
   rw [if_pos (show 0 < kp from h), if_neg (show ¬ (0 : Int) < 0 by decide)]
   rfl
  ·obtain rfl : kp = 0 := by omega
   rw [if_neg h, if_neg (by omega), hend _ (by simp at hol; omega)]
   rfl
 | cons r suf ih =>
  intro pre k o a d kp hfe hk hst hkp hd hi ho hol
  obtain ⟨k, rfl⟩ : ∃ m, k = m + 2 := ⟨k - 2, by simp at hk; omega⟩
  obtain ⟨hl2, hn, hlt⟩ := snoc hfe
  have hne := hf r (by rw [hfe]; simp)
  have hsuf : ∀ x ∈ suf, knd x ≠ 0 := fun x hx => hf x (by rw [hfe]; simp [hx])
  have hp := knd_pos hne
  have hs := inL_nonneg hsuf
  have hz := rd_at hfe
  simp only [inL, outL] at hi ho
  have next := fun o' a' d' kp' => ih (pre ++ [r]) k o' a' d' kp' hl2 (by simp at hk; omega)
  rw [hn] at next
  simp only [List.length_cons] at hol hk
  simp only [variorumref06_Norm.l1]
  rw [if_pos (by omega), if_pos hlt, if_pos (by omega), hz, rkind_k r (by omega), Option.bind_some]
  simp only [variorumref06_Norm.j2]
  rw [hz, w64 (x := (pre.length : Int) + 1) (by omega) (by omega)]
  rcases knd_three hne with c | c | c
  ·obtain ⟨e, e0, e1, e2⟩ := run_eq c
   rw [c, if_pos (show ((1 : Int) == 1) = true from rfl)]
   have hE : r.f1 = (⟨#[]⟩ : ByteArray) := e1
   have hr1 : (r.f1.size : Int) = 0 := by rw [e1]; rfl
   by_cases ha : a.size = 0
   ·obtain rfl : a = E := eq_E ha
    rw [if_pos (tl_nil.2 ha)]
    by_cases hdp : d > 0
    ·rw [if_pos hdp, if_pos (by omega), if_pos (by omega), if_pos hlt]
     have hk0 : kp = 0 := by omega
     subst hk0
     rw [w64 (x := 0 + r.f0) (by omega) (by omega), Int.zero_add, next _ _ _ _ (.inr ⟨rfl, rfl⟩) (by omega) (by omega) (by omega) (by show _ + ((E.size : Nat) : Int) + _ ≤ _; rw [E_size]; omega) (by simp; omega), jn_flush c (.inr hdp), e1, e2, List.append_assoc]
     unfold fl
     rw [if_neg (show ¬ (0 : Int) < 0 by decide), if_neg (show ¬ E.size ≠ 0 by decide), if_pos (show 0 < d from hdp)]
     rfl
    ·obtain rfl : d = 0 := by omega
     rw [if_neg hdp, if_pos (by omega), if_pos hlt, w64 (x := kp + r.f0) (by omega) (by omega), next _ _ _ _ (.inr ⟨rfl, rfl⟩) (by omega) (by omega) (by omega) (by show _ + ((E.size : Nat) : Int) + _ ≤ _; rw [E_size]; rw [E_size] at ho; omega) (by omega),
      jn_on (fun h => h.2.elim (fun h => h rfl) (fun h => absurd h (by decide))), e1, e2, E_add]
     rfl
   ·have hk0 : kp = 0 := by omega
    subst hk0
    rw [if_neg (fun h2 => ha (tl_nil.1 h2)), if_pos (by omega), Option.bind_some, w64 (x := 0 + r.f0) (by omega) (by omega), Int.zero_add, jn_flush c (.inl ha), e1, e2]
    by_cases hdp : d > 0
    ·rw [if_pos hdp, if_pos (by simp; omega), if_pos (by omega), if_pos hlt, next _ _ _ _ (.inr ⟨rfl, rfl⟩) (by omega) (by omega) (by omega) (by show _ + ((E.size : Nat) : Int) + _ ≤ _; rw [E_size]; omega) (by simp; omega)]
     unfold fl
     rw [if_neg (show ¬ (0 : Int) < 0 by decide), if_pos ha, if_pos (show 0 < d from hdp)]
     simp [E]
    ·obtain rfl : d = 0 := by omega
     rw [if_neg hdp, if_pos (by omega), if_pos hlt, next _ _ _ _ (.inr ⟨rfl, rfl⟩) (by omega) (by omega) (by omega) (by show _ + ((E.size : Nat) : Int) + _ ≤ _; rw [E_size]; omega) (by simp; omega)]
     unfold fl
     rw [if_neg (show ¬ (0 : Int) < 0 by decide), if_pos ha]
     simp [E]
  all_goals
   have c1 : ((knd r == 1) = true) = False := by rw [c]; simp
   have hr0 : r.f0 = 0 := by first | exact (run_eq2 c).2.1 | exact (run_eq3 c).2.1
   have hr2 : (r.f1.size : Int) + r.f2 > 0 := by
    first
    | (have := (run_eq2 c).2.2.1; have := (run_eq2 c).2.2.2; omega)
    | (have := (run_eq3 c).2.2.2; have h9 := (run_eq3 c).2.2.1; rw [h9, E_size]; omega)
   rw [if_neg (by rw [c1]; exact id)]
   have hnew : (a ++ r.f1).size ≠ 0 ∨ 0 < d + r.f2 := by rw [size_add]; omega
   have hon : jn (r :: suf) kp a d = (if 0 < kp then [⟨kp, E, 0⟩] else []) ++ jn suf 0 (a ++ r.f1) (d + r.f2) := by
    rw [jn_on (fun h => by rw [c] at h; exact absurd h.1 (by decide)), hr0, Int.add_zero]
    exact jn_keep suf hsuf kp _ _ hkp (by omega) hnew
   have hgo := fun o' h => next o' (a ++ r.f1) (d + r.f2) 0 (.inl rfl) (by decide) (by omega) (by omega) (by rw [size_add]; omega) h
   rw [hon, w64 (x := d + r.f2) (by omega) (by omega)]
   by_cases h : kp > 0
   ·rw [if_pos h, if_pos (by omega), Option.bind_some, if_pos hlt, if_pos (by omega), if_pos (by omega), hgo _ (by simp; omega), if_pos (show 0 < kp from h), List.append_assoc]
    rfl
   ·rw [if_neg h, if_pos hlt, if_pos (by omega), if_pos (by omega), hgo _ (by omega), if_neg (show ¬ 0 < kp from h)]
    rfl
theorem l0_f (l : List Rn) (hl : l.length ≤ 4000000) : ∀ (suf pre : List Rn) (k : Nat), l = pre ++ suf → suf.length + 2 * l.length + 12 ≤ k → variorumref06_Norm.l0 k l (fine pre) (pre.length : Int) = some (norm l) := by
 intro suf
 induction suf with
 | nil =>
  intro pre k hfe hk
  obtain rfl : l = pre := by rw [hfe]; simp
  obtain ⟨k, rfl⟩ : ∃ m, k = m + 1 := ⟨k - 1, by simp at hk; omega⟩
  have hfl := fine_len l
  simp only [List.length_nil] at hk
  simp only [variorumref06_Norm.l0]
  rw [if_neg (by omega), rsums_f (by omega) (fine_ok l) k (by omega), Option.bind_some]
  unfold norm
  cases h : fits (fine l) 0 0 with
  | false => rfl
  | true =>
   have hs := (fits_iff (fine_ok l) 0 0 (by decide) (by decide)).1 h
   have := l1_f (fine l) (fine_ok l) (by omega) (fine l) [] k [] E 0 0 rfl (by omega) (.inl rfl) (by decide) (by decide) (by omega) (by rw [E_size]; omega) (by simp; omega)
   rw [show ((([] : List Rn).length : Nat) : Int) = 0 from rfl] at this
   simp only [cond_true, if_true]
   exact this
 | cons r suf ih =>
  intro pre k hfe hk
  obtain ⟨k, rfl⟩ : ∃ m, k = m + 1 := ⟨k - 1, by simp at hk; omega⟩
  obtain ⟨hl2, hn, hlt⟩ := snoc hfe
  simp only [List.length_cons] at hk
  have next := ih (pre ++ [r]) k hl2 (by omega)
  rw [hn, fine_append] at next
  have hpl := fine_len pre
  simp only [variorumref06_Norm.l0]
  rw [if_pos hlt, if_pos (by omega), rd_at hfe, rkind_k r (by omega), Option.bind_some, w64 (x := (pre.length : Int) + 1) (by omega) (by omega)]
  by_cases c : knd r = 0
  ·have hfr : fine [r] = [] := by rw [fine_cons, if_neg (fun h => h c)]; rfl
   rw [hfr, List.append_nil] at next
   rw [c, if_neg (by decide), next]
  ·have hfr : fine [r] = [r] := by rw [fine_cons, if_pos c]; rfl
   rw [hfr] at next
   rw [if_pos (by rcases knd_three c with h | h | h <;> omega), if_pos (by omega)]
   exact next
theorem rnorm_f {l : List Rn} (hl : l.length ≤ 4000000) (k : Nat) (hk : 3 * l.length + 12 ≤ k) : variorumref06_Norm.f k l = some (norm l) := by
 unfold variorumref06_Norm.f
 exact l0_f l hl l [] k rfl (by omega)
end Go.Proofs.Ytjbnffadfohofaa.EditH
end
-- MERGED YtjbnffadfohofaaVaryR0
namespace Go.Proofs.Ytjbnffadfohofaa.VaryR
end Go.Proofs.Ytjbnffadfohofaa.VaryR
-- MERGED YtjbnffadfohofaaEditR
section
namespace Go.Proofs.Ytjbnffadfohofaa.EditR
open Go.RowKit Go.Shelf Go.Proofs.Ytjbnffadfohofaa.P Go.Proofs.YtjbnffadfohofaaW.PrintWords Go.Proofs.YtjbnffadfohofaaW.PrintLast Go.Proofs.YtjbnffadfohofaaW.PrintMore Go.Proofs.Ytjbnffadfohofaa.Own Go.Proofs.Ytjbnffadfohofaa.EditL Go.Proofs.Ytjbnffadfohofaa.EditK Go.Proofs.Ytjbnffadfohofaa.RangeG Go.Proofs.Ytjbnffadfohofaa.EditJ Go.Proofs.Ytjbnffadfohofaa.EditI Go.Proofs.Ytjbnffadfohofaa.VaryR
set_option linter.unusedSimpArgs false
set_option linter.unusedVariables false
def RC (w : World) (A : Option Addr) (l : List Rn) : Prop := Kd.C k49 w A l.length l
theorem RC.below {w w' : World} {A : Option Addr} {l : List Rn} (h : RC w A l) (hb : Below w.heap.size w w') : RC w' A l := Kd.C_below h hb
theorem _root_.Go.Boxed.below {W W' : World} {B : Nat} {t : TypeId} {v : Value} (h : Boxed W B t v) (hb : Below W.heap.size W W') : Boxed W' B t v := (hb.block B h.lt).trans h
theorem C_same {w w' : World} {A : Option Addr} {n : Nat} {xs : List Rn} (h : Kd.C k49 w A n xs) (hs : ∀ ad, A = some ad → 0 < n → w'.heap[ad.block]? = w.heap[ad.block]?) : Kd.C k49 w' A n xs := by
 refine ⟨h.1, h.2.1, fun hp => ?_⟩
 obtain ⟨ad, e, hr⟩ := h.2.2 hp
 refine ⟨ad, e, fun j p hj => ?_⟩
 obtain ⟨c, h1, h2, h3⟩ := hr j p hj
 refine ⟨c, h1, ?_, fun i u hu => ?_⟩
 ·obtain rfl := k49_open h2
  exact k49_mk _ p
 ·refine (World.cell?_of_block ?_).trans (h3 i u hu)
  have hb : ∀ m, (ad.add m).block = ad.block := fun m => by unfold Addr.add; split <;> rfl
  rw [hb]
  exact hs ad e hp
theorem RC.lt {w : World} {A : Option Addr} {l : List Rn} (h : RC w A l) : ∀ ad, A = some ad → 0 < l.length → ad.block < w.heap.size := by
 intro ad e hp
 obtain ⟨ad2, e2, h0, _⟩ := at_nat h 0 hp
 rw [e] at e2
 obtain rfl := Option.some.inj e2
 have := World.block_lt_of_cell? w _ h0
 rwa [show (ad.add (0 * 3)).block = ad.block by unfold Addr.add; split <;> rfl] at this
theorem grownBy_setCell (W : World) (b o : Nat) (v : Value) : W.grownBy (W.setCell ⟨b, o, none⟩ v) (some b) :=
 ⟨rfl, rfl, rfl, by simp, fun k _ hk => Below.heap_setCell _ _ _ k (fun e => hk (by rw [e]))⟩
end Go.Proofs.Ytjbnffadfohofaa.EditR
end
-- MERGED YtjbnffadfohofaaPlaceI
section
namespace Go.Proofs.Ytjbnffadfohofaa.PlaceI
open Go.RowKit Go.Shelf Go.Proofs.Ytjbnffadfohofaa.P Go.Proofs.YtjbnffadfohofaaW.PrintWords Go.Proofs.YtjbnffadfohofaaW.PrintLast Go.Proofs.YtjbnffadfohofaaW.PrintMore Go.Proofs.Ytjbnffadfohofaa.Own Go.Proofs.Ytjbnffadfohofaa.EditL Go.Proofs.Ytjbnffadfohofaa.EditK Go.Proofs.Ytjbnffadfohofaa.RangeG Go.Proofs.Ytjbnffadfohofaa.EditJ Go.Proofs.Ytjbnffadfohofaa.EditI Go.Proofs.Ytjbnffadfohofaa.EditR Go.Proofs.Ytjbnffadfohofaa.VaryR
attribute [local go_sem] Oper.semAt_some
set_option linter.unusedSimpArgs false
set_option linter.unusedVariables false
structure St where
 r : Rn
 i : Int
 o : Int
def encS (s : St) : Array Value := #[.agg #[.int .i64 s.r.f0, .string s.r.f1, .int .i64 s.r.f2, .int .i64 s.i, .int .i64 s.o]]
def scs (s : St) : Obj := .cells #[.int .i64 s.r.f0, .string s.r.f1, .int .i64 s.r.f2, .int .i64 s.i, .int .i64 s.o] 76 (0, 0)
def stepsL : List Rn → Int → Int → List St
 | [], _, _ => []
 | r :: l, i, o => ⟨r, i, o⟩ :: stepsL l (i + (r.f0 + r.f2)) (o + (r.f0 + (r.f1.size : Int)))
theorem blk_step {W : World} {b : Nat} {s : St} (h : W.heap[b]? = some (scs s)) : W.cell? ⟨b, 0, none⟩ = some (.int .i64 s.r.f0) ∧ W.cell? ⟨b, 1, none⟩ = some (.string s.r.f1) ∧ W.cell? ⟨b, 2, none⟩ = some (.int .i64 s.r.f2) ∧ W.cell? ⟨b, 3, none⟩ = some (.int .i64 s.i) ∧ W.cell? ⟨b, 4, none⟩ = some (.int .i64 s.o) := by
 unfold scs at h
 exact ⟨by rw [cell_of_row W _ 0 _ _ _ h]; rfl, by rw [cell_of_row W _ 1 _ _ _ h]; rfl, by rw [cell_of_row W _ 2 _ _ _ h]; rfl, by rw [cell_of_row W _ 3 _ _ _ h]; rfl, by rw [cell_of_row W _ 4 _ _ _ h]; rfl⟩
set_option maxHeartbeats 4000000 in
set_option maxRecDepth 100000 in
theorem steps_it (A : Option Addr) (c T : Nat) (f : List Rn) (hf : ∀ r ∈ f, knd r ≠ 0) (hs : Sums 0 0 E f) (hl : f.length ≤ 140737488351232) : Gives Try.prog 53 #[.pointer (some ⟨T, 0, none⟩)] encS (stepsL f 0 0) (Held A c T f) := by
 intro n l J X W1 hP hK hY hJ
 obtain ⟨L, hL⟩ : ∃ L, L = stepsL f 0 0 := ⟨_, rfl⟩
 rw [← hL] at hY ⊢
 refine callsIn_of_wp Try.func53 rfl trivial ?_ rfl
 have HP := Aside0.mk hP
 have HK := Aside0.mk hK
 have HY := Aside0.mk hY
 have HL := Aside0.mk hL
 have HJ := Aside0.mk hJ
 have HF := Aside0.mk hf
 have HS := Aside0.mk hs
 have hh := hK _ _ _ hJ
 have cT : W1.cell? ⟨T, 0, none⟩ = some (.slice A f.length c) := by rw [cell_of_row _ _ 0 _ _ _ hh.1]; rfl
 have hT := (Array.getElem?_eq_some_iff.1 hh.1).1
 clear hP hK hY hL hJ hf hs hh
 simp only [Try.ntmps53, List.size_toArray, List.length_cons, List.length_nil, Nat.reduceAdd, Nat.reduceSub, Array.replicate_succ, Array.replicate_zero, List.push_toArray, List.append_toArray, List.nil_append, List.cons_append]
 gi_wp2
 obtain ⟨W2, hW2⟩ : ∃ W2, W2 = W1.alloc (.cells #[.int .i64 0, .string ⟨#[]⟩, .int .i64 0, .int .i64 0, .int .i64 0] 76) := ⟨_, rfl⟩
 have hJ2 : J [] (Priv.none.put W1.heap.size (scs ⟨⟨0, E, 0⟩, 0, 0⟩)) W2 := by
  rw [hW2]
  exact HP.out.lay HJ.out (below_alloc (Below.refl _ _) _) (Nat.le_refl _) (Own.heap_new _ _) rfl
 rw [← hW2]
 clear hW2
 obtain ⟨B3, hB3⟩ : ∃ b, b = W1.heap.size := ⟨_, rfl⟩
 rw [← hB3] at hJ2 ⊢
 have HJ2 := Aside0.mk hJ2
 clear hJ2 hB3 cT hT HJ
 gi_loopw [9] (fun iv wr => ∃ (i : Nat) (pre : List St) (s : St) (G : Priv), i ≤ f.length ∧ iv = .int .i64 (i : Int) ∧ J pre G wr ∧ pre ++ stepsL (f.drop i) s.i s.o = L ∧ G B3 = some (scs s) ∧ 0 ≤ s.i ∧ 0 ≤ s.o ∧ s.i + inL (f.drop i) ≤ 16777216 ∧ s.o + outL (f.drop i) ≤ 16777216) (fun iv _ => f.length - (intOf iv).toNat)
 case atStart => exact ⟨0, [], ⟨⟨0, E, 0⟩, 0, 0⟩, _, Nat.zero_le _, rfl, HJ2.out, HL.out.symm, Priv.put_same _ _ _, Int.le_refl _, Int.le_refl _, by have := HS.out.i; show (0 : Int) + inL f ≤ _; omega, by have := HS.out.o; rw [E_size] at this; show (0 : Int) + outL f ≤ _; omega⟩
 case round =>
  clear HJ2
  obtain ⟨i, pre, ⟨r0, si, so⟩, G, hi, rfl, hj, he, hg3, hsi, hso, hbi, hbo⟩ := hrel
  simp only at he hsi hso hbi hbo
  have HJr := Aside0.mk hj
  have HE := Aside0.mk he
  have HG3 := Aside0.mk hg3
  clear hj he hg3
  by_cases hlt : i < f.length
  ·obtain ⟨ad, rfl, x0, x1, x2⟩ := at_nat (HK.out _ _ _ HJr.out).2 i hlt
   have hd' := EditK.drop_get hlt
   have hmem : f.getD i z49 ∈ f := by rw [List.getD_eq_getElem?_getD, List.getElem?_eq_getElem hlt]; exact List.getElem_mem hlt
   obtain ⟨r, hr⟩ : ∃ r, r = f.getD i z49 := ⟨_, rfl⟩
   rw [← hr] at x0 x1 x2 hd' hmem
   have hp := knd_pos (HF.out r hmem)
   have hs4 := inL_nonneg (l := f.drop (i + 1)) (fun x hx => HF.out x (List.mem_of_mem_drop hx))
   rw [hd'] at hbi hbo
   simp only [inL, outL] at hbi hbo
   have HD := Aside0.mk hd'
   have HBI := Aside0.mk hbi
   have HBO := Aside0.mk hbo
   have hb1 : si ≤ 16777216 := by omega
   have hb2 : so ≤ 16777216 := by omega
   have hb3 : 0 ≤ r.f0 := hp.1
   have hb4 : 0 ≤ r.f2 := hp.2
   have hb5 : r.f0 ≤ 16777216 := by omega
   have hb6 : r.f2 ≤ 16777216 := by omega
   have hb7 : (r.f1.size : Int) ≤ 16777216 := by omega
   have hlt' : (i : Int) < (f.length : Int) := by omega
   have hq := HP.out.lies _ _ _ HJr.out _ _ HG3.out
   obtain ⟨y0, y1, y2, y3, y4⟩ := blk_step hq
   have fa : ∀ o, wr.frozen? ⟨B3, o, none⟩ = false := fun o => frozen_of_row wr _ o _ _ hq
   have f0 := fa 0
   have f1 := fa 1
   have f2 := fa 2
   have hB3 := HP.out.lt HJr.out HG3.out
   have n1 : wr.heap.size ≠ B3 := by omega
   have n2 : B3 ≠ wr.heap.size := by omega
   -- the world at the round's call
   have hj5 : J pre ((G.put B3 (scs ⟨r, si, so⟩)).put wr.heap.size (rcs r.f0 r.f1 r.f2)) ((((wr.setCell ⟨B3, 0, none⟩ (.int .i64 r.f0)).setCell ⟨B3, 1, none⟩ (.string r.f1)).setCell ⟨B3, 2, none⟩ (.int .i64 r.f2)).alloc (.cells #[.int .i64 r.f0, .string r.f1, .int .i64 r.f2] 49)) := by
    have h1 := HP.out.set (W' := ((wr.setCell ⟨B3, 0, none⟩ (.int .i64 r.f0)).setCell ⟨B3, 1, none⟩ (.string r.f1)).setCell ⟨B3, 2, none⟩ (.int .i64 r.f2)) HJr.out HG3.out (fun q hq => by rw [Below.heap_setCell _ _ _ _ hq, Below.heap_setCell _ _ _ _ hq, Below.heap_setCell _ _ _ _ hq]) (by simp [World.setCell]) rfl rfl rfl (blk_put (blk_put (blk_put hq 0 _ rfl) 1 _ rfl) 2 _ rfl) rfl
    have hz : (((wr.setCell ⟨B3, 0, none⟩ (.int .i64 r.f0)).setCell ⟨B3, 1, none⟩ (.string r.f1)).setCell ⟨B3, 2, none⟩ (.int .i64 r.f2)).heap.size = wr.heap.size := by simp [World.setCell]
    have h2 := Own.heap_new (((wr.setCell ⟨B3, 0, none⟩ (.int .i64 r.f0)).setCell ⟨B3, 1, none⟩ (.string r.f1)).setCell ⟨B3, 2, none⟩ (.int .i64 r.f2)) (.cells #[.int .i64 r.f0, .string r.f1, .int .i64 r.f2] 49)
    rw [hz] at h2
    exact HP.out.lay h1 (below_alloc (Below.refl _ _) _) (by rw [hz]; exact Nat.le_refl _) h2 rfl
   obtain ⟨fn, tmps, assign, body, hyy, hR⟩ := HY.out (n - 1) pre ⟨r, si, so⟩ (stepsL (f.drop (i + 1)) (si + (r.f0 + r.f2)) (so + (r.f0 + (r.f1.size : Int)))) _ _ (by rw [← HE.out, HD.out]; rfl) hj5
   have HRR := Aside0.mk hR
   unfold encS at hyy
   simp only at hyy
   obtain ⟨B6, hB6⟩ : ∃ b, b = wr.heap.size := ⟨_, rfl⟩
   have n63 : B6 ≠ B3 := by omega
   have n36 : B3 ≠ B6 := by omega
   have HG5 := Aside0.mk (show ((G.put B3 (scs ⟨r, si, so⟩)).put wr.heap.size (rcs r.f0 r.f1 r.f2)) B3 = some (scs ⟨r, si, so⟩) by rw [Priv.put_other _ _ n2]; exact Priv.put_same _ _ _)
   have HG6 := Aside0.mk (show ((G.put B3 (scs ⟨r, si, so⟩)).put wr.heap.size (rcs r.f0 r.f1 r.f2)) B6 = some (rcs r.f0 r.f1 r.f2) by rw [hB6]; exact Priv.put_same _ _ _)
   obtain ⟨G5, hG5⟩ : ∃ g, g = (G.put B3 (scs ⟨r, si, so⟩)).put wr.heap.size (rcs r.f0 r.f1 r.f2) := ⟨_, rfl⟩
   rw [← hG5] at HG5 HG6 HRR
   have HB6 := Aside0.mk hB6
   clear hr hd' hmem hbi hbo hp hs4 hq fa hj5 hR hG5 hB6
   gi_wp2
   refine ⟨fun h => absurd h (by decide), ?_⟩
   refine HRR.out.mono ?_
   rintro e w3 (⟨rfl, hj3⟩ | ⟨rfl, hx3⟩)
   ·have HJ3 := Aside0.mk hj3
    clear hj3 hyy hB3 x0 x1 x2 y0 y1 y2 y3 y4 f0 f1 f2
    rw [← HB6.out]
    clear HB6
    have hq3 := HP.out.lies _ _ _ HJ3.out _ _ HG5.out
    obtain ⟨y0, y1, y2, y3, y4⟩ := blk_step hq3
    obtain ⟨x0, x1, x2⟩ := blk_cells (HP.out.lies _ _ _ HJ3.out _ _ HG6.out)
    have fa : ∀ o, w3.frozen? ⟨B3, o, none⟩ = false := fun o => frozen_of_row w3 _ o _ _ hq3
    have f3 := fa 3
    have f4 := fa 4
    clear fa hq3
    simp only at y0 y1 y2 y3 y4
    gi_wp2
    go_roundw
    case rel =>
     have hq3 := HP.out.lies _ _ _ HJ3.out _ _ HG5.out
     have hjn := HP.out.set (W' := (w3.setCell ⟨B3, 3, none⟩ (.int .i64 (si + (r.f0 + r.f2)))).setCell ⟨B3, 4, none⟩ (.int .i64 (so + (r.f0 + (r.f1.size : Int))))) (o' := scs ⟨r, si + (r.f0 + r.f2), so + (r.f0 + (r.f1.size : Int))⟩) HJ3.out HG5.out (fun q hq => by rw [Below.heap_setCell _ _ _ _ hq, Below.heap_setCell _ _ _ _ hq]) (by simp [World.setCell]) rfl rfl rfl (blk_put (blk_put hq3 3 _ rfl) 4 _ rfl) rfl
     refine ⟨i + 1, pre ++ [⟨r, si, so⟩], ⟨r, si + (r.f0 + r.f2), so + (r.f0 + (r.f1.size : Int))⟩, _, by omega, by go_num, hjn, ?_, Priv.put_same _ _ _, ?_, ?_, ?_, ?_⟩
     ·rw [← HE.out, HD.out]; simp [stepsL]
     ·show 0 ≤ si + (r.f0 + r.f2); omega
     ·show 0 ≤ so + (r.f0 + (r.f1.size : Int)); omega
     ·have := HBI.out; show si + (r.f0 + r.f2) + _ ≤ _; omega
     ·have := HBO.out; show so + (r.f0 + (r.f1.size : Int)) + _ ≤ _; omega
    case measure => simp [intOf]; omega
   ·have HX3 := Aside0.mk hx3
    clear hx3 hyy
    gi_wp2
    refine bodyPost_ret (results_none rfl _ _ _) rfl ?_
    exact ⟨⟨_, rfl⟩, .inr HX3.out⟩
  ·have hge : ¬ ((i : Int) < (f.length : Int)) := by omega
   have HE2 := Aside0.mk (show pre = L by have := HE.out; rw [show f.drop i = [] from by rw [show i = f.length by omega]; exact List.drop_length, show stepsL [] si so = [] from rfl, List.append_nil] at this; exact this)
   clear hlt
   gi_wp2
   refine bodyPost_end (results_none rfl _ _ _) rfl ?_
   exact ⟨⟨_, rfl⟩, .inl ⟨_, by rw [← HE2.out]; exact HJr.out⟩⟩
end Go.Proofs.Ytjbnffadfohofaa.PlaceI
end
-- MERGED YtjbnffadfohofaaRangeB
section
namespace Go.Proofs.Ytjbnffadfohofaa.RangeB
open Go Go.RowKit Go.Proofs.Ytjbnffadfohofaa.RangeG
structure ButS (F : Nat → Prop) (w W : World) : Prop where
 os : W.os = w.os
 tape : W.tape = w.tape
 output : W.output = w.output
 size : w.heap.size ≤ W.heap.size
 block : ∀ k, k < w.heap.size → ¬ F k → W.heap[k]? = w.heap[k]?
theorem ButS.refl (F : Nat → Prop) (w : World) : ButS F w w := ⟨rfl, rfl, rfl, Nat.le_refl _, fun _ _ _ => rfl⟩
theorem ButS.trans {F : Nat → Prop} {a b c : World} (h : ButS F a b) (k : ButS F b c) : ButS F a c :=
 ⟨k.os.trans h.os, k.tape.trans h.tape, k.output.trans h.output, Nat.le_trans h.size k.size, fun i hi hF => (k.block i (Nat.lt_of_lt_of_le hi h.size) hF).trans (h.block i hi hF)⟩
theorem ButS.of_below {F : Nat → Prop} {w W : World} (h : Below w.heap.size w W) : ButS F w W := ⟨h.os, h.tape, h.output, h.size, fun k hk _ => h.block k hk⟩
theorem ButS.setCell {F : Nat → Prop} (w : World) (b o : Nat) (u : Value) (hb : F b) : ButS F w (w.setCell ⟨b, o, none⟩ u) :=
 ⟨rfl, rfl, rfl, by simp [World.setCell], fun k _ hF => Below.heap_setCell _ _ _ _ (fun e => hF (by rw [show k = b from e]; exact hb))⟩
theorem ButS.below {F : Nat → Prop} {B : Nat} {w0 w W : World} (h : ButS F w W) (hb : Below B w0 w) (hF : ∀ k, F k → B ≤ k) (hB : B ≤ w.heap.size) : Below B w0 W :=
 hb.trans ⟨h.os, h.tape, h.output, h.size, fun k hk => h.block k (Nat.lt_of_lt_of_le hk hB) (fun hf => by have := hF k hf; omega)⟩
structure Jf {α : Type} (w0 : World) (F : Nat → Prop) (Q : List α → World → Prop) (pre : List α) (G : Priv) (W : World) : Prop where
 q : Q pre W
 but : ButS F w0 W
 priv : ∀ k ob, G k = some ob → W.heap[k]? = some ob ∧ ob.isCells = true ∧ w0.heap.size ≤ k
section
variable {α : Type} {w0 : World} {F : Nat → Prop} {Q : List α → World → Prop}
theorem jf_party (hF : ∀ k, F k → k < w0.heap.size) (hQ : ∀ pre W W', (∀ k, F k → W'.heap[k]? = W.heap[k]?) → Q pre W → Q pre W') : Party (Jf w0 F Q) := by
 refine ⟨fun pre G W h k o hk => (h.priv k o hk).1, fun pre G G' W W' h ht hG => ?_, fun pre G W h k o hk => (h.priv k o hk).2.1⟩
 have none_ : ∀ k, k < w0.heap.size → G k = none := fun k hk => by
  cases e : G k with
  | none => rfl
  | some q => have := (h.priv k q e).2.2; omega
 refine ⟨hQ _ _ _ (fun k hk => ht.block k (Nat.lt_of_lt_of_le (hF k hk) h.but.size) (none_ k (hF k hk))) h.q, ?_, fun k ob hk => ?_⟩
 ·exact ⟨ht.os.trans h.but.os, ht.tape.trans h.but.tape, ht.output.trans h.but.output, Nat.le_trans h.but.size ht.size, fun k hk hne => (ht.block k (Nat.lt_of_lt_of_le hk h.but.size) (none_ k hk)).trans (h.but.block k hk hne)⟩
 ·obtain ⟨h1, h2, h3⟩ := hG k ob hk
  refine ⟨h1, h2, ?_⟩
  rcases h3 with h3 | h3
  ·cases e : G k with
   | none => exact absurd e h3
   | some q => exact (h.priv k q e).2.2
  ·exact Nat.le_trans h.but.size h3
theorem jf_own {B : Nat} (hB : w0.heap.size ≤ B) (hF : ∀ k, F k → k < w0.heap.size) (hQ : ∀ pre W W', (∀ k, F k → W'.heap[k]? = W.heap[k]?) → Q pre W → Q pre W') : OwnFrom B (fun (s : List α × Priv) W => Jf w0 F Q s.1 s.2 W) := by
 intro s W W' row h hg hr
 refine ⟨hQ _ _ _ (fun k hk => hg.block k (Nat.lt_of_lt_of_le (hF k hk) h.but.size) (fun e => by have := (hr k e.symm).1; have := hF k hk; omega)) h.q, ?_, fun k ob hk => ?_⟩
 ·exact ⟨hg.os.trans h.but.os, hg.tape.trans h.but.tape, hg.output.trans h.but.output, Nat.le_trans h.but.size hg.size, fun k hk hn => (hg.block k (Nat.lt_of_lt_of_le hk h.but.size) (fun e => by have := (hr k e.symm).1; omega)).trans (h.but.block k hk hn)⟩
 ·obtain ⟨h1, h2, h3⟩ := h.priv k ob hk
  refine ⟨(hg.block k (Array.getElem?_eq_some_iff.1 h1).1 (fun e => ?_)).trans h1, h2, h3⟩
  obtain ⟨_, q', h4, h5⟩ := hr k e.symm
  rw [h1] at h4
  cases h4
  rw [h2] at h5; cases h5
theorem jf_step {pre pre' : List α} {G : Priv} {W W' : World} (hF : ∀ k, F k → k < w0.heap.size) (h : Jf w0 F Q pre G W) (hb : ButS F W W') (hq : Q pre' W') : Jf w0 F Q pre' G W' := by
 refine ⟨hq, h.but.trans hb, fun k ob hk => ?_⟩
 obtain ⟨h1, h2, h3⟩ := h.priv k ob hk
 exact ⟨(hb.block k (Array.getElem?_eq_some_iff.1 h1).1 (fun hf => by have := hF k hf; omega)).trans h1, h2, h3⟩
theorem jf_start {G : Priv} (hG : G = Priv.none) (hq : Q [] w0) : Jf w0 F Q [] G w0 := ⟨hq, ButS.refl _ _, fun k o hk => by rw [hG] at hk; cases hk⟩
end
end Go.Proofs.Ytjbnffadfohofaa.RangeB
end

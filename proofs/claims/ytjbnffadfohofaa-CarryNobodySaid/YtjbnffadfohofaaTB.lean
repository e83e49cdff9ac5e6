import Derived.RangeFuncNested
import Derived.RangeFuncBound
import Derived.RangeFuncCalls
import Derived.RangeFuncLeaves
import Derived.Shelf.Abstract
import Derived.Shelf.RegionOpen
import Derived.WalkKit
import Derived.OwnWalkIn
import Derived.TacticsInMore
import Derived.LoopNIn
import Derived.LoopIn
import Derived.Outline
import Derived.Test.YtjbnffadfohofaaTA
import Derived.Below
import Derived.Maps.AppendAt
-- MERGED YtjbnffadfohofaaEditL
section
/- The plain law of edits: what runs are, what they sum to, what is in order, the edit of any runs; no program in sight. -/
namespace Go.Proofs.Ytjbnffadfohofaa.EditL
open Go.RowKit Go.Proofs.Ytjbnffadfohofaa.P

abbrev Rn := S49
def E : ByteArray := ⟨#[]⟩
theorem E_size : E.size = 0 := rfl
theorem eq_E {s : ByteArray} (h : s.size = 0) : s = E := by
  obtain ⟨⟨l⟩⟩ := s
  have : l.length = 0 := h
  obtain rfl : l = [] := List.eq_nil_of_length_eq_zero this
  rfl
/-- Of a run: 1 keeps, 2 adds, 3 drops, 0 is not right. -/
def knd (r : Rn) : Int :=
  if 0 < r.f0 ∧ r.f1.size = 0 ∧ r.f2 = 0 then 1 else if r.f0 = 0 ∧ r.f1.size ≠ 0 ∧ r.f2 = 0 then 2 else if r.f0 = 0 ∧ r.f1.size = 0 ∧ 0 < r.f2 then 3 else 0
theorem knd_cases (r : Rn) : (0 < r.f0 ∧ r.f1.size = 0 ∧ r.f2 = 0 ∧ knd r = 1) ∨ (r.f0 = 0 ∧ 0 < r.f1.size ∧ r.f2 = 0 ∧ knd r = 2) ∨ (r.f0 = 0 ∧ r.f1.size = 0 ∧ 0 < r.f2 ∧ knd r = 3) ∨ (knd r = 0 ∧ ¬ (0 < r.f0 ∧ r.f1.size = 0 ∧ r.f2 = 0) ∧ ¬ (r.f0 = 0 ∧ r.f1.size ≠ 0 ∧ r.f2 = 0) ∧ ¬ (r.f0 = 0 ∧ r.f1.size = 0 ∧ 0 < r.f2)) := by
  unfold knd
  by_cases h1 : 0 < r.f0 ∧ r.f1.size = 0 ∧ r.f2 = 0
  · rw [if_pos h1]; exact .inl ⟨h1.1, h1.2.1, h1.2.2, rfl⟩
  · rw [if_neg h1]
    by_cases h2 : r.f0 = 0 ∧ r.f1.size ≠ 0 ∧ r.f2 = 0
    · rw [if_pos h2]; exact .inr (.inl ⟨h2.1, by omega, h2.2.2, rfl⟩)
    · rw [if_neg h2]
      by_cases h3 : r.f0 = 0 ∧ r.f1.size = 0 ∧ 0 < r.f2
      · rw [if_pos h3]; exact .inr (.inr (.inl ⟨h3.1, h3.2.1, h3.2.2, rfl⟩))
      · rw [if_neg h3]; exact .inr (.inr (.inr ⟨rfl, h1, h2, h3⟩))
theorem knd_pos {r : Rn} (h : knd r ≠ 0) : 0 ≤ r.f0 ∧ 0 ≤ r.f2 := by
  rcases knd_cases r with h1 | h1 | h1 | h1
  · omega
  · omega
  · omega
  · exact absurd h1.1 h
theorem knd_keep {k : Int} (h : 0 < k) : knd ⟨k, E, 0⟩ = 1 := by unfold knd; rw [if_pos ⟨h, rfl, rfl⟩]
theorem knd_add {a : ByteArray} (h : a.size ≠ 0) : knd ⟨0, a, 0⟩ = 2 := by
  unfold knd
  rw [if_neg (fun e => absurd e.1 (by show ¬ (0 : Int) < 0; omega)), if_pos ⟨rfl, h, rfl⟩]
theorem knd_drop {d : Int} (h : 0 < d) : knd ⟨0, E, d⟩ = 3 := by
  unfold knd
  rw [if_neg (fun e => absurd e.1 (by show ¬ (0 : Int) < 0; omega)), if_neg (fun e => e.2.1 rfl), if_pos ⟨rfl, rfl, h⟩]
/-- Of how many bytes, and to how many. -/
def inL : List Rn → Int
  | [] => 0
  | r :: l => (r.f0 + r.f2) + inL l
def outL : List Rn → Int
  | [] => 0
  | r :: l => (r.f0 + (r.f1.size : Int)) + outL l
def fits : List Rn → Int → Int → Bool
  | [], _, _ => true
  | r :: l, i, o => (decide (r.f0 ≤ 16777216 - i) && decide (r.f2 ≤ 16777216 - i) && decide (r.f0 ≤ 16777216 - o) && decide ((r.f1.size : Int) ≤ 16777216 - o)) && fits l (i + (r.f0 + r.f2)) (o + (r.f0 + (r.f1.size : Int)))
/-- In order, behind one of a kind? -/
def ord : List Rn → Int → Bool
  | [], _ => true
  | r :: l, last => (decide (knd r ≠ 0) && decide (knd r ≠ last) && decide (¬ (last = 3 ∧ knd r = 2))) && ord l (knd r)
def good (l : List Rn) : Bool := (ord l 0 && decide (l.length ≤ 65536)) && fits l 0 0
/-- What one that keeps, one that adds and one that drops come to. -/
def fl (k : Int) (a : ByteArray) (d : Int) : List Rn := (if 0 < k then [⟨k, E, 0⟩] else []) ++ ((if a.size ≠ 0 then [⟨0, a, 0⟩] else []) ++ (if 0 < d then [⟨0, E, d⟩] else []))
def jn : List Rn → Int → ByteArray → Int → List Rn
  | [], k, a, d => fl k a d
  | r :: l, k, a, d => if knd r = 1 ∧ (a.size ≠ 0 ∨ 0 < d) then fl k a d ++ jn l r.f0 r.f1 r.f2 else jn l (k + r.f0) (a ++ r.f1) (d + r.f2)
def fine (l : List Rn) : List Rn := l.filter fun r => decide (knd r ≠ 0)
def out (l : List Rn) : List Rn := jn (fine l) 0 E 0
def norm (l : List Rn) : List Rn := if fits (fine l) 0 0 then (if good (out l) then out l else []) else []
theorem fine_ok (l : List Rn) : ∀ r ∈ fine l, knd r ≠ 0 := fun r h => by simpa using (List.mem_filter.1 h).2
theorem fine_len (l : List Rn) : (fine l).length ≤ l.length := List.length_filter_le _ _
theorem fine_cons (r : Rn) (l : List Rn) : fine (r :: l) = if knd r ≠ 0 then r :: fine l else fine l := by
  unfold fine
  rw [List.filter_cons]
  by_cases h : knd r ≠ 0
  · rw [if_pos h, if_pos (by simpa using h)]
  · rw [if_neg h, if_neg (by simpa using h)]
theorem fine_append (a b : List Rn) : fine (a ++ b) = fine a ++ fine b := List.filter_append ..
theorem fine_self {l : List Rn} (h : ∀ r ∈ l, knd r ≠ 0) : fine l = l := List.filter_eq_self.2 fun r hr => by simpa using h r hr
theorem inL_append (a b : List Rn) : inL (a ++ b) = inL a + inL b := by
  induction a with
  | nil => simp [inL]
  | cons r a ih => rw [List.cons_append]; simp only [inL]; rw [ih]; omega
theorem outL_append (a b : List Rn) : outL (a ++ b) = outL a + outL b := by
  induction a with
  | nil => simp [outL]
  | cons r a ih => rw [List.cons_append]; simp only [outL]; rw [ih]; omega
theorem inL_nonneg {l : List Rn} (h : ∀ r ∈ l, knd r ≠ 0) : 0 ≤ inL l ∧ 0 ≤ outL l := by
  induction l with
  | nil => exact ⟨Int.le_refl _, Int.le_refl _⟩
  | cons r l ih =>
    have h1 := knd_pos (h r List.mem_cons_self)
    have h2 := ih fun x hx => h x (List.mem_cons_of_mem _ hx)
    simp only [inL, outL]
    omega
/-- Of right runs: they fit if their sums do. -/
theorem fits_iff {l : List Rn} (h : ∀ r ∈ l, knd r ≠ 0) : ∀ i o : Int, i ≤ 16777216 → o ≤ 16777216 → (fits l i o = true ↔ i + inL l ≤ 16777216 ∧ o + outL l ≤ 16777216) := by
  induction l with
  | nil => intro i o hi ho; simp [fits, inL, outL]; omega
  | cons r l ih =>
    intro i o hi ho
    have h1 := knd_cases r
    have h0 := h r List.mem_cons_self
    have h2 : ∀ x ∈ l, knd x ≠ 0 := fun x hx => h x (List.mem_cons_of_mem _ hx)
    have h3 := inL_nonneg h2
    simp only [fits, inL, outL, Bool.and_eq_true, decide_eq_true_eq]
    constructor
    · rintro ⟨⟨⟨⟨a1, a2⟩, a3⟩, a4⟩, h5⟩
      have := (ih h2 _ _ (by omega) (by omega)).1 h5
      omega
    · rintro ⟨a1, a2⟩
      refine ⟨⟨⟨⟨by omega, by omega⟩, by omega⟩, by omega⟩, (ih h2 _ _ (by omega) (by omega)).2 ⟨by omega, by omega⟩⟩
theorem ord_ok {l : List Rn} : ∀ {k : Int}, ord l k = true → ∀ r ∈ l, knd r ≠ 0 := by
  induction l with
  | nil => intro k _ r hr; cases hr
  | cons x l ih =>
    intro k h r hr
    simp only [ord, Bool.and_eq_true, decide_eq_true_eq] at h
    rcases List.mem_cons.1 hr with rfl | hr
    · exact h.1.1.1
    · exact ih h.2 r hr
theorem good_ok {l : List Rn} (h : good l = true) : ord l 0 = true ∧ l.length ≤ 65536 ∧ fits l 0 0 = true ∧ ∀ r ∈ l, knd r ≠ 0 := by
  unfold good at h
  simp only [Bool.and_eq_true, decide_eq_true_eq] at h
  exact ⟨h.1.1, h.1.2, h.2, ord_ok h.1.1⟩
theorem good_nil : good [] = true := rfl
end Go.Proofs.Ytjbnffadfohofaa.EditL
end
-- MERGED YtjbnffadfohofaaPvariorumref06Kind
section
-- Written by wip/myprint.py of this session, over the kit's print.py: a Lean function for each Go function, and the proof that the code comes to it.
namespace Go.Proofs.Ytjbnffadfohofaa.P
open Go.RowKit Go.Proofs.YtjbnffadfohofaaW.PrintWords Go.Proofs.YtjbnffadfohofaaW.PrintLast Go.Proofs.YtjbnffadfohofaaW.PrintMore
attribute [local go_sem] max2_int min2_int max_two min_two max_three min_three max_four min_four   -- for this text's walks alone
set_option linter.unusedVariables false
set_option linter.unusedSimpArgs false

/-! ### variorumref06_Kind: function 27 -/
mutual
def variorumref06_Kind.j0 : Nat → Bool → Int → ByteArray → Int → Option (Int)
  | 0, _, _, _, _ => none
  | k + 1, x15, x102000, x102001, x102002 => if x15 = true then (some 1) else (if x102000 = 0 then (if x102001.toList = ([] : List UInt8) then (variorumref06_Kind.j1 k false x102000 x102001 x102002) else (variorumref06_Kind.j1 k (x102002 == 0) x102000 x102001 x102002)) else (variorumref06_Kind.j1 k false x102000 x102001 x102002))
def variorumref06_Kind.j1 : Nat → Bool → Int → ByteArray → Int → Option (Int)
  | 0, _, _, _, _ => none
  | k + 1, x28, x102000, x102001, x102002 => if x28 = true then (some 2) else (if x102000 = 0 then (if x102001.toList = ([] : List UInt8) then (if x102002 > 0 then (some 3) else (some 0)) else (some 0)) else (some 0))
end
def variorumref06_Kind.f (k : Nat) (a0_0 : Int) (a0_1 : ByteArray) (a0_2 : Int) : Option (Int) := if a0_0 > 0 then (if a0_1.toList = ([] : List UInt8) then (variorumref06_Kind.j0 k (a0_2 == 0) a0_0 a0_1 a0_2) else (variorumref06_Kind.j0 k false a0_0 a0_1 a0_2)) else (variorumref06_Kind.j0 k false a0_0 a0_1 a0_2)
theorem variorumref06_Kind.mono_l : ∀ k, (∀ y0 y1 y2 y3, LeO (variorumref06_Kind.j0 k y0 y1 y2 y3) (variorumref06_Kind.j0 (k + 1) y0 y1 y2 y3)) ∧ (∀ y0 y1 y2 y3, LeO (variorumref06_Kind.j1 k y0 y1 y2 y3) (variorumref06_Kind.j1 (k + 1) y0 y1 y2 y3))
  | 0 => ⟨fun _ _ _ _ r h => by simp [variorumref06_Kind.j0] at h, fun _ _ _ _ r h => by simp [variorumref06_Kind.j1] at h⟩
  | k + 1 => by
    obtain ⟨ih0, ih1⟩ := variorumref06_Kind.mono_l k
    refine ⟨?_, ?_⟩
    · intro y0 y1 y2 y3
      unfold variorumref06_Kind.j0
      repeat' first | (with_reducible exact ih1 _ _ _ _) | (with_reducible exact LeO.refl _) | (with_reducible refine LeO.ite ?_ ?_)
    · intro y0 y1 y2 y3
      unfold variorumref06_Kind.j1
      repeat' (with_reducible exact LeO.refl _)
theorem variorumref06_Kind.mono : ∀ a0 a1 a2 k, LeO (variorumref06_Kind.f k a0 a1 a2) (variorumref06_Kind.f (k + 1) a0 a1 a2) := by
  intro a0 a1 a2 k
  obtain ⟨ih0, ih1⟩ := variorumref06_Kind.mono_l k
  unfold variorumref06_Kind.f
  repeat' first | (with_reducible exact ih0 _ _ _ _) | (with_reducible refine LeO.ite ?_ ?_)
set_option maxHeartbeats 8000000 in
set_option maxRecDepth 100000 in
theorem variorumref06_Kind.calls (k : Nat) (a0_0 : Int) (a0_1 : ByteArray) (a0_2 : Int) (r : Int) (w : World) (h : variorumref06_Kind.f k a0_0 a0_1 a0_2 = some r) :
    Calls Try.prog 27 #[.agg #[.int .i64 a0_0, .string a0_1, .int .i64 a0_2]] w fun e w' => e = .returned (.int .i64 r) ∧ Below w.heap.size w w' := by
  have hu49 := Try.underlying49
  have HB := Aside0.mk (Below.refl w.heap.size w)
  have H : (if a0_0 > 0 then (if a0_1.toList = ([] : List UInt8) then (variorumref06_Kind.j0 k (a0_2 == 0) a0_0 a0_1 a0_2) else (variorumref06_Kind.j0 k false a0_0 a0_1 a0_2)) else (variorumref06_Kind.j0 k false a0_0 a0_1 a0_2)) = some r := h
  clear h
  have HC2 := Aside0.mk H
  clear H
  go_enter Try.func27, Try.ntmps27
  go_upto_region 1 with (first | ((with_reducible refine gate_dst (N := 1) rfl ?_); refine box_event ?hg (N := 1) ?hd (cs := #[.int .i64 a0_0, .string a0_1, .int .i64 a0_2]) (t := 49) ?hr ?_; (case hd => rfl); (case hg => rfl); (case hr => (go_simp; done)); intro gb101 hg w3 hbox hb; have n0_ := Aside0.mk (below_step (by repeat ((with_reducible (exact HB.out)))) hb); have n1_ := Aside0.mk (hbox); have n2_ := Aside0.mk ((by rw [hg]; exact (below_size (by repeat ((with_reducible (exact HB.out))))) : w.heap.size ≤ gb101)); have n3_ := Aside0.mk ((by rw [hg]; exact (below_size (by repeat ((with_reducible (exact HB.out))))) : w.heap.size ≤ gb101)); clear HB; have HB := n0_; have BK101 := n1_; have GW101 := n2_; have GE101 := n3_; clear n0_ n1_ n2_ n3_; clear hb hbox hg))
  (try simp only [Act.put, List.setIfInBounds_toArray, List.set_cons_zero, List.set_cons_succ])
  go_cut [15] (fun v15 wc => ∃ (kq : Nat) (x15_1 : Bool), v15 = .bool x15_1 ∧ Aside0 (variorumref06_Kind.j0 kq x15_1 a0_0 a0_1 a0_2 = some r) ∧ Aside0 (kq ≤ k) ∧ Aside0 (wc.heap[gb101]? = some (.cells #[.int .i64 a0_0, .string a0_1, .int .i64 a0_2] 49 (0, 0))) ∧ Aside0 (Below w.heap.size w wc))
  case first =>
    have H := HC2.out
    clear HC2
    by_cases c4 : a0_0 > 0
    · rw [if_pos c4] at H
      have c4b0 : decide (0 < a0_0) = true := decide_eq_true c4
      clear c4
      ((skip))
      by_cases c5 : a0_1.toList = ([] : List UInt8)
      · rw [if_pos c5] at H
        have c5b0 : (a0_1.toList == ([] : List UInt8)) = true := beq_iff_eq.mpr c5
        have c5b1 : (a0_1.toList != ([] : List UInt8)) = false := bne_eq_false_iff_eq.mpr c5
        clear c5
        have H' := Aside0.mk H
        clear H
        have hcz6_0 : w3.cell? ⟨gb101, 0, none⟩ = some (.int .i64 a0_0) := (blk_cell BK101.out 0).trans rfl
        have hcz6_1 : w3.cell? ⟨gb101, 1, none⟩ = some (.string a0_1) := (blk_cell BK101.out 1).trans rfl
        have hcz6_2 : w3.cell? ⟨gb101, 2, none⟩ = some (.int .i64 a0_2) := (blk_cell BK101.out 2).trans rfl
        have hfz6_0 := blk_frozen BK101.out 0
        have hfz6_1 := blk_frozen BK101.out 1
        have hfz6_2 := blk_frozen BK101.out 2
        go_wp2
        go_meet
        case rel => exact ⟨_, ((a0_2 == 0)), (by (rfl)), H', ⟨by (omega)⟩, ⟨by (with_reducible repeat ((refine blk_drew ?_))); exact BK101.out⟩, ⟨by repeat ((with_reducible (exact HB.out)))⟩⟩
      · rw [if_neg c5] at H
        have c5b0 : (a0_1.toList == ([] : List UInt8)) = false := beq_eq_false_iff_ne.mpr c5
        have c5b1 : (a0_1.toList != ([] : List UInt8)) = true := bne_iff_ne.mpr c5
        have H' := Aside0.mk H
        clear H
        have hcz7_0 : w3.cell? ⟨gb101, 0, none⟩ = some (.int .i64 a0_0) := (blk_cell BK101.out 0).trans rfl
        have hcz7_1 : w3.cell? ⟨gb101, 1, none⟩ = some (.string a0_1) := (blk_cell BK101.out 1).trans rfl
        have hcz7_2 : w3.cell? ⟨gb101, 2, none⟩ = some (.int .i64 a0_2) := (blk_cell BK101.out 2).trans rfl
        have hfz7_0 := blk_frozen BK101.out 0
        have hfz7_1 := blk_frozen BK101.out 1
        have hfz7_2 := blk_frozen BK101.out 2
        go_wp2
        go_meet
        case rel => exact ⟨_, (false), (by (rfl)), H', ⟨by (omega)⟩, ⟨by (with_reducible repeat ((refine blk_drew ?_))); exact BK101.out⟩, ⟨by repeat ((with_reducible (exact HB.out)))⟩⟩
    · rw [if_neg c4] at H
      have c4b0 : decide (0 < a0_0) = false := decide_eq_false c4
      clear c4
      ((skip))
      have H' := Aside0.mk H
      clear H
      have hcz8_0 : w3.cell? ⟨gb101, 0, none⟩ = some (.int .i64 a0_0) := (blk_cell BK101.out 0).trans rfl
      have hcz8_1 : w3.cell? ⟨gb101, 1, none⟩ = some (.string a0_1) := (blk_cell BK101.out 1).trans rfl
      have hcz8_2 : w3.cell? ⟨gb101, 2, none⟩ = some (.int .i64 a0_2) := (blk_cell BK101.out 2).trans rfl
      have hfz8_0 := blk_frozen BK101.out 0
      have hfz8_1 := blk_frozen BK101.out 1
      have hfz8_2 := blk_frozen BK101.out 2
      go_wp2
      go_meet
      case rel => exact ⟨_, (false), (by (rfl)), H', ⟨by (omega)⟩, ⟨by (with_reducible repeat ((refine blk_drew ?_))); exact BK101.out⟩, ⟨by repeat ((with_reducible (exact HB.out)))⟩⟩
  case rest =>
    clear HC2
    try clear c2
    try clear p2
    try clear c4
    try clear c4b0
    try clear c5
    try clear c5b0
    try clear c5b1
    try clear hcz6_0
    try clear hcz6_1
    try clear hcz6_2
    try clear hcz7_0
    try clear hcz7_1
    try clear hcz7_2
    try clear hcz8_0
    try clear hcz8_1
    try clear hcz8_2
    try clear hfz6_0
    try clear hfz6_1
    try clear hfz6_2
    try clear hfz7_0
    try clear hfz7_1
    try clear hfz7_2
    try clear hfz8_0
    try clear hfz8_1
    try clear hfz8_2
    obtain ⟨kq, x15_1, rfl, HA, HJ1, BK101, HB⟩ := hcut
    cases kq with
    | zero => exact absurd HA.out (by simp [variorumref06_Kind.j0])
    | succ kj1 =>
      have H := HA.out
      clear HA
      simp only [variorumref06_Kind.j0] at H
      by_cases c9 : x15_1 = true
      · subst c9
        have H1 : (some 1) = some r := by rw [if_pos rfl] at H; exact H
        clear H
        have H := H1
        clear H1
        obtain rfl := Option.some.inj H
        go_wp2
        go_ret
        exact ⟨by (rfl), by repeat ((with_reducible (exact HB.out)))⟩
      · replace c9 := Bool.eq_false_iff.mpr c9
        subst c9
        have H1 : (if a0_0 = 0 then (if a0_1.toList = ([] : List UInt8) then (variorumref06_Kind.j1 kj1 false a0_0 a0_1 a0_2) else (variorumref06_Kind.j1 kj1 (a0_2 == 0) a0_0 a0_1 a0_2)) else (variorumref06_Kind.j1 kj1 false a0_0 a0_1 a0_2)) = some r := by rw [if_neg (show ¬ (false = true) by decide)] at H; exact H
        clear H
        have H := H1
        clear H1
        have HC10 := Aside0.mk H
        clear H
        go_upto_region 3 with (fail)
        go_cut [28] (fun v28 wc => ∃ (kq : Nat) (x28_9 : Bool), v28 = .bool x28_9 ∧ Aside0 (variorumref06_Kind.j1 kq x28_9 a0_0 a0_1 a0_2 = some r) ∧ Aside0 (kq ≤ kj1) ∧ Aside0 (wc.heap[gb101]? = some (.cells #[.int .i64 a0_0, .string a0_1, .int .i64 a0_2] 49 (0, 0))) ∧ Aside0 (Below w.heap.size w wc))
        case first =>
          have H := HC10.out
          clear HC10
          by_cases c11 : a0_0 = 0
          · rw [if_pos c11] at H
            have c11b0 : (a0_0 == 0) = true := beq_iff_eq.mpr c11
            have c11b1 : (a0_0 != 0) = false := bne_eq_false_iff_eq.mpr c11
            clear c11
            ((skip))
            by_cases c12 : a0_1.toList = ([] : List UInt8)
            · rw [if_pos c12] at H
              have c12b0 : (a0_1.toList == ([] : List UInt8)) = true := beq_iff_eq.mpr c12
              have c12b1 : (a0_1.toList != ([] : List UInt8)) = false := bne_eq_false_iff_eq.mpr c12
              clear c12
              have H' := Aside0.mk H
              clear H
              have hcz13_0 : wc.cell? ⟨gb101, 0, none⟩ = some (.int .i64 a0_0) := (blk_cell BK101.out 0).trans rfl
              have hcz13_1 : wc.cell? ⟨gb101, 1, none⟩ = some (.string a0_1) := (blk_cell BK101.out 1).trans rfl
              have hcz13_2 : wc.cell? ⟨gb101, 2, none⟩ = some (.int .i64 a0_2) := (blk_cell BK101.out 2).trans rfl
              have hfz13_0 := blk_frozen BK101.out 0
              have hfz13_1 := blk_frozen BK101.out 1
              have hfz13_2 := blk_frozen BK101.out 2
              go_wp2
              go_meet
              case rel => exact ⟨_, (false), (by (rfl)), H', ⟨by have := HJ1.out; (omega)⟩, ⟨by (with_reducible repeat ((refine blk_drew ?_))); exact BK101.out⟩, ⟨by repeat ((with_reducible (exact HB.out)))⟩⟩
            · rw [if_neg c12] at H
              have c12b0 : (a0_1.toList == ([] : List UInt8)) = false := beq_eq_false_iff_ne.mpr c12
              have c12b1 : (a0_1.toList != ([] : List UInt8)) = true := bne_iff_ne.mpr c12
              have H' := Aside0.mk H
              clear H
              have hcz14_0 : wc.cell? ⟨gb101, 0, none⟩ = some (.int .i64 a0_0) := (blk_cell BK101.out 0).trans rfl
              have hcz14_1 : wc.cell? ⟨gb101, 1, none⟩ = some (.string a0_1) := (blk_cell BK101.out 1).trans rfl
              have hcz14_2 : wc.cell? ⟨gb101, 2, none⟩ = some (.int .i64 a0_2) := (blk_cell BK101.out 2).trans rfl
              have hfz14_0 := blk_frozen BK101.out 0
              have hfz14_1 := blk_frozen BK101.out 1
              have hfz14_2 := blk_frozen BK101.out 2
              go_wp2
              go_meet
              case rel => exact ⟨_, ((a0_2 == 0)), (by (rfl)), H', ⟨by have := HJ1.out; (omega)⟩, ⟨by (with_reducible repeat ((refine blk_drew ?_))); exact BK101.out⟩, ⟨by repeat ((with_reducible (exact HB.out)))⟩⟩
          · rw [if_neg c11] at H
            have c11b0 : (a0_0 == 0) = false := beq_eq_false_iff_ne.mpr c11
            have c11b1 : (a0_0 != 0) = true := bne_iff_ne.mpr c11
            ((skip))
            have H' := Aside0.mk H
            clear H
            have hcz15_0 : wc.cell? ⟨gb101, 0, none⟩ = some (.int .i64 a0_0) := (blk_cell BK101.out 0).trans rfl
            have hcz15_1 : wc.cell? ⟨gb101, 1, none⟩ = some (.string a0_1) := (blk_cell BK101.out 1).trans rfl
            have hcz15_2 : wc.cell? ⟨gb101, 2, none⟩ = some (.int .i64 a0_2) := (blk_cell BK101.out 2).trans rfl
            have hfz15_0 := blk_frozen BK101.out 0
            have hfz15_1 := blk_frozen BK101.out 1
            have hfz15_2 := blk_frozen BK101.out 2
            go_wp2
            go_meet
            case rel => exact ⟨_, (false), (by (rfl)), H', ⟨by have := HJ1.out; (omega)⟩, ⟨by (with_reducible repeat ((refine blk_drew ?_))); exact BK101.out⟩, ⟨by repeat ((with_reducible (exact HB.out)))⟩⟩
        case rest =>
          clear HC10
          try clear c1
          try clear c2
          try clear p2
          try clear c4
          try clear c4b0
          try clear c5
          try clear c5b0
          try clear c5b1
          try clear c9
          try clear c11
          try clear c11b0
          try clear c11b1
          try clear c12
          try clear c12b0
          try clear c12b1
          try clear hcz13_0
          try clear hcz13_1
          try clear hcz13_2
          try clear hcz14_0
          try clear hcz14_1
          try clear hcz14_2
          try clear hcz15_0
          try clear hcz15_1
          try clear hcz15_2
          try clear hcz6_0
          try clear hcz6_1
          try clear hcz6_2
          try clear hcz7_0
          try clear hcz7_1
          try clear hcz7_2
          try clear hcz8_0
          try clear hcz8_1
          try clear hcz8_2
          try clear hfz13_0
          try clear hfz13_1
          try clear hfz13_2
          try clear hfz14_0
          try clear hfz14_1
          try clear hfz14_2
          try clear hfz15_0
          try clear hfz15_1
          try clear hfz15_2
          try clear hfz6_0
          try clear hfz6_1
          try clear hfz6_2
          try clear hfz7_0
          try clear hfz7_1
          try clear hfz7_2
          try clear hfz8_0
          try clear hfz8_1
          try clear hfz8_2
          try clear p2
          obtain ⟨kq, x28_9, rfl, HA, HJ9, BK101, HB⟩ := hcut
          cases kq with
          | zero => exact absurd HA.out (by simp [variorumref06_Kind.j1])
          | succ kj9 =>
            have H := HA.out
            clear HA
            simp only [variorumref06_Kind.j1] at H
            by_cases c16 : x28_9 = true
            · subst c16
              have H1 : (some 2) = some r := by rw [if_pos rfl] at H; exact H
              clear H
              have H := H1
              clear H1
              obtain rfl := Option.some.inj H
              go_wp2
              go_ret
              exact ⟨by (rfl), by repeat ((with_reducible (exact HB.out)))⟩
            · replace c16 := Bool.eq_false_iff.mpr c16
              subst c16
              have H1 : (if a0_0 = 0 then (if a0_1.toList = ([] : List UInt8) then (if a0_2 > 0 then (some 3) else (some 0)) else (some 0)) else (some 0)) = some r := by rw [if_neg (show ¬ (false = true) by decide)] at H; exact H
              clear H
              have H := H1
              clear H1
              by_cases c17 : a0_0 = 0
              · rw [if_pos c17] at H
                have c17b0 : (a0_0 == 0) = true := beq_iff_eq.mpr c17
                have c17b1 : (a0_0 != 0) = false := bne_eq_false_iff_eq.mpr c17
                clear c17
                by_cases c18 : a0_1.toList = ([] : List UInt8)
                · rw [if_pos c18] at H
                  have c18b0 : (a0_1.toList == ([] : List UInt8)) = true := beq_iff_eq.mpr c18
                  have c18b1 : (a0_1.toList != ([] : List UInt8)) = false := bne_eq_false_iff_eq.mpr c18
                  clear c18
                  by_cases c19 : a0_2 > 0
                  · rw [if_pos c19] at H
                    have c19b0 : decide (0 < a0_2) = true := decide_eq_true c19
                    clear c19
                    obtain rfl := Option.some.inj H
                    have hcz20_0 : wc.cell? ⟨gb101, 0, none⟩ = some (.int .i64 a0_0) := (blk_cell BK101.out 0).trans rfl
                    have hcz20_1 : wc.cell? ⟨gb101, 1, none⟩ = some (.string a0_1) := (blk_cell BK101.out 1).trans rfl
                    have hcz20_2 : wc.cell? ⟨gb101, 2, none⟩ = some (.int .i64 a0_2) := (blk_cell BK101.out 2).trans rfl
                    have hfz20_0 := blk_frozen BK101.out 0
                    have hfz20_1 := blk_frozen BK101.out 1
                    have hfz20_2 := blk_frozen BK101.out 2
                    go_wp2
                    go_ret
                    exact ⟨by (rfl), by repeat ((with_reducible (exact HB.out)))⟩
                  · rw [if_neg c19] at H
                    have c19b0 : decide (0 < a0_2) = false := decide_eq_false c19
                    clear c19
                    obtain rfl := Option.some.inj H
                    have hcz21_0 : wc.cell? ⟨gb101, 0, none⟩ = some (.int .i64 a0_0) := (blk_cell BK101.out 0).trans rfl
                    have hcz21_1 : wc.cell? ⟨gb101, 1, none⟩ = some (.string a0_1) := (blk_cell BK101.out 1).trans rfl
                    have hcz21_2 : wc.cell? ⟨gb101, 2, none⟩ = some (.int .i64 a0_2) := (blk_cell BK101.out 2).trans rfl
                    have hfz21_0 := blk_frozen BK101.out 0
                    have hfz21_1 := blk_frozen BK101.out 1
                    have hfz21_2 := blk_frozen BK101.out 2
                    go_wp2
                    go_ret
                    exact ⟨by (rfl), by repeat ((with_reducible (exact HB.out)))⟩
                · rw [if_neg c18] at H
                  have c18b0 : (a0_1.toList == ([] : List UInt8)) = false := beq_eq_false_iff_ne.mpr c18
                  have c18b1 : (a0_1.toList != ([] : List UInt8)) = true := bne_iff_ne.mpr c18
                  obtain rfl := Option.some.inj H
                  have hcz22_0 : wc.cell? ⟨gb101, 0, none⟩ = some (.int .i64 a0_0) := (blk_cell BK101.out 0).trans rfl
                  have hcz22_1 : wc.cell? ⟨gb101, 1, none⟩ = some (.string a0_1) := (blk_cell BK101.out 1).trans rfl
                  have hcz22_2 : wc.cell? ⟨gb101, 2, none⟩ = some (.int .i64 a0_2) := (blk_cell BK101.out 2).trans rfl
                  have hfz22_0 := blk_frozen BK101.out 0
                  have hfz22_1 := blk_frozen BK101.out 1
                  have hfz22_2 := blk_frozen BK101.out 2
                  go_wp2
                  go_ret
                  exact ⟨by (rfl), by repeat ((with_reducible (exact HB.out)))⟩
              · rw [if_neg c17] at H
                have c17b0 : (a0_0 == 0) = false := beq_eq_false_iff_ne.mpr c17
                have c17b1 : (a0_0 != 0) = true := bne_iff_ne.mpr c17
                obtain rfl := Option.some.inj H
                have hcz23_0 : wc.cell? ⟨gb101, 0, none⟩ = some (.int .i64 a0_0) := (blk_cell BK101.out 0).trans rfl
                have hcz23_1 : wc.cell? ⟨gb101, 1, none⟩ = some (.string a0_1) := (blk_cell BK101.out 1).trans rfl
                have hcz23_2 : wc.cell? ⟨gb101, 2, none⟩ = some (.int .i64 a0_2) := (blk_cell BK101.out 2).trans rfl
                have hfz23_0 := blk_frozen BK101.out 0
                have hfz23_1 := blk_frozen BK101.out 1
                have hfz23_2 := blk_frozen BK101.out 2
                go_wp2
                go_ret
                exact ⟨by (rfl), by repeat ((with_reducible (exact HB.out)))⟩

end Go.Proofs.Ytjbnffadfohofaa.P
end
-- MERGED YtjbnffadfohofaaPvariorumref06sums
section
-- Written by wip/myprint.py of this session, over the kit's print.py: a Lean function for each Go function, and the proof that the code comes to it.
namespace Go.Proofs.Ytjbnffadfohofaa.P
open Go.RowKit Go.Proofs.YtjbnffadfohofaaW.PrintWords Go.Proofs.YtjbnffadfohofaaW.PrintLast Go.Proofs.YtjbnffadfohofaaW.PrintMore
attribute [local go_sem] max2_int min2_int max_two min_two max_three min_three max_four min_four   -- for this text's walks alone
set_option linter.unusedVariables false
set_option linter.unusedSimpArgs false

/-! ### variorumref06_sums: function 28 -/
def variorumref06_sums.l0 : Nat → List (S49) → Int → Int → Int → Option (Int × Int × Bool)
  | 0, _, _, _, _ => none
  | k + 1, x0, x5, x6, x7 => if x7 < (x0.length : Int) then (if 0 ≤ x7 then (if ((rd_T49 x0 x7).f0) > (wrap64 (16777216 - x5)) then (some (0, 0, false)) else (if ((rd_T49 x0 x7).f2) > (wrap64 (16777216 - x5)) then (some (0, 0, false)) else (if ((rd_T49 x0 x7).f0) > (wrap64 (16777216 - x6)) then (some (0, 0, false)) else (if (((rd_T49 x0 x7).f1).size : Int) > (wrap64 (16777216 - x6)) then (some (0, 0, false)) else (variorumref06_sums.l0 k x0 (wrap64 ((wrap64 (x5 + ((rd_T49 x0 x7).f0))) + ((rd_T49 x0 x7).f2))) (wrap64 ((wrap64 (x6 + ((rd_T49 x0 x7).f0))) + (((rd_T49 x0 x7).f1).size : Int))) (wrap64 (x7 + 1))))))) else (none)) else (some (x5, x6, true))
def variorumref06_sums.f (k : Nat) (l0 : List (S49)) : Option (Int × Int × Bool) := variorumref06_sums.l0 k l0 0 0 0
theorem variorumref06_sums.mono_l : ∀ k, (∀ y0 y1 y2 y3, LeO (variorumref06_sums.l0 k y0 y1 y2 y3) (variorumref06_sums.l0 (k + 1) y0 y1 y2 y3))
  | 0 => fun _ _ _ _ r h => by simp [variorumref06_sums.l0] at h
  | k + 1 => by
    have ih0 := variorumref06_sums.mono_l k
    · intro y0 y1 y2 y3
      unfold variorumref06_sums.l0
      repeat' first | (with_reducible exact ih0 _ _ _ _) | (with_reducible exact LeO.refl _) | (with_reducible refine LeO.ite ?_ ?_)
theorem variorumref06_sums.mono : ∀ a0 k, LeO (variorumref06_sums.f k a0) (variorumref06_sums.f (k + 1) a0) := by
  intro a0 k
  have ih0 := variorumref06_sums.mono_l k
  unfold variorumref06_sums.f
  repeat' (with_reducible exact ih0 _ _ _ _)
set_option maxHeartbeats 8000000 in
set_option maxRecDepth 100000 in
theorem variorumref06_sums.calls (k : Nat) (A0 : Option Addr) (c0 : Nat) (l0 : List (S49)) (r1 : Int) (r2 : Int) (r3 : Bool) (w : World) (hr0 : Kd.C k49 w A0 l0.length l0) (hc0 : l0.length ≤ c0) (h : variorumref06_sums.f k l0 = some (r1, r2, r3)) :
    Calls Try.prog 28 #[.slice A0 l0.length c0] w fun e w' => e = .returned (.tuple #[.int .i64 r1, .int .i64 r2, .bool r3]) ∧ Below w.heap.size w w' := by
  have hu49 := Try.underlying49
  have HR0 := Aside0.mk hr0
  have HC0 := Aside0.mk hc0
  clear hr0 hc0
  have HB := Aside0.mk (Below.refl w.heap.size w)
  have H : (variorumref06_sums.l0 k l0 0 0 0) = some (r1, r2, r3) := h
  clear h
  have H' := Aside0.mk H
  clear H
  go_enter Try.func28, Try.ntmps28
  go_wp2
  go_loopg [5, 6, 7] k (fun kq v5 v6 v7 w' => ∃ (x5_1 : Int) (x6_1 : Int) (x7_1 : Int), v5 = .int .i64 x5_1 ∧ v6 = .int .i64 x6_1 ∧ v7 = .int .i64 x7_1 ∧ Aside0 (variorumref06_sums.l0 kq l0 x5_1 x6_1 x7_1 = some (r1, r2, r3)) ∧ Aside0 (kq ≤ k) ∧ Aside0 (Below w.heap.size w w'))
  case atStart => exact ⟨(0), (0), (0), (by (rfl)), (by (rfl)), (by (rfl)), H', ⟨Nat.le_refl _⟩, ⟨by repeat ((with_reducible (exact HB.out)))⟩⟩
  case round =>
    clear H'
    obtain ⟨x5_1, x6_1, x7_1, rfl, rfl, rfl, HA, HK1, HB⟩ := hrel
    cases gk with
    | zero => exact absurd HA.out (by simp [variorumref06_sums.l0])
    | succ k1 =>
      have H := HA.out
      clear HA
      simp only [variorumref06_sums.l0] at H
      by_cases c2 : x7_1 < (l0.length : Int)
      · rw [if_pos c2] at H
        have c2b0 : decide (x7_1 < (l0.length : Int)) = true := decide_eq_true c2
        clear c2
        by_cases c3 : 0 ≤ x7_1
        · rw [if_pos c3] at H
          have c3b0 : decide (0 ≤ x7_1) = true := decide_eq_true c3
          clear c3
          by_cases c4 : ((rd_T49 l0 x7_1).f0) > (wrap64 (16777216 - x5_1))
          · rw [if_pos c4] at H
            have c4b0 : decide ((wrap64 (16777216 - x5_1)) < ((rd_T49 l0 x7_1).f0)) = true := decide_eq_true c4
            clear c4
            simp only [Option.some.injEq, Prod.mk.injEq] at H
            obtain ⟨rfl, rfl, rfl⟩ := H
            have p102 : 0 ≤ (x7_1 : Int) := of_decide_eq_true (by (with_reducible assumption))
            have q102 : x7_1 < (l0.length : Int) := of_decide_eq_true (by (with_reducible assumption))
            obtain ⟨ad102, e102, hx102_0, hx102_1, hx102_2⟩ := at_T49 HR0.out x7_1 p102 q102
            cases e102
            replace hx102_0 := (HB.out.cell (World.block_lt_of_cell? w _ hx102_0)).trans hx102_0
            replace hx102_1 := (HB.out.cell (World.block_lt_of_cell? w _ hx102_1)).trans hx102_1
            replace hx102_2 := (HB.out.cell (World.block_lt_of_cell? w _ hx102_2)).trans hx102_2
            replace p102 := eq_true p102
            replace q102 := eq_true q102
            go_wp2_with (first | ((with_reducible refine gate_dst (N := 8) rfl ?_); (try (refine gate_guard (by rfl) ?_; dsimp only)); refine box_event ?hg (N := 8) ?hd (cs := #[.int .i64 0, .string (⟨#[]⟩ : ByteArray), .int .i64 0]) (t := 49) ?hr ?_; (case hd => rfl); (case hg => rfl); (case hr => (go_simp; done)); intro gb103 hg w5 hbox hb; have n0_ := Aside0.mk (below_step (by repeat ((with_reducible (exact HB.out)))) hb); have n1_ := Aside0.mk (hbox); have n2_ := Aside0.mk ((by rw [hg]; exact (below_size (by repeat ((with_reducible (exact HB.out))))) : w.heap.size ≤ gb103)); have n3_ := Aside0.mk ((by rw [hg]; exact (below_size (by repeat ((with_reducible (exact HB.out))))) : w.heap.size ≤ gb103)); clear HB; have HB := n0_; have BK103 := n1_; have GW103 := n2_; have GE103 := n3_; clear n0_ n1_ n2_ n3_; clear hb hbox hg; have hcz6_0 : w5.cell? ⟨gb103, 0, none⟩ = some (.int .i64 0) := (blk_cell BK103.out 0).trans rfl; have hcz6_1 : w5.cell? ⟨gb103, 1, none⟩ = some (.string (⟨#[]⟩ : ByteArray)) := (blk_cell BK103.out 1).trans rfl; have hcz6_2 : w5.cell? ⟨gb103, 2, none⟩ = some (.int .i64 0) := (blk_cell BK103.out 2).trans rfl; have hfz6_0 := blk_frozen BK103.out 0; have hfz6_1 := blk_frozen BK103.out 1; have hfz6_2 := blk_frozen BK103.out 2))
            go_ret3
            exact ⟨by (rfl), by repeat ((with_reducible first | exact HB.out | refine below_set ?_ GE103.out))⟩
          · rw [if_neg c4] at H
            have c4b0 : decide ((wrap64 (16777216 - x5_1)) < ((rd_T49 l0 x7_1).f0)) = false := decide_eq_false c4
            clear c4
            by_cases c7 : ((rd_T49 l0 x7_1).f2) > (wrap64 (16777216 - x5_1))
            · rw [if_pos c7] at H
              have c7b0 : decide ((wrap64 (16777216 - x5_1)) < ((rd_T49 l0 x7_1).f2)) = true := decide_eq_true c7
              clear c7
              simp only [Option.some.injEq, Prod.mk.injEq] at H
              obtain ⟨rfl, rfl, rfl⟩ := H
              have p102 : 0 ≤ (x7_1 : Int) := of_decide_eq_true (by (with_reducible assumption))
              have q102 : x7_1 < (l0.length : Int) := of_decide_eq_true (by (with_reducible assumption))
              obtain ⟨ad102, e102, hx102_0, hx102_1, hx102_2⟩ := at_T49 HR0.out x7_1 p102 q102
              cases e102
              replace hx102_0 := (HB.out.cell (World.block_lt_of_cell? w _ hx102_0)).trans hx102_0
              replace hx102_1 := (HB.out.cell (World.block_lt_of_cell? w _ hx102_1)).trans hx102_1
              replace hx102_2 := (HB.out.cell (World.block_lt_of_cell? w _ hx102_2)).trans hx102_2
              replace p102 := eq_true p102
              replace q102 := eq_true q102
              go_wp2_with (first | ((with_reducible refine gate_dst (N := 8) rfl ?_); (try (refine gate_guard (by rfl) ?_; dsimp only)); refine box_event ?hg (N := 8) ?hd (cs := #[.int .i64 0, .string (⟨#[]⟩ : ByteArray), .int .i64 0]) (t := 49) ?hr ?_; (case hd => rfl); (case hg => rfl); (case hr => (go_simp; done)); intro gb103 hg w8 hbox hb; have n0_ := Aside0.mk (below_step (by repeat ((with_reducible (exact HB.out)))) hb); have n1_ := Aside0.mk (hbox); have n2_ := Aside0.mk ((by rw [hg]; exact (below_size (by repeat ((with_reducible (exact HB.out))))) : w.heap.size ≤ gb103)); have n3_ := Aside0.mk ((by rw [hg]; exact (below_size (by repeat ((with_reducible (exact HB.out))))) : w.heap.size ≤ gb103)); clear HB; have HB := n0_; have BK103 := n1_; have GW103 := n2_; have GE103 := n3_; clear n0_ n1_ n2_ n3_; clear hb hbox hg; have hcz9_0 : w8.cell? ⟨gb103, 0, none⟩ = some (.int .i64 0) := (blk_cell BK103.out 0).trans rfl; have hcz9_1 : w8.cell? ⟨gb103, 1, none⟩ = some (.string (⟨#[]⟩ : ByteArray)) := (blk_cell BK103.out 1).trans rfl; have hcz9_2 : w8.cell? ⟨gb103, 2, none⟩ = some (.int .i64 0) := (blk_cell BK103.out 2).trans rfl; have hfz9_0 := blk_frozen BK103.out 0; have hfz9_1 := blk_frozen BK103.out 1; have hfz9_2 := blk_frozen BK103.out 2))
              go_ret3
              exact ⟨by (rfl), by repeat ((with_reducible first | exact HB.out | refine below_set ?_ GE103.out))⟩
            · rw [if_neg c7] at H
              have c7b0 : decide ((wrap64 (16777216 - x5_1)) < ((rd_T49 l0 x7_1).f2)) = false := decide_eq_false c7
              clear c7
              by_cases c10 : ((rd_T49 l0 x7_1).f0) > (wrap64 (16777216 - x6_1))
              · rw [if_pos c10] at H
                have c10b0 : decide ((wrap64 (16777216 - x6_1)) < ((rd_T49 l0 x7_1).f0)) = true := decide_eq_true c10
                clear c10
                simp only [Option.some.injEq, Prod.mk.injEq] at H
                obtain ⟨rfl, rfl, rfl⟩ := H
                have p102 : 0 ≤ (x7_1 : Int) := of_decide_eq_true (by (with_reducible assumption))
                have q102 : x7_1 < (l0.length : Int) := of_decide_eq_true (by (with_reducible assumption))
                obtain ⟨ad102, e102, hx102_0, hx102_1, hx102_2⟩ := at_T49 HR0.out x7_1 p102 q102
                cases e102
                replace hx102_0 := (HB.out.cell (World.block_lt_of_cell? w _ hx102_0)).trans hx102_0
                replace hx102_1 := (HB.out.cell (World.block_lt_of_cell? w _ hx102_1)).trans hx102_1
                replace hx102_2 := (HB.out.cell (World.block_lt_of_cell? w _ hx102_2)).trans hx102_2
                replace p102 := eq_true p102
                replace q102 := eq_true q102
                go_wp2_with (first | ((with_reducible refine gate_dst (N := 8) rfl ?_); (try (refine gate_guard (by rfl) ?_; dsimp only)); refine box_event ?hg (N := 8) ?hd (cs := #[.int .i64 0, .string (⟨#[]⟩ : ByteArray), .int .i64 0]) (t := 49) ?hr ?_; (case hd => rfl); (case hg => rfl); (case hr => (go_simp; done)); intro gb103 hg w11 hbox hb; have n0_ := Aside0.mk (below_step (by repeat ((with_reducible (exact HB.out)))) hb); have n1_ := Aside0.mk (hbox); have n2_ := Aside0.mk ((by rw [hg]; exact (below_size (by repeat ((with_reducible (exact HB.out))))) : w.heap.size ≤ gb103)); have n3_ := Aside0.mk ((by rw [hg]; exact (below_size (by repeat ((with_reducible (exact HB.out))))) : w.heap.size ≤ gb103)); clear HB; have HB := n0_; have BK103 := n1_; have GW103 := n2_; have GE103 := n3_; clear n0_ n1_ n2_ n3_; clear hb hbox hg; have hcz12_0 : w11.cell? ⟨gb103, 0, none⟩ = some (.int .i64 0) := (blk_cell BK103.out 0).trans rfl; have hcz12_1 : w11.cell? ⟨gb103, 1, none⟩ = some (.string (⟨#[]⟩ : ByteArray)) := (blk_cell BK103.out 1).trans rfl; have hcz12_2 : w11.cell? ⟨gb103, 2, none⟩ = some (.int .i64 0) := (blk_cell BK103.out 2).trans rfl; have hfz12_0 := blk_frozen BK103.out 0; have hfz12_1 := blk_frozen BK103.out 1; have hfz12_2 := blk_frozen BK103.out 2))
                go_ret3
                exact ⟨by (rfl), by repeat ((with_reducible first | exact HB.out | refine below_set ?_ GE103.out))⟩
              · rw [if_neg c10] at H
                have c10b0 : decide ((wrap64 (16777216 - x6_1)) < ((rd_T49 l0 x7_1).f0)) = false := decide_eq_false c10
                clear c10
                by_cases c13 : (((rd_T49 l0 x7_1).f1).size : Int) > (wrap64 (16777216 - x6_1))
                · rw [if_pos c13] at H
                  have c13b0 : decide ((wrap64 (16777216 - x6_1)) < (((rd_T49 l0 x7_1).f1).size : Int)) = true := decide_eq_true c13
                  clear c13
                  simp only [Option.some.injEq, Prod.mk.injEq] at H
                  obtain ⟨rfl, rfl, rfl⟩ := H
                  have p102 : 0 ≤ (x7_1 : Int) := of_decide_eq_true (by (with_reducible assumption))
                  have q102 : x7_1 < (l0.length : Int) := of_decide_eq_true (by (with_reducible assumption))
                  obtain ⟨ad102, e102, hx102_0, hx102_1, hx102_2⟩ := at_T49 HR0.out x7_1 p102 q102
                  cases e102
                  replace hx102_0 := (HB.out.cell (World.block_lt_of_cell? w _ hx102_0)).trans hx102_0
                  replace hx102_1 := (HB.out.cell (World.block_lt_of_cell? w _ hx102_1)).trans hx102_1
                  replace hx102_2 := (HB.out.cell (World.block_lt_of_cell? w _ hx102_2)).trans hx102_2
                  replace p102 := eq_true p102
                  replace q102 := eq_true q102
                  go_wp2_with (first | ((with_reducible refine gate_dst (N := 8) rfl ?_); (try (refine gate_guard (by rfl) ?_; dsimp only)); refine box_event ?hg (N := 8) ?hd (cs := #[.int .i64 0, .string (⟨#[]⟩ : ByteArray), .int .i64 0]) (t := 49) ?hr ?_; (case hd => rfl); (case hg => rfl); (case hr => (go_simp; done)); intro gb103 hg w14 hbox hb; have n0_ := Aside0.mk (below_step (by repeat ((with_reducible (exact HB.out)))) hb); have n1_ := Aside0.mk (hbox); have n2_ := Aside0.mk ((by rw [hg]; exact (below_size (by repeat ((with_reducible (exact HB.out))))) : w.heap.size ≤ gb103)); have n3_ := Aside0.mk ((by rw [hg]; exact (below_size (by repeat ((with_reducible (exact HB.out))))) : w.heap.size ≤ gb103)); clear HB; have HB := n0_; have BK103 := n1_; have GW103 := n2_; have GE103 := n3_; clear n0_ n1_ n2_ n3_; clear hb hbox hg; have hcz15_0 : w14.cell? ⟨gb103, 0, none⟩ = some (.int .i64 0) := (blk_cell BK103.out 0).trans rfl; have hcz15_1 : w14.cell? ⟨gb103, 1, none⟩ = some (.string (⟨#[]⟩ : ByteArray)) := (blk_cell BK103.out 1).trans rfl; have hcz15_2 : w14.cell? ⟨gb103, 2, none⟩ = some (.int .i64 0) := (blk_cell BK103.out 2).trans rfl; have hfz15_0 := blk_frozen BK103.out 0; have hfz15_1 := blk_frozen BK103.out 1; have hfz15_2 := blk_frozen BK103.out 2))
                  go_ret3
                  exact ⟨by (rfl), by repeat ((with_reducible first | exact HB.out | refine below_set ?_ GE103.out))⟩
                · rw [if_neg c13] at H
                  have c13b0 : decide ((wrap64 (16777216 - x6_1)) < (((rd_T49 l0 x7_1).f1).size : Int)) = false := decide_eq_false c13
                  clear c13
                  have H' := Aside0.mk H
                  clear H
                  have p102 : 0 ≤ (x7_1 : Int) := of_decide_eq_true (by (with_reducible assumption))
                  have q102 : x7_1 < (l0.length : Int) := of_decide_eq_true (by (with_reducible assumption))
                  obtain ⟨ad102, e102, hx102_0, hx102_1, hx102_2⟩ := at_T49 HR0.out x7_1 p102 q102
                  cases e102
                  replace hx102_0 := (HB.out.cell (World.block_lt_of_cell? w _ hx102_0)).trans hx102_0
                  replace hx102_1 := (HB.out.cell (World.block_lt_of_cell? w _ hx102_1)).trans hx102_1
                  replace hx102_2 := (HB.out.cell (World.block_lt_of_cell? w _ hx102_2)).trans hx102_2
                  replace p102 := eq_true p102
                  replace q102 := eq_true q102
                  go_wp2_with (first | ((with_reducible refine gate_dst (N := 8) rfl ?_); (try (refine gate_guard (by rfl) ?_; dsimp only)); refine box_event ?hg (N := 8) ?hd (cs := #[.int .i64 0, .string (⟨#[]⟩ : ByteArray), .int .i64 0]) (t := 49) ?hr ?_; (case hd => rfl); (case hg => rfl); (case hr => (go_simp; done)); intro gb103 hg w16 hbox hb; have n0_ := Aside0.mk (below_step (by repeat ((with_reducible (exact HB.out)))) hb); have n1_ := Aside0.mk (hbox); have n2_ := Aside0.mk ((by rw [hg]; exact (below_size (by repeat ((with_reducible (exact HB.out))))) : w.heap.size ≤ gb103)); have n3_ := Aside0.mk ((by rw [hg]; exact (below_size (by repeat ((with_reducible (exact HB.out))))) : w.heap.size ≤ gb103)); clear HB; have HB := n0_; have BK103 := n1_; have GW103 := n2_; have GE103 := n3_; clear n0_ n1_ n2_ n3_; clear hb hbox hg; have hcz17_0 : w16.cell? ⟨gb103, 0, none⟩ = some (.int .i64 0) := (blk_cell BK103.out 0).trans rfl; have hcz17_1 : w16.cell? ⟨gb103, 1, none⟩ = some (.string (⟨#[]⟩ : ByteArray)) := (blk_cell BK103.out 1).trans rfl; have hcz17_2 : w16.cell? ⟨gb103, 2, none⟩ = some (.int .i64 0) := (blk_cell BK103.out 2).trans rfl; have hfz17_0 := blk_frozen BK103.out 0; have hfz17_1 := blk_frozen BK103.out 1; have hfz17_2 := blk_frozen BK103.out 2))
                  go_roundg k1
                  case measure => have := HK1.out; omega
                  case rel => exact ⟨(wrap64 ((wrap64 (x5_1 + ((rd_T49 l0 x7_1).f0))) + ((rd_T49 l0 x7_1).f2))), (wrap64 ((wrap64 (x6_1 + ((rd_T49 l0 x7_1).f0))) + (((rd_T49 l0 x7_1).f1).size : Int))), (wrap64 (x7_1 + 1)), (by (rfl)), (by (rfl)), (by (rfl)), H', ⟨by have := HK1.out; omega⟩, ⟨by repeat ((with_reducible first | exact HB.out | refine below_set ?_ GE103.out))⟩⟩
        · rw [if_neg c3] at H
          exact absurd H (by simp)
      · rw [if_neg c2] at H
        have c2b0 : decide (x7_1 < (l0.length : Int)) = false := decide_eq_false c2
        clear c2
        simp only [Option.some.injEq, Prod.mk.injEq] at H
        obtain ⟨rfl, rfl, rfl⟩ := H
        go_wp2
        go_ret3
        exact ⟨by (rfl), by repeat ((with_reducible (exact HB.out)))⟩

end Go.Proofs.Ytjbnffadfohofaa.P
end
-- MERGED YtjbnffadfohofaaEditK
section
/- The walk of the reference's Good of edits. -/
namespace Go.Proofs.Ytjbnffadfohofaa.EditK
open Go.RowKit Go.Proofs.Ytjbnffadfohofaa.P Go.Proofs.YtjbnffadfohofaaW.PrintWords Go.Proofs.YtjbnffadfohofaaW.PrintLast Go.Proofs.YtjbnffadfohofaaW.PrintMore Go.Proofs.Ytjbnffadfohofaa.EditL
set_option linter.unusedSimpArgs false
set_option linter.unusedVariables false

theorem w64 {x : Int} (h1 : -9223372036854775808 ≤ x) (h2 : x ≤ 9223372036854775807) : wrap64 x = x := by unfold wrap64; omega
theorem tl_nil {s : ByteArray} : (s.toList = ([] : List UInt8)) ↔ s.size = 0 := by
  rw [ByteArray.toList_eq]
  constructor
  · intro h
    show s.data.size = 0
    rw [← Array.length_toList, h]; rfl
  · intro h
    have : s.data.toList.length = 0 := by rw [Array.length_toList]; exact h
    exact List.eq_nil_of_length_eq_zero this
theorem tl_beq {s : ByteArray} : (s.toList == ([] : List UInt8)) = decide (s.size = 0) := by
  rw [Bool.eq_iff_iff]
  simp only [beq_iff_eq, decide_eq_true_eq]
  exact tl_nil
theorem rd_at {l pre suf : List Rn} {r : Rn} (h : l = pre ++ r :: suf) : rd_T49 l (pre.length : Int) = r := by
  unfold rd_T49
  rw [Int.toNat_natCast, h]
  simp [List.getD_eq_getElem?_getD]
theorem snoc {l pre suf : List Rn} {r : Rn} (h : l = pre ++ r :: suf) : l = (pre ++ [r]) ++ suf ∧ ((pre ++ [r]).length : Int) = (pre.length : Int) + 1 ∧ (pre.length : Int) < (l.length : Int) := by
  subst h
  simp
  omega
theorem rkind_f (r : Rn) (k : Nat) : variorumref06_Kind.f (k + 2) r.f0 r.f1 r.f2 = some (knd r) := by
  unfold variorumref06_Kind.f knd
  simp only [variorumref06_Kind.j0, variorumref06_Kind.j1, tl_nil]
  generalize r.f1.size = n
  generalize r.f0 = a
  generalize r.f2 = d
  by_cases c0 : 0 < a <;> by_cases c1 : n = 0 <;> by_cases c2 : d = 0 <;> by_cases c3 : a = 0 <;> by_cases c4 : 0 < d <;> simp [c0, c1, c2, c3, c4] <;> omega
theorem rkind_c (r : Rn) (w : World) : Calls Try.prog 27 #[.agg #[.int .i64 r.f0, .string r.f1, .int .i64 r.f2]] w fun e w' => e = .returned (.int .i64 (knd r)) ∧ Below w.heap.size w w' :=
  variorumref06_Kind.calls 2 _ _ _ _ w (rkind_f r 0)
theorem rsums_l (l0 : List Rn) (hb : l0.length ≤ 140737488351232) : ∀ (suf pre : List Rn) (k : Nat) (i o : Int), l0 = pre ++ suf → suf.length < k → (∀ r ∈ suf, knd r ≠ 0) → 0 ≤ i → i ≤ 16777216 → 0 ≤ o → o ≤ 16777216 →
    variorumref06_sums.l0 k l0 i o (pre.length : Int) = some (cond (fits suf i o) (i + inL suf, o + outL suf, true) (0, 0, false)) := by
  intro suf
  induction suf with
  | nil =>
    intro pre k i o hl hk _ _ _ _ _
    obtain ⟨k, rfl⟩ : ∃ m, k = m + 1 := ⟨k - 1, by simp at hk; omega⟩
    have : l0.length = pre.length := by rw [hl]; simp
    simp only [variorumref06_sums.l0]
    rw [if_neg (by omega)]
    simp [fits, inL, outL]
  | cons r suf ih =>
    intro pre k i o hl hk hok hi0 hi ho0 ho
    obtain ⟨k, rfl⟩ : ∃ m, k = m + 1 := ⟨k - 1, by simp at hk; omega⟩
    obtain ⟨hl2, hn, hlt⟩ := snoc hl
    have hr := knd_cases r
    have h0 := hok r List.mem_cons_self
    have hp := knd_pos h0
    simp only [variorumref06_sums.l0]
    rw [if_pos hlt, if_pos (by omega), rd_at hl, w64 (x := 16777216 - i) (by omega) (by omega), w64 (x := 16777216 - o) (by omega) (by omega)]
    simp only [fits, inL, outL]
    by_cases c1 : r.f0 ≤ 16777216 - i
    · rw [if_neg (by omega), decide_eq_true c1]
      by_cases c2 : r.f2 ≤ 16777216 - i
      · rw [if_neg (by omega), decide_eq_true c2]
        by_cases c3 : r.f0 ≤ 16777216 - o
        · rw [if_neg (by omega), decide_eq_true c3]
          by_cases c4 : (r.f1.size : Int) ≤ 16777216 - o
          · rw [if_neg (by omega), decide_eq_true c4, Bool.true_and, Bool.true_and, Bool.true_and, Bool.true_and,
              w64 (x := i + r.f0) (by omega) (by omega), w64 (x := i + r.f0 + r.f2) (by omega) (by omega), w64 (x := o + r.f0) (by omega) (by omega), w64 (x := o + r.f0 + (r.f1.size : Int)) (by omega) (by omega), w64 (x := (pre.length : Int) + 1) (by omega) (by omega), ← hn,
              show i + r.f0 + r.f2 = i + (r.f0 + r.f2) by omega, show o + r.f0 + (r.f1.size : Int) = o + (r.f0 + (r.f1.size : Int)) by omega]
            rw [ih (pre ++ [r]) k _ _ hl2 (by simp at hk; omega) (fun x hx => hok x (List.mem_cons_of_mem _ hx)) (by omega) (by rcases hr with h | h | h | h <;> omega) (by omega) (by rcases hr with h | h | h | h <;> omega)]
            cases fits suf (i + (r.f0 + r.f2)) (o + (r.f0 + (r.f1.size : Int))) with
            | false => rfl
            | true => simp only [cond_true, Option.some.injEq, Prod.mk.injEq, and_true]; omega
          · rw [if_pos (by omega), decide_eq_false c4]; rfl
        · rw [if_pos (by omega), decide_eq_false c3]; rfl
      · rw [if_pos (by omega), decide_eq_false c2]; rfl
    · rw [if_pos (by omega), decide_eq_false c1]; rfl
theorem rsums_f {l : List Rn} (hb : l.length ≤ 140737488351232) (hok : ∀ r ∈ l, knd r ≠ 0) (k : Nat) (hk : l.length < k) : variorumref06_sums.f k l = some (cond (fits l 0 0) (inL l, outL l, true) (0, 0, false)) := by
  unfold variorumref06_sums.f
  have := rsums_l l hb l [] k 0 0 rfl hk hok (by omega) (by omega) (by omega) (by omega)
  simp only [Int.zero_add] at this
  exact this
/-- The kind of the run ahead. -/
def prev (l : List Rn) (j : Nat) : Int := if j = 0 then 0 else knd (l.getD (j - 1) z49)
theorem drop_get {l : List Rn} {j : Nat} (h : j < l.length) : l.drop j = l.getD j z49 :: l.drop (j + 1) := by
  rw [List.drop_eq_getElem_cons h, List.getD_eq_getElem?_getD, List.getElem?_eq_getElem h]; rfl
theorem ord_step {l : List Rn} {j : Nat} (h : j < l.length) : ord (l.drop j) (prev l j) = ((decide (knd (l.getD j z49) ≠ 0) && decide (knd (l.getD j z49) ≠ prev l j) && decide (¬ (prev l j = 3 ∧ knd (l.getD j z49) = 2))) && ord (l.drop (j + 1)) (prev l (j + 1))) := by
  rw [drop_get h]
  show _ = _
  simp only [ord]
  rw [show prev l (j + 1) = knd (l.getD j z49) from by unfold prev; rw [if_neg (by omega), Nat.add_sub_cancel]]
theorem at_nat {w : World} {A : Option Addr} {n : Nat} {xs : List Rn} (h : Kd.C k49 w A n xs) (j : Nat) (h1 : j < n) : ∃ ad , A = some ad ∧ w.cell? (ad.add (j * 3)) = some (.int .i64 (xs.getD j z49).f0) ∧ w.cell? ⟨(ad.add (j * 3)).block, (ad.add (j * 3)).off + 1, none⟩ = some (.string (xs.getD j z49).f1) ∧ w.cell? ⟨(ad.add (j * 3)).block, (ad.add (j * 3)).off + 2, none⟩ = some (.int .i64 (xs.getD j z49).f2) := by
  have := at_T49 h (j : Int) (by omega) (by omega)
  unfold rd_T49 at this
  rwa [Int.toNat_natCast] at this
set_option maxHeartbeats 4000000 in
set_option maxRecDepth 100000 in
theorem good_c (A0 : Option Addr) (c0 : Nat) (l0 : List Rn) (w : World) (hr0 : Kd.C k49 w A0 l0.length l0) (hc0 : l0.length ≤ c0) (hl : l0.length ≤ 140737488351232) :
    Calls Try.prog 14 #[.slice A0 l0.length c0] w fun e w' => e = .returned (.bool (good l0)) ∧ Below w.heap.size w w' := by
  have HR := Aside0.mk hr0
  have HC := Aside0.mk hc0
  have HG := Aside0.mk (show good l0 = ((ord l0 0 && decide (l0.length ≤ 65536)) && fits l0 0 0) from rfl)
  clear hr0 hc0
  by_cases h1 : l0.length ≤ 65536
  · have h1' : (l0.length : Int) ≤ 65536 := by omega
    have HG1 := Aside0.mk (show good l0 = (ord l0 0 && fits l0 0 0) by rw [HG.out, decide_eq_true h1, Bool.and_true])
    have HL := Aside0.mk h1
    clear HG hl h1
    go_enter Try.func14, Try.ntmps14
    go_wp2_with fail
    go_loopw [3] (fun iv wr => ∃ j : Nat, j ≤ l0.length ∧ iv = .int .i64 (j : Int) ∧ ord (l0.drop j) (prev l0 j) = ord l0 0 ∧ Below w.heap.size w wr) (fun iv _ => l0.length - (intOf iv).toNat)
    case atStart => exact ⟨0, Nat.zero_le _, rfl, rfl, Below.refl _ _⟩
    case round =>
      obtain ⟨j, hj, rfl, ho, hb⟩ := hrel
      have HB := Aside0.mk hb
      have HO := Aside0.mk ho
      clear hb ho
      by_cases hlt : j < l0.length
      · have hs := ord_step hlt
        obtain ⟨ad, rfl, x0, x1, x2⟩ := at_nat (Kd.C_below HR.out HB.out) j hlt
        obtain ⟨r, hr⟩ : ∃ r, r = l0.getD j z49 := ⟨_, rfl⟩
        rw [← hr] at x0 x1 x2 hs
        have HRR := Aside0.mk hr
        have HSS := Aside0.mk hs
        have hlt' : (j : Int) < (l0.length : Int) := by omega
        clear hr hs
        go_wp2_with fail
        refine (rkind_c r _).mono ?_
        rintro e w1 ⟨rfl, hb⟩
        have HB1 := Aside0.mk (HB.out.trans (hb.mono HB.out.size))
        obtain ⟨t, ht⟩ : ∃ t, t = knd r := ⟨_, rfl⟩
        rw [← ht] at HSS ⊢
        have HT := Aside0.mk ht
        clear hb ht x0 x1 x2
        by_cases c1 : t = 0
        · subst c1
          have HF := Aside0.mk (show good l0 = false by rw [HG1.out, ← HO.out, HSS.out]; simp)
          go_wp2_with fail
          go_ret
          exact ⟨by rw [HF.out]; rfl, HB1.out⟩
        · have c1b : (t == 0) = false := by simpa using c1
          have c1c : (t != 0) = true := by simpa using c1
          by_cases hj0 : j = 0
          · subst hj0
            have HN := Aside0.mk (show ord (l0.drop 1) (prev l0 1) = ord l0 0 by
              rw [← HO.out, HSS.out, show prev l0 0 = 0 from rfl, decide_eq_true (show t ≠ 0 from c1), decide_eq_true (show ¬ ((0 : Int) = 3 ∧ t = 2) by omega)]; rfl)
            clear c1
            go_wp2_with fail
            go_roundw
            case rel => exact ⟨1, by omega, rfl, HN.out, HB1.out⟩
            case measure => simp [intOf]; omega
          · have hj1 : 0 < j := by omega
            have hj2 : (0 : Int) < (j : Int) := by omega
            obtain ⟨ad', e', y0, y1, y2⟩ := at_nat (Kd.C_below HR.out HB1.out) (j - 1) (by omega)
            cases e'
            have hjn : ((j : Int) - 1).toNat = j - 1 := by omega
            obtain ⟨q, hq⟩ : ∃ q, q = l0.getD (j - 1) z49 := ⟨_, rfl⟩
            rw [← hq] at y0 y1 y2
            have HP := Aside0.mk (show prev l0 j = knd q by rw [hq]; unfold prev; rw [if_neg hj0])
            obtain ⟨u, hu⟩ : ∃ u, u = knd q := ⟨_, rfl⟩
            have HU := Aside0.mk hu
            have HQ := Aside0.mk hq
            rw [← hu] at HP
            clear hq hu hj0
            have hKQ := rkind_c q
            rw [← HU.out] at hKQ
            have HKQ := Aside0.mk hKQ
            clear hKQ
            by_cases c2 : u = t
            · subst c2
              have HF := Aside0.mk (show good l0 = false by rw [HG1.out, ← HO.out, HSS.out, HP.out]; simp)
              clear c1
              go_wp2_with fail
              refine (HKQ.out _).mono ?_
              rintro e w2 ⟨rfl, hb⟩
              have HB2 := Aside0.mk (HB1.out.trans (hb.mono HB1.out.size))
              clear hb y0 y1 y2
              go_wp2_with fail
              go_ret
              exact ⟨by rw [HF.out]; rfl, HB2.out⟩
            · have c2b : (u == t) = false := by simpa using c2
              have c2c : (u != t) = true := by simpa using c2
              have hy : ∀ w2, Below w.heap.size w w2 → w2.cell? (ad.add ((j - 1) * 3)) = some (.int .i64 q.f0) ∧ w2.cell? ⟨(ad.add ((j - 1) * 3)).block, (ad.add ((j - 1) * 3)).off + 1, none⟩ = some (.string q.f1) ∧ w2.cell? ⟨(ad.add ((j - 1) * 3)).block, (ad.add ((j - 1) * 3)).off + 2, none⟩ = some (.int .i64 q.f2) := by
                intro w2 hb2
                obtain ⟨ad2, e2, z0, z1, z2⟩ := at_nat (Kd.C_below HR.out hb2) (j - 1) (by omega)
                cases e2
                rw [HQ.out]
                exact ⟨z0, z1, z2⟩
              have HY := Aside0.mk hy
              clear hy
              go_wp2_with fail
              refine (HKQ.out _).mono ?_
              rintro e w2 ⟨rfl, hb⟩
              have HB2 := Aside0.mk (HB1.out.trans (hb.mono HB1.out.size))
              clear hb y0 y1 y2
              obtain ⟨y0, y1, y2⟩ := HY.out _ HB2.out
              by_cases c3 : u = 3
              · subst c3
                by_cases c4 : t = 2
                · subst c4
                  have HF := Aside0.mk (show good l0 = false by rw [HG1.out, ← HO.out, HSS.out, HP.out]; simp)
                  clear c1
                  go_wp2_with fail
                  refine (HKQ.out _).mono ?_
                  rintro e w3 ⟨rfl, hb⟩
                  have HB3 := Aside0.mk (HB2.out.trans (hb.mono HB2.out.size))
                  clear hb y0 y1 y2
                  go_wp2_with fail
                  go_ret
                  exact ⟨by rw [HF.out]; rfl, HB3.out⟩
                · have c4b : (t == 2) = false := by simpa using c4
                  have HN := Aside0.mk (show ord (l0.drop (j + 1)) (prev l0 (j + 1)) = ord l0 0 by
                    rw [← HO.out, HSS.out, HP.out, decide_eq_true (show t ≠ 0 from c1), decide_eq_true (show t ≠ 3 by omega), decide_eq_true (show ¬ ((3 : Int) = 3 ∧ t = 2) by omega)]; rfl)
                  clear c1 c2 c4
                  go_wp2_with fail
                  refine (HKQ.out _).mono ?_
                  rintro e w3 ⟨rfl, hb⟩
                  have HB3 := Aside0.mk (HB2.out.trans (hb.mono HB2.out.size))
                  clear hb y0 y1 y2
                  go_wp2_with fail
                  go_roundw
                  case rel => exact ⟨j + 1, by omega, by go_num, HN.out, HB3.out⟩
                  case measure => simp [intOf]; omega
              · have c3b : (u == 3) = false := by simpa using c3
                have HN := Aside0.mk (show ord (l0.drop (j + 1)) (prev l0 (j + 1)) = ord l0 0 by
                  rw [← HO.out, HSS.out, HP.out, decide_eq_true (show t ≠ 0 from c1), decide_eq_true (show t ≠ u by omega), decide_eq_true (show ¬ (u = 3 ∧ t = 2) by omega)]; rfl)
                clear c1 c2 c3
                go_wp2_with fail
                refine (HKQ.out _).mono ?_
                rintro e w3 ⟨rfl, hb⟩
                have HB3 := Aside0.mk (HB2.out.trans (hb.mono HB2.out.size))
                clear hb y0 y1 y2
                go_wp2_with fail
                go_roundw
                case rel => exact ⟨j + 1, by omega, by go_num, HN.out, HB3.out⟩
                case measure => simp [intOf]; omega
      · have hj3 : j = l0.length := by omega
        have HOT := Aside0.mk (show ord l0 0 = true by rw [← HO.out, hj3, List.drop_length]; rfl)
        have hf := rsums_f (show l0.length ≤ 140737488351232 by have := HL.out; omega) (ord_ok HOT.out) (l0.length + 1) (by omega)
        rw [show cond (fits l0 0 0) (inL l0, outL l0, true) (0, 0, false) = ((cond (fits l0 0 0) (inL l0) 0, cond (fits l0 0 0) (outL l0) 0, fits l0 0 0) : Int × Int × Bool) from by cases fits l0 0 0 <;> rfl] at hf
        have HS := Aside0.mk (variorumref06_sums.calls (l0.length + 1) A0 c0 l0 _ _ _ wr (Kd.C_below HR.out HB.out) HC.out hf)
        have HF := Aside0.mk (show good l0 = fits l0 0 0 by rw [HG1.out, HOT.out, Bool.true_and])
        have hge : ¬ ((j : Int) < (l0.length : Int)) := by omega
        clear hf hlt hj3
        go_wp2_with fail
        refine HS.out.mono ?_
        rintro e w1 ⟨rfl, hb⟩
        have HB1 := Aside0.mk (HB.out.trans (hb.mono HB.out.size))
        clear hb
        go_wp2_with fail
        go_ret
        exact ⟨by rw [HF.out]; rfl, HB1.out⟩
  · have h1' : (65536 : Int) < (l0.length : Int) := by omega
    have HF := Aside0.mk (show good l0 = false by rw [HG.out, decide_eq_false h1, Bool.and_false]; rfl)
    clear HG h1
    go_enter Try.func14, Try.ntmps14
    go_wp2_with fail
    go_ret
    exact ⟨by rw [HF.out]; rfl, Below.refl _ _⟩
end Go.Proofs.Ytjbnffadfohofaa.EditK
end
-- MERGED YtjbnffadfohofaaRangeSt
section
/- A range over a function whose iterator keeps a state of its own in cells: one law, over one invariant of the loop's and the iterator's cells together. -/
namespace Go.Proofs.Ytjbnffadfohofaa.RangeSt
open Go Go.RowKit

variable {F : Fence} {n : Nat} {P : Program}

/-- How a round's body may be left. -/
def leftBy {σ : Type} (B : Nat) (I : σ → World → Prop) (Ix : Code → σ → World → Prop) (s : σ) (W : World) : Exit → Act → World → Prop
  | .normal, _, W' => KeepsFrom B W W' ∧ I s W'
  | .ret, _, W' => KeepsFrom B W W' ∧ Ix .ret s W'
  | .exit id, _, W' => KeepsFrom B W W' ∧ Ix (.exit id) s W'
  | .goto t, _, W' => KeepsFrom B W W' ∧ Ix (.goto t) s W'
  | .panic _, _, _ => False
  | .outgrown, _, _ => False
/-- The loop's own two blocks lie as they were laid. -/
def Lies (l D : Nat) (r : Loop) (W : World) : Prop := W.heap[l]? = some (.loop r) ∧ W.heap[D]? = some (.deferred (some []))
theorem Lies.keeps {l D B : Nat} {r : Loop} {W W' : World} (h : Lies l D r W) (hl : B ≤ l) (hD : B ≤ D) (hk : KeepsFrom B W W') : Lies l D r W' := ⟨hk.same _ _ hl h.1 rfl, hk.same _ _ hD h.2 rfl⟩
theorem Lies.lt {l D : Nat} {r : Loop} {W : World} (h : Lies l D r W) : l < W.heap.size := (Array.getElem?_eq_some_iff.1 h.1).1
theorem Lies.turned {l D : Nat} {r : Loop} {W : World} (h : Lies l D r W) (hne : D ≠ l) (r' : Loop) : Lies l D r' (W.putObj l (.loop r')) :=
  ⟨World.putObj_heap_same h.lt, (World.putObj_heap_other hne).trans h.2⟩

theorem range_st {α σ : Type} {g : Operand} {ps : Array Tmp} {assign body : Code} {Q : Exit → Act → World → Prop} {a : Act} {w : World}
    (hro : F.round = none) (h1 : 1 ≤ n) {gf : Nat} {lb : Array Value} (hg : a.eval g = .func (.func gf) #[] lb) (hFg : F.fn gf) (eg : ∀ args w, (callFunc gf args).run P w = .ok (.enter gf args) w)
    (encs : α → Array Value) (hps : ∀ x, (encs x).size = ps.size) (nx : σ → α → σ) (may : σ → α → Prop) (Fin : σ → Prop)
    (I : σ → World → Prop) (Ix : Code → σ → World → Prop) (hI : OwnFrom w.heap.size I) (hIx : ∀ c, OwnFrom w.heap.size (Ix c)) (s0 : σ) (h0 : I s0 w)
    (Ax : α → Act → World → Prop) (hAx : ∀ x a', OwnFrom w.heap.size (fun (_ : Unit) W => Ax x a' W))
    (hassign : ∀ (l : Nat) (s : σ) (x : α) (W : World) (K : Act → World → Prop), I s W → (∀ a' W', KeepsFrom w.heap.size W W' → I s W' → Ax x a' W' → K a' W') →
      assign.wpIn (F.inRound l) (n - 1 - 1) P (Exit.then K (fun _ _ _ => False)) { tmps := (ps.zip (encs x)).foldl (fun t (p, v) => t.setIfInBounds p v) a.tmps, defers := [] } W)
    (hbody : ∀ (l : Nat) (s : σ) (x : α) (a' : Act) (W : World), I s W → Ax x a' W → may s x → body.wpIn (F.inRound l) (n - 1 - 1) P (leftBy w.heap.size I Ix (nx s x) W) a' W)
    (hiter : ∀ (l : Nat) (St : World → Prop) (Dn : Code → World → Prop) (W1 : World), (∀ W W', St W → KeepsFrom w.heap.size W W' → St W') → (∀ c W W', Dn c W → KeepsFrom w.heap.size W W' → Dn c W') →
      W1.heap.size = w.heap.size + 2 → Below w.heap.size w W1 → I s0 W1 → St W1 →
      (∀ s x W, I s W → St W → may s x → YieldAt F (n - 1 - 1) P l (encs x) W fun e W' =>
        (e = .returned (.bool true) ∧ I (nx s x) W' ∧ St W') ∨ (e = .returned (.bool false) ∧ ∃ c, Ix c (nx s x) W' ∧ Dn c W')) →
      CallsIn F (n - 1) P gf (#[.func (.yield l) #[] #[]] ++ lb) W1 fun e W' => (∃ v, e = .returned v) ∧ ((∃ s, Fin s ∧ I s W' ∧ St W') ∨ (∃ c s, Ix c s W' ∧ Dn c W')))
    (hdone : ∀ (D : Nat) (s : σ) (W : World), w.heap.size ≤ D → Fin s → I s W → W.heap[D]? = some (.deferred (some [])) → Q .normal { a with defers := { target := .collected D, args := #[] } :: a.defers } W)
    (hstop : ∀ (D : Nat) (c : Code) (s : σ) (W : World), w.heap.size ≤ D → Ix c s W → W.heap[D]? = some (.deferred (some [])) → c.wpIn F n P Q { a with defers := { target := .collected D, args := #[] } :: a.defers } W) :
    (Code.rangeFunc g ps assign body).wpIn F n P Q a w := by
  refine wpIn_rangeFunc fun fn hfn => ?_
  rw [hro]
  obtain ⟨rc, hrc⟩ : ∃ rc : LoopState → Option Code → Loop, rc = fun st pe => { state := st, pending := pe, fn, tmps := a.tmps, params := ps, assign, body, defers := w.heap.size } := ⟨_, rfl⟩
  obtain ⟨W1, hW1⟩ : ∃ W1, W1 = (w.alloc (.deferred (some []))).alloc (.loop (rc .ready none)) := ⟨_, rfl⟩
  obtain ⟨l, hl⟩ : ∃ l, l = w.heap.size + 1 := ⟨_, rfl⟩
  have hne : w.heap.size ≠ l := by omega
  have hle : w.heap.size ≤ l := by omega
  have hL1 : Lies l w.heap.size (rc .ready none) W1 := by
    subst hW1 hl
    refine ⟨?_, (Below.heap_alloc _ _ _ (by simp)).trans (World.alloc_heap_new w _)⟩
    have := World.alloc_heap_new (w.alloc (.deferred (some []))) (.loop (rc .ready none))
    rwa [World.size_alloc] at this
  have hI1 : I s0 W1 := by rw [hW1]; exact hI.alloc _ (hI.alloc _ h0)
  have hb1 : Below w.heap.size w W1 := by rw [hW1]; exact ((Below.refl _ w).alloc (Nat.le_refl _) _).alloc (by simp) _
  have hz1 : W1.heap.size = w.heap.size + 2 := by rw [hW1]; simp
  refine ⟨l, [{ target := .collected w.heap.size, args := #[] }], W1, { target := .fn (.func gf) lb, args := #[.func (.yield l) #[] #[]] }, W1, gf, #[.func (.yield l) #[] #[]] ++ lb, W1, ?_, ?_, ?_, ?_, fun _ => h1, ?_⟩
  · rw [hW1, hrc, hl]; exact run_enterLoop_outer _ _ _ _ _
  · simp only [resolve, hg]
    simp [go_sem]
  · intro f' hf'
    simp [Target.leads] at hf'
    subst hf'
    exact hFg
  · simp [invoke, go_sem, eg]
  refine (hiter l (Lies l w.heap.size (rc .ready none)) (fun c => Lies l w.heap.size (rc .done (some c))) W1 (fun W W' h hk => h.keeps hle (Nat.le_refl _) hk) (fun c W W' h hk => h.keeps hle (Nat.le_refl _) hk) hz1 hb1 hI1 hL1 ?_).mono ?_
  · -- a round
    intro s x W hi hL hmay
    have hy := run_yield (P := P) (args := encs x) hL.1 (by rw [hrc]; exact hps x)
    rw [hrc] at hy
    refine ⟨fn, _, assign, body, hy, roundIn_of_wpIn hfn (hassign _ s x W _ hi ?_)⟩
    intro a' Wa hka hia hax
    have hLa := hL.keeps hle (Nat.le_refl _) hka
    have hLb := hLa.turned hne { rc .ready none with state := .busy }
    refine ⟨_, run_beginRound hLa.1 (by rw [hrc]), ?_⟩
    refine wpIn_mono (hbody _ s x a' _ (hI.putObj _ hia hle hLa.1 rfl) ((hAx x a').putObj (s := ()) _ hax hle hLa.1 rfl) hmay) ?_
    have fin : ∀ (jump : Option Code) (W3 : World), KeepsFrom w.heap.size (Wa.putObj l (.loop { rc .ready none with state := .busy })) W3 →
        (Instr.endRound l jump).run P W3 = .ok (.bool jump.isNone) (W3.putObj l (.loop (rc (if jump.isNone then .ready else .done) jump))) ∧ Lies l w.heap.size { rc .ready none with state := .busy } W3 := by
      intro jump W3 hk3
      have hL3 := hLb.keeps hle (Nat.le_refl _) hk3
      have h := run_endRound (P := P) jump hL3.1
      refine ⟨?_, hL3⟩
      rw [hrc] at h ⊢
      exact h
    rintro e a3 W3 hp
    cases e with
    | normal =>
      obtain ⟨hr, hL3⟩ := fin none W3 hp.1
      exact ⟨_, _, hr, .inl ⟨rfl, hI.putObj _ hp.2 hle hL3.1 rfl, hL3.turned hne _⟩⟩
    | ret =>
      obtain ⟨hr, hL3⟩ := fin (some .ret) W3 hp.1
      exact ⟨_, _, hr, .inr ⟨rfl, .ret, (hIx _).putObj _ hp.2 hle hL3.1 rfl, hL3.turned hne _⟩⟩
    | exit id =>
      obtain ⟨hr, hL3⟩ := fin (some (.exit id)) W3 hp.1
      exact ⟨_, _, hr, .inr ⟨rfl, .exit id, (hIx _).putObj _ hp.2 hle hL3.1 rfl, hL3.turned hne _⟩⟩
    | goto t =>
      obtain ⟨hr, hL3⟩ := fin (some (.goto t)) W3 hp.1
      exact ⟨_, _, hr, .inr ⟨rfl, .goto t, (hIx _).putObj _ hp.2 hle hL3.1 rfl, hL3.turned hne _⟩⟩
    | panic ch => exact hp.elim
    | outgrown => exact hp.elim
  · -- behind the iterator
    rintro e W2 ⟨⟨v, rfl⟩, (⟨s, hf, hi, hL⟩ | ⟨c, s, hi, hL⟩)⟩
    · have hend := run_endLoop (P := P) hL.1 (by rw [hrc]; simp)
      rw [hrc] at hend
      refine ⟨none, _, hend, ?_⟩
      rw [hrc] at hL
      exact hdone _ s _ (Nat.le_refl _) hf (hI.putObj _ hi hle hL.1 rfl) (hL.turned hne _).2
    · have hend := run_endLoop (P := P) hL.1 (by rw [hrc]; simp)
      rw [hrc] at hend
      refine ⟨some c, _, hend, ?_⟩
      rw [hrc] at hL
      exact hstop _ c s _ (Nat.le_refl _) ((hIx c).putObj _ hi hle hL.1 rfl) (hL.turned hne _).2
end Go.Proofs.Ytjbnffadfohofaa.RangeSt
end
-- MERGED YtjbnffadfohofaaRangeG
section
/- A range over a function whose iterator keeps a state of its own in cells that it lays itself: what is the iterator's is named, block by block; the loop's own state abides whatever the iterator does with them. -/
namespace Go.Proofs.Ytjbnffadfohofaa.RangeG
open Go Go.RowKit Go.Proofs.Ytjbnffadfohofaa.RangeSt

variable {P : Program}

theorem room_none {F : Fence} (hd : F.depth = none) (k : Nat) : F.room k := fun d h => by rw [hd] at h; cases h
theorem round_any {F : Fence} (hd : F.depth = none) {m m' : Nat} {l : Nat} {f : FuncId} {tmps : Array Value} {assign body : Code} {w : World} {R : Ending → World → Prop}
    (h : RoundIn F m P l f tmps assign body w R) : RoundIn F m' P l f tmps assign body w R := ⟨h.1, fun c cs _ => h.2 c cs (room_none hd _)⟩
theorem yield_any {m : Nat} (m' : Nat) {l : Nat} {args : Array Value} {W : World} {R : Ending → World → Prop} (h : YieldAt Fence.wide m P l args W R) : YieldAt Fence.wide m' P l args W R := by
  obtain ⟨fn, tmps, assign, body, hy, hR⟩ := h
  exact ⟨fn, tmps, assign, body, hy, round_any rfl hR⟩

/-- What is the iterator's: which blocks, and what lies in them. -/
abbrev Priv := Nat → Option Obj
def Priv.none : Priv := fun _ => Option.none
def Priv.put (G : Priv) (b : Nat) (o : Obj) : Priv := fun k => if k = b then some o else G k
theorem Priv.put_same (G : Priv) (b : Nat) (o : Obj) : G.put b o b = some o := if_pos rfl
theorem Priv.put_other (G : Priv) {b k : Nat} (o : Obj) (h : k ≠ b) : G.put b o k = G k := if_neg h
/-- A turn of the iterator's: it writes its own blocks, and lays new ones. -/
structure Turn (G : Priv) (W W' : World) : Prop where
  os : W'.os = W.os
  tape : W'.tape = W.tape
  output : W'.output = W.output
  size : W.heap.size ≤ W'.heap.size
  block : ∀ k, k < W.heap.size → G k = Option.none → W'.heap[k]? = W.heap[k]?
theorem Turn.of_below {G : Priv} {W W' : World} (h : Below W.heap.size W W') : Turn G W W' := ⟨h.os, h.tape, h.output, h.size, fun k hk _ => h.block k hk⟩
theorem Turn.trans {G : Priv} {A B C : World} (h : Turn G A B) (k : Turn G B C) : Turn G A C :=
  ⟨k.os.trans h.os, k.tape.trans h.tape, k.output.trans h.output, Nat.le_trans h.size k.size, fun i hi hG => (k.block i (Nat.lt_of_lt_of_le hi h.size) hG).trans (h.block i hi hG)⟩
theorem Turn.setCell {G : Priv} (W : World) (b o : Nat) (u : Value) (hb : G b ≠ Option.none) : Turn G W (W.setCell ⟨b, o, Option.none⟩ u) :=
  ⟨rfl, rfl, rfl, by simp [World.setCell], fun k _ hG => Below.heap_setCell _ _ _ _ (fun e => hb (by show G b = Option.none; rw [← show k = b from e]; exact hG))⟩
/-- The loop's state abides the iterator's turns. -/
structure Party {α : Type} (J : List α → Priv → World → Prop) : Prop where
  lies : ∀ pre G W, J pre G W → ∀ k o, G k = some o → W.heap[k]? = some o
  turn : ∀ pre G G' W W', J pre G W → Turn G W W' → (∀ k o, G' k = some o → W'.heap[k]? = some o ∧ o.isCells = true ∧ (G k ≠ Option.none ∨ W.heap.size ≤ k)) → J pre G' W'
  cells : ∀ pre G W, J pre G W → ∀ k o, G k = some o → o.isCells = true
section
variable {α : Type} {J : List α → Priv → World → Prop} (hP : Party J) {pre : List α} {G : Priv} {W W' : World}
include hP
theorem Party.lt (h : J pre G W) {b : Nat} {o : Obj} (hb : G b = some o) : b < W.heap.size := (Array.getElem?_eq_some_iff.1 (hP.lies _ _ _ h _ _ hb)).1
theorem Party.below (h : J pre G W) (hb : Below W.heap.size W W') : J pre G W' :=
  hP.turn _ _ _ _ _ h (Turn.of_below hb) fun k o hk => ⟨(hb.block k (hP.lt h hk)).trans (hP.lies _ _ _ h _ _ hk), hP.cells _ _ _ h _ _ hk, .inl (by rw [hk]; exact fun e => by cases e)⟩
/-- New blocks become the iterator's. -/
theorem Party.lay (h : J pre G W) (hb : Below W.heap.size W W') {b : Nat} {o : Obj} (hn : W.heap.size ≤ b) (ho : W'.heap[b]? = some o) (hc : o.isCells = true) : J pre (G.put b o) W' :=
  hP.turn _ _ _ _ _ h (Turn.of_below hb) fun k o' hk => by
    by_cases e : k = b
    · subst e
      rw [Priv.put_same] at hk
      obtain rfl := Option.some.inj hk
      exact ⟨ho, hc, .inr hn⟩
    · rw [Priv.put_other _ _ e] at hk
      exact ⟨(hb.block k (hP.lt h hk)).trans (hP.lies _ _ _ h _ _ hk), hP.cells _ _ _ h _ _ hk, .inl (by rw [hk]; exact fun e => by cases e)⟩
/-- A block of the iterator's own is written. -/
theorem Party.set (h : J pre G W) {b : Nat} {o o' : Obj} (hG : G b = some o) (hT : ∀ k, k ≠ b → W'.heap[k]? = W.heap[k]?) (hz : W'.heap.size = W.heap.size) (hos : W'.os = W.os) (htp : W'.tape = W.tape) (hou : W'.output = W.output) (ho : W'.heap[b]? = some o') (hc : o'.isCells = true) : J pre (G.put b o') W' :=
  hP.turn _ _ _ _ _ h ⟨hos, htp, hou, by rw [hz]; exact Nat.le_refl _, fun k _ hk => hT k (fun e => by subst e; rw [hG] at hk; cases hk)⟩ fun k o2 hk => by
    by_cases e : k = b
    · subst e
      rw [Priv.put_same] at hk
      obtain rfl := Option.some.inj hk
      exact ⟨ho, hc, .inl (by rw [hG]; exact fun e => by cases e)⟩
    · rw [Priv.put_other _ _ e] at hk
      exact ⟨(hT k e).trans (hP.lies _ _ _ h _ _ hk), hP.cells _ _ _ h _ _ hk, .inl (by rw [hk]; exact fun e => by cases e)⟩
theorem Party.setCell (h : J pre G W) {b : Nat} {cs : Array Value} {t : TypeId} {fr : Nat × Nat} (hG : G b = some (.cells cs t fr)) (i : Nat) (u : Value) (hput : (W.setCell ⟨b, i, Option.none⟩ u).heap[b]? = some (.cells (cs.setIfInBounds i u) t fr)) :
    J pre (G.put b (.cells (cs.setIfInBounds i u) t fr)) (W.setCell ⟨b, i, Option.none⟩ u) :=
  hP.set h hG (fun k hk => Below.heap_setCell _ _ _ _ hk) (by simp [World.setCell]) rfl rfl rfl hput rfl
end
/-- What an iterator gives: L, in order, while no round says 'no more'. -/
def Gives {α : Type} (P : Program) (gf : Nat) (lb : Array Value) (encs : α → Array Value) (L : List α) (K0 : World → Prop) : Prop :=
  ∀ (n l : Nat) (J : List α → Priv → World → Prop) (X : World → Prop) (W1 : World), Party J → (∀ pre G W, J pre G W → K0 W) →
    (∀ m pre x suf G W, L = pre ++ x :: suf → J pre G W → YieldAt Fence.wide m P l (encs x) W fun e W' => (e = .returned (.bool true) ∧ J (pre ++ [x]) G W') ∨ (e = .returned (.bool false) ∧ X W')) →
    J [] Priv.none W1 → CallsIn Fence.wide n P gf (#[.func (.yield l) #[] #[]] ++ lb) W1 fun e W' => (∃ v, e = .returned v) ∧ ((∃ G, J L G W') ∨ X W')

theorem range_g {α : Type} {n : Nat} {g : Operand} {ps : Array Tmp} {assign body : Code} {Q : Exit → Act → World → Prop} {a : Act} {w : World}
    (h1 : 1 ≤ n) {gf : Nat} {lb : Array Value} (hg : a.eval g = .func (.func gf) #[] lb) (eg : ∀ args w, (callFunc gf args).run P w = .ok (.enter gf args) w)
    (encs : α → Array Value) (hps : ∀ x, (encs x).size = ps.size) (L : List α) (K0 : World → Prop) (hgives : Gives P gf lb encs L K0)
    (J : List α → Priv → World → Prop) (hP : Party J) (hK : ∀ pre G W, J pre G W → K0 W) (hJo : OwnFrom w.heap.size (fun (s : List α × Priv) W => J s.1 s.2 W))
    (Ix : Code → List α × Priv → World → Prop) (hIx : ∀ c, OwnFrom w.heap.size (Ix c)) (h0 : J [] Priv.none w)
    (Ax : α → Act → World → Prop) (hAx : ∀ x a', OwnFrom w.heap.size (fun (_ : Unit) W => Ax x a' W))
    (hassign : ∀ (l : Nat) (pre : List α) (G : Priv) (x : α) (W : World) (K : Act → World → Prop), J pre G W → (∀ a' W', KeepsFrom w.heap.size W W' → J pre G W' → Ax x a' W' → K a' W') →
      assign.wpIn (Fence.wide.inRound l) (n - 1 - 1) P (Exit.then K (fun _ _ _ => False)) { tmps := (ps.zip (encs x)).foldl (fun t (p, v) => t.setIfInBounds p v) a.tmps, defers := [] } W)
    (hbody : ∀ (l : Nat) (pre : List α) (x : α) (suf : List α) (G : Priv) (a' : Act) (W : World), L = pre ++ x :: suf → J pre G W → Ax x a' W →
      body.wpIn (Fence.wide.inRound l) (n - 1 - 1) P (leftBy w.heap.size (fun (s : List α × Priv) W => J s.1 s.2 W) Ix (pre ++ [x], G) W) a' W)
    (hdone : ∀ (D : Nat) (G : Priv) (W : World), w.heap.size ≤ D → J L G W → W.heap[D]? = some (.deferred (some [])) → Q .normal { a with defers := { target := .collected D, args := #[] } :: a.defers } W)
    (hstop : ∀ (D : Nat) (c : Code) (s : List α × Priv) (W : World), w.heap.size ≤ D → Ix c s W → W.heap[D]? = some (.deferred (some [])) → c.wpIn Fence.wide n P Q { a with defers := { target := .collected D, args := #[] } :: a.defers } W) :
    (Code.rangeFunc g ps assign body).wpIn Fence.wide n P Q a w := by
  refine range_st (F := Fence.wide) (n := n) (σ := List α × Priv) (w := w) rfl h1 hg trivial eg encs hps (fun s x => (s.1 ++ [x], s.2)) (fun s x => ∃ suf, L = s.1 ++ x :: suf) (fun s => s.1 = L) (fun s W => J s.1 s.2 W) Ix hJo hIx ([], Priv.none) h0 Ax hAx
    (fun l s x W K hi hK => hassign l s.1 s.2 x W K hi hK) (fun l s x a' W hi hax hm => hm.elim fun suf hs => hbody l s.1 x suf s.2 a' W hs hi hax) ?_ (fun D s W hD hf hi hd => hdone D s.2 W hD (by rw [← hf]; exact hi) hd) (fun D c s W hD hi hd => hstop D c s W hD hi hd)
  intro l St Dn W1 hSt hDn hz1 hb1 hI1 hSt1 hY
  have hP2 : Party (fun pre G W => J pre G W ∧ St W) := by
    refine ⟨fun pre G W h => hP.lies _ _ _ h.1, fun pre G G' W W' h ht hG => ⟨hP.turn _ _ _ _ _ h.1 ht hG, hSt _ _ h.2 ⟨ht.size, fun k o _ hk hc => ?_⟩⟩, fun pre G W h => hP.cells _ _ _ h.1⟩
    refine (ht.block k (Array.getElem?_eq_some_iff.1 hk).1 ?_).trans hk
    cases e : G k with
    | none => rfl
    | some o' =>
      have e1 := hP.lies _ _ _ h.1 _ _ e
      rw [hk] at e1
      obtain rfl := Option.some.inj e1
      rw [hP.cells _ _ _ h.1 _ _ e] at hc
      cases hc
  refine (hgives (n - 1) l (fun pre G W => J pre G W ∧ St W) (fun W => ∃ c s, Ix c s W ∧ Dn c W) W1 hP2 (fun pre G W h => hK _ _ _ h.1) ?_ ⟨hI1, hSt1⟩).mono ?_
  · intro m pre x suf G W hL hj
    refine yield_any m ((hY (pre, G) x W hj.1 hj.2 ⟨suf, hL⟩).mono fun e W' h => ?_)
    rcases h with ⟨he, h1, h2⟩ | ⟨he, c, h1, h2⟩
    · exact .inl ⟨he, h1, h2⟩
    · exact .inr ⟨he, c, _, h1, h2⟩
  · rintro e W' ⟨hv, h⟩
    refine ⟨hv, ?_⟩
    rcases h with ⟨G, h1, h2⟩ | ⟨c, s, h1, h2⟩
    · exact .inl ⟨(L, G), rfl, h1, h2⟩
    · exact .inr ⟨c, s, h1, h2⟩
end Go.Proofs.Ytjbnffadfohofaa.RangeG
end
-- MERGED YtjbnffadfohofaaPPart2
section
-- Written by wip/myprint.py of this session, over the kit's print.py: a Lean function for each Go function, and the proof that the code comes to it.
namespace Go.Proofs.Ytjbnffadfohofaa.P
open Go.RowKit Go.Proofs.YtjbnffadfohofaaW.PrintWords Go.Proofs.YtjbnffadfohofaaW.PrintLast Go.Proofs.YtjbnffadfohofaaW.PrintMore
attribute [local go_sem] max2_int min2_int max_two min_two max_three min_three max_four min_four   -- for this text's walks alone
set_option linter.unusedVariables false
set_option linter.unusedSimpArgs false

theorem eqA49 (d : Nat) (w : World) (x0 y0 : Int) (x1 y1 : ByteArray) (x2 y2 : Int) :
    (Op.equalIn (d + 2) 49 (.agg #[.int .i64 x0, .string x1, .int .i64 x2]) (.agg #[.int .i64 y0, .string y1, .int .i64 y2])).run Try.prog w = .ok (x0 == y0 && (x1.toList == y1.toList && (x2 == y2))) w := by
  refine eqA_of Try.underlying49 (by kernel_rfl) ?_
  refine eqf_cons (by rfl) (by go_simp; rfl) (by go_simp; rfl) (by go_simp) ?_
  refine eqf_cons (by rfl) (by go_simp; rfl) (by go_simp; rfl) (by go_simp) ?_
  exact eqf_last (by rfl) (by go_simp; rfl) (by go_simp; rfl) (by go_simp)
end Go.Proofs.Ytjbnffadfohofaa.P
end
-- MERGED YtjbnffadfohofaaPeditkind
section
-- Written by wip/myprint.py of this session, over the kit's print.py: a Lean function for each Go function, and the proof that the code comes to it.
namespace Go.Proofs.Ytjbnffadfohofaa.P
open Go.RowKit Go.Proofs.YtjbnffadfohofaaW.PrintWords Go.Proofs.YtjbnffadfohofaaW.PrintLast Go.Proofs.YtjbnffadfohofaaW.PrintMore
attribute [local go_sem] max2_int min2_int max_two min_two max_three min_three max_four min_four   -- for this text's walks alone
set_option linter.unusedVariables false
set_option linter.unusedSimpArgs false

/-! ### edit_kind: function 52 -/
-- NEEDS Derived.Test.YtjbnffadfohofaaEditL
def edit_kind.f (a0_0 : Int) (a0_1 : ByteArray) (a0_2 : Int) : Option (Int) := some (EditL.knd ⟨a0_0, a0_1, a0_2⟩)
attribute [local go_sem high] eqA49
theorem edit_kind.lnil (s : ByteArray) (h : s.size ≠ 0) : (s.toList == ([] : List UInt8)) = false := by
  rw [beq_eq_false_iff_ne, ByteArray.toList_eq]
  intro e
  apply h
  show s.data.size = 0
  rw [← Array.length_toList, e]; rfl
set_option maxHeartbeats 8000000 in
set_option maxRecDepth 100000 in
theorem edit_kind.calls (a0_0 : Int) (a0_1 : ByteArray) (a0_2 : Int) (r : Int) (w : World) (h : edit_kind.f a0_0 a0_1 a0_2 = some r) :
    Calls Try.prog 52 #[.agg #[.int .i64 a0_0, .string a0_1, .int .i64 a0_2]] w fun e w' => e = .returned (.int .i64 r) ∧ Below w.heap.size w w' := by
  obtain rfl := Option.some.inj h
  clear h
  have HB := Aside0.mk (below_alloc (Below.refl w.heap.size w) (.cells #[.int .i64 a0_0, .string a0_1, .int .i64 a0_2] 49))
  obtain ⟨n, hn⟩ : ∃ n, n = a0_1.size := ⟨_, rfl⟩
  have HK := Aside0.mk (show ∀ x y : Int, x = a0_0 → y = a0_2 → EditL.knd ⟨a0_0, a0_1, a0_2⟩ = if 0 < x ∧ n = 0 ∧ y = 0 then 1 else if x = 0 ∧ n ≠ 0 ∧ y = 0 then 2 else if x = 0 ∧ n = 0 ∧ 0 < y then 3 else 0 from fun x y hx hy => by rw [hx, hy, hn]; rfl)
  have HN := Aside0.mk hn
  obtain ⟨K, hK⟩ : ∃ K, K = EditL.knd ⟨a0_0, a0_1, a0_2⟩ := ⟨_, rfl⟩
  rw [← hK] at HK ⊢
  clear hK hn
  have h0 : a0_0 < 0 ∨ a0_0 = 0 ∨ 0 < a0_0 := by omega
  have h2 : a0_2 < 0 ∨ a0_2 = 0 ∨ 0 < a0_2 := by omega
  by_cases h1 : a0_1.size = 0
  · have e1 : a0_1 = ⟨#[]⟩ := EditL.eq_E h1
    subst e1
    have HZ := Aside0.mk (HN.out.trans h1)
    clear h1 HN
    rcases h0 with h0 | rfl | h0
    all_goals rcases h2 with h2 | rfl | h2
    all_goals try have g0 : (a0_0 == 0) = false := by simp; omega
    all_goals try have g2 : (a0_2 == 0) = false := by simp; omega
    all_goals try have g0' : ¬ 0 < a0_0 := by omega
    all_goals try have g2' : ¬ 0 < a0_2 := by omega
    all_goals
      go_enter Try.func52, Try.ntmps52
      go_wp2_with fail
      go_ret
      refine ⟨?_, HB.out⟩
      refine congrArg (fun x : Int => Ending.returned (Value.int IntKind.i64 x)) ?_
      rw [HK.out _ _ rfl rfl]
      have := HZ.out
      clear HK HZ HB
      (repeat' split) <;> omega
  · have g1 := edit_kind.lnil a0_1 h1
    have HZ := Aside0.mk (show n ≠ 0 by rw [HN.out]; exact h1)
    clear h1 HN
    rcases h0 with h0 | rfl | h0
    all_goals rcases h2 with h2 | rfl | h2
    all_goals try have g0 : (a0_0 == 0) = false := by simp; omega
    all_goals try have g2 : (a0_2 == 0) = false := by simp; omega
    all_goals try have g0' : ¬ 0 < a0_0 := by omega
    all_goals try have g2' : ¬ 0 < a0_2 := by omega
    all_goals
      go_enter Try.func52, Try.ntmps52
      go_wp2_with fail
      go_ret
      refine ⟨?_, HB.out⟩
      refine congrArg (fun x : Int => Ending.returned (Value.int IntKind.i64 x)) ?_
      rw [HK.out _ _ rfl rfl]
      have := HZ.out
      clear HK HZ HB
      (repeat' split) <;> omega

end Go.Proofs.Ytjbnffadfohofaa.P
end
-- MERGED YtjbnffadfohofaaEditI
section
/- What EditR, PlaceI.. take of r2 EditJ, EditI, where edit.joined is not in the program (r6). -/
namespace Go.Proofs.Ytjbnffadfohofaa.EditJ
open Go.RowKit Go.Shelf Go.Proofs.Ytjbnffadfohofaa.P Go.Proofs.YtjbnffadfohofaaW.PrintWords Go.Proofs.YtjbnffadfohofaaW.PrintLast Go.Proofs.YtjbnffadfohofaaW.PrintMore Go.Proofs.Ytjbnffadfohofaa.Own Go.Proofs.Ytjbnffadfohofaa.EditL Go.Proofs.Ytjbnffadfohofaa.EditK
def rv (r : Rn) : Value := .agg #[.int .i64 r.f0, .string r.f1, .int .i64 r.f2]
def enc (r : Rn) : Array Value := #[.agg #[.int .i64 r.f0, .string r.f1, .int .i64 r.f2]]
def rcs (k : Int) (a : ByteArray) (d : Int) : Obj := .cells #[.int .i64 k, .string a, .int .i64 d] 49 (0, 0)
theorem blk_cells {W : World} {b : Nat} {k d : Int} {a : ByteArray} (h : W.heap[b]? = some (rcs k a d)) : W.cell? ⟨b, 0, none⟩ = some (.int .i64 k) ∧ W.cell? ⟨b, 1, none⟩ = some (.string a) ∧ W.cell? ⟨b, 2, none⟩ = some (.int .i64 d) := by
  unfold rcs at h
  exact ⟨by rw [cell_of_row W _ 0 _ _ _ h]; rfl, by rw [cell_of_row W _ 1 _ _ _ h]; rfl, by rw [cell_of_row W _ 2 _ _ _ h]; rfl⟩
end Go.Proofs.Ytjbnffadfohofaa.EditJ
namespace Go.Proofs.Ytjbnffadfohofaa.EditI
open Go.RowKit Go.Shelf Go.Proofs.Ytjbnffadfohofaa.P Go.Proofs.YtjbnffadfohofaaW.PrintWords Go.Proofs.YtjbnffadfohofaaW.PrintLast Go.Proofs.YtjbnffadfohofaaW.PrintMore Go.Proofs.Ytjbnffadfohofaa.Own Go.Proofs.Ytjbnffadfohofaa.EditL Go.Proofs.Ytjbnffadfohofaa.EditK Go.Proofs.Ytjbnffadfohofaa.RangeG Go.Proofs.Ytjbnffadfohofaa.EditJ
attribute [local go_sem] Oper.semAt_some
attribute [local go_sem high] eqA49
set_option linter.unusedSimpArgs false
set_option linter.unusedVariables false

theorem kind_c (r : Rn) (w : World) : Calls Try.prog 52 #[.agg #[.int .i64 r.f0, .string r.f1, .int .i64 r.f2]] w fun e w' => e = .returned (.int .i64 (knd r)) ∧ Below w.heap.size w w' := edit_kind.calls _ _ _ _ w rfl
/-- What the iterator reads: its runs, in a box. -/
def Held (A : Option Addr) (c T : Nat) (f : List Rn) (W : World) : Prop := W.heap[T]? = some (.cells #[.slice A f.length c] 34 (0, 0)) ∧ Kd.C k49 W A f.length f
theorem E_add (s : ByteArray) : E ++ s = s := by
  apply ByteArray.ext
  simp [E]
theorem size_add (a b : ByteArray) : (a ++ b).size = a.size + b.size := ByteArray.size_append ..
structure Sums (k d : Int) (a : ByteArray) (l : List Rn) : Prop where
  k0 : 0 ≤ k
  d0 : 0 ≤ d
  i : k + d + inL l ≤ 16777216
  o : k + (a.size : Int) + outL l ≤ 16777216
end Go.Proofs.Ytjbnffadfohofaa.EditI
end
-- MERGED YtjbnffadfohofaaVaryR0
section
/- All but one block is as it was: small words (for seats that read no numbers). -/
namespace Go.Proofs.Ytjbnffadfohofaa.VaryR
open Go.RowKit
abbrev But (g : Nat) (w w' : World) : Prop := w.grownBy w' (some g)
theorem But.refl (g : Nat) (w : World) : But g w w := ⟨rfl, rfl, rfl, Nat.le_refl _, fun _ _ _ => rfl⟩
theorem But.trans {g : Nat} {w w1 w2 : World} (h : But g w w1) (h2 : But g w1 w2) : But g w w2 :=
  ⟨h2.os.trans h.os, h2.tape.trans h.tape, h2.output.trans h.output, Nat.le_trans h.size h2.size, fun k hk hn => (h2.block k (Nat.lt_of_lt_of_le hk h.size) hn).trans (h.block k hk hn)⟩
end Go.Proofs.Ytjbnffadfohofaa.VaryR
end
-- MERGED YtjbnffadfohofaaEditR
section
/- Rows of runs that grow; the state of a loop that collects what an iterator gives. -/
namespace Go.Proofs.Ytjbnffadfohofaa.EditR
open Go.RowKit Go.Shelf Go.Proofs.Ytjbnffadfohofaa.P Go.Proofs.YtjbnffadfohofaaW.PrintWords Go.Proofs.YtjbnffadfohofaaW.PrintLast Go.Proofs.YtjbnffadfohofaaW.PrintMore Go.Proofs.Ytjbnffadfohofaa.Own Go.Proofs.Ytjbnffadfohofaa.EditL Go.Proofs.Ytjbnffadfohofaa.EditK Go.Proofs.Ytjbnffadfohofaa.RangeG Go.Proofs.Ytjbnffadfohofaa.EditJ Go.Proofs.Ytjbnffadfohofaa.EditI Go.Proofs.Ytjbnffadfohofaa.VaryR
set_option linter.unusedSimpArgs false
set_option linter.unusedVariables false

def rcells (l : List Rn) : List Value := l.flatMap fun r => [.int .i64 r.f0, .string r.f1, .int .i64 r.f2]
theorem rcells_length (l : List Rn) : (rcells l).length = l.length * 3 := by
  unfold rcells
  induction l with
  | nil => rfl
  | cons p l ih => rw [List.flatMap_cons, List.length_append, ih, List.length_cons]; simp; omega
theorem rcells_snoc (l : List Rn) (r : Rn) : rcells (l ++ [r]) = rcells l ++ [.int .i64 r.f0, .string r.f1, .int .i64 r.f2] := by simp [rcells]
theorem rcells_at (l : List Rn) : ∀ (j : Nat) (r : Rn), l[j]? = some r → ((rcells l).drop (j * 3)).take 3 = [.int .i64 r.f0, .string r.f1, .int .i64 r.f2] := by
  induction l with
  | nil => intro j r h; simp at h
  | cons p l ih =>
    intro j r h
    have e : rcells (p :: l) = [.int .i64 p.f0, .string p.f1, .int .i64 p.f2] ++ rcells l := rfl
    cases j with
    | zero =>
      obtain rfl : p = r := by simpa using h
      rw [e]; simp
    | succ j =>
      have h2 : l[j]? = some r := by simpa using h
      rw [e, show (j + 1) * 3 = 3 + j * 3 by omega, ← List.drop_drop]
      exact ih j r h2
/-- A row of runs of the call's own. -/
abbrev RO (w : World) (B : Nat) (v : Value) (l : List Rn) : Prop := w.ownsRow B 49 3 v l.length (rcells l)
theorem RO.R {w : World} {B : Nat} {v : Value} {l : List Rn} (h : RO w B v l) : Kd.R k49 49 w B (fun _ => True) v l :=
  ⟨fun _ _ => trivial, rcells l, h, by rw [rcells_length]; rfl, fun j p hj => by
    have e := rcells_at l j p hj
    show k49.M _ _ _ p (((rcells l).drop (j * 3)).take 3)
    rw [e]; exact k49_mkM _ _ _ p⟩
theorem RO.below {w w' : World} {B : Nat} {v : Value} {l : List Rn} (h : RO w B v l) (hb : Below w.heap.size w w') : RO w' B v l := own_move h fun k hk => hb.block k (own_lt h k hk)
/-- A row of runs that is read. -/
def RC (w : World) (A : Option Addr) (l : List Rn) : Prop := Kd.C k49 w A l.length l
theorem RC.below {w w' : World} {A : Option Addr} {l : List Rn} (h : RC w A l) (hb : Below w.heap.size w w') : RC w' A l := Kd.C_below h hb
theorem _root_.Go.Boxed.below {W W' : World} {B : Nat} {t : TypeId} {v : Value} (h : Boxed W B t v) (hb : Below W.heap.size W W') : Boxed W' B t v := (hb.block B h.lt).trans h
theorem C_same {w w' : World} {A : Option Addr} {n : Nat} {xs : List Rn} (h : Kd.C k49 w A n xs) (hs : ∀ ad, A = some ad → 0 < n → w'.heap[ad.block]? = w.heap[ad.block]?) : Kd.C k49 w' A n xs := by
  refine ⟨h.1, h.2.1, fun hp => ?_⟩
  obtain ⟨ad, e, hr⟩ := h.2.2 hp
  refine ⟨ad, e, fun j p hj => ?_⟩
  obtain ⟨c, h1, h2, h3⟩ := hr j p hj
  refine ⟨c, h1, ?_, fun i u hu => ?_⟩
  · obtain rfl := k49_open h2
    exact k49_mk _ p
  · refine (World.cell?_of_block ?_).trans (h3 i u hu)
    have hb : ∀ m, (ad.add m).block = ad.block := fun m => by unfold Addr.add; split <;> rfl
    rw [hb]
    exact hs ad e hp
theorem RC.lt {w : World} {A : Option Addr} {l : List Rn} (h : RC w A l) : ∀ ad, A = some ad → 0 < l.length → ad.block < w.heap.size := by
  intro ad e hp
  obtain ⟨ad2, e2, h0, _⟩ := at_nat h 0 hp
  rw [e] at e2
  obtain rfl := Option.some.inj e2
  have := World.block_lt_of_cell? w _ h0
  rwa [show (ad.add (0 * 3)).block = ad.block by unfold Addr.add; split <;> rfl] at this
theorem infoRn : (Try.prog.info? 49).map (fun i => (i.zero, i.size, i.bytes)) = some (some (.agg #[.int .i64 0, .string ⟨#[]⟩, .int .i64 0]), 3, 32) := by kernel_rfl
theorem cells3_new (W : World) (a b c : Value) (T : TypeId) : ∀ (j : Nat) (u : Value), [a, b, c][j]? = some u → (W.alloc (.cells #[a, b, c] T)).cell? ((⟨W.heap.size, 0, none⟩ : Addr).add j) = some u := by
  intro j u h
  have e : ((⟨W.heap.size, 0, none⟩ : Addr).add j) = ⟨W.heap.size, j, none⟩ := by simp [Addr.add]; exact fun h => h.symm
  rw [e, cell_of_row _ _ j _ _ _ (Own.heap_new W (.cells #[a, b, c] T))]
  simpa using h
/-- What an append of one run comes to. -/
structure Grew (W w' : World) (B : Nat) (v v' : Value) (xs : List Rn) (r : Rn) : Prop where
  own : RO w' B v' (xs ++ [r])
  grown : W.grownBy w' v.ownBlock
  at_ : v'.ownBlock = v.ownBlock ∨ ∃ b, v'.ownBlock = some b ∧ W.heap.size ≤ b
  form : ∃ g cap, v' = .slice (some ⟨g, 0, none⟩) (xs.length + 1) cap
theorem exec_run {P : Program} (hP : P = Try.prog) {W : World} {f : Operand → Value} {o : Oper} {s x : Operand} (hop : o.op = Op.call { callee := Callee.builtin Builtin.append, args := #[s, x], argTypes := #[34, 34] })
    {B : Nat} (hB : B ≤ W.heap.size) {v : Value} {xs : List Rn} (hs : f s = v) (hx : RO W B v xs) (r : Rn)
    (he : f x = .slice (some ⟨W.heap.size, 0, none⟩) 1 1) (hl : xs.length + 1 ≤ 4398046511104) :
    ∃ v' w', (execOp f o).run P (W.alloc (.cells #[.int .i64 r.f0, .string r.f1, .int .i64 r.f2] 49)) = .ok (.value v') w' ∧ Grew W w' B v v' xs r := by
  subst hP
  obtain ⟨i0, hi0, hz0, hz1, hz2⟩ := info_parts infoRn
  obtain ⟨tmp, ht⟩ : ∃ tmp : Obj, tmp = .cells #[.int .i64 r.f0, .string r.f1, .int .i64 r.f2] 49 := ⟨_, rfl⟩
  have hxa := hx.alloc tmp
  have hnew := cells3_new W (.int .i64 r.f0) (.string r.f1) (.int .i64 r.f2) 49
  rw [← ht] at hnew ⊢
  obtain ⟨v', w', hrun, h1, h2, h3, h4⟩ := run_append_own_at (P := Try.prog) (w := W.alloc tmp) B 34 o.type 49 i0 _ 3 32 Try.underlying34 hi0 hz0 hz1 hz2 rfl (by decide) v xs.length (rcells xs) hxa ⟨W.heap.size, 0, none⟩ 1 1 [.int .i64 r.f0, .string r.f1, .int .i64 r.f2] rfl hnew (by simp [Value.oneCell']) (by unfold maxLen; omega) (by omega) (by simp; omega)
  refine ⟨v', w', ?_, ⟨?_, ?_, ?_, ?_⟩⟩
  · simp [execOp, hop, resolve, invoke, builtin, hs, he, hrun, Result.andThen]
  · show w'.ownsRow B _ 3 v' (xs ++ [r]).length (rcells (xs ++ [r]))
    rw [List.length_append, rcells_snoc]; exact h1
  · exact ⟨h2.os, h2.tape, h2.output, by have := h2.size; simp at this; omega, fun k hk hn => (h2.block k (by simp; omega) hn).trans (Own.heap_old W tmp k hk)⟩
  · rcases h4 with h4 | h4
    · exact .inl h4
    · exact .inr ⟨_, h4, by simp⟩
  · exact ownsRow_succ h1
theorem wpList_run {ops : Array Oper} {rest : List Oper} {o : Oper} {a : Act} {W : World} {Q : Exit → Act → World → Prop} {s x : Operand} (hg : o.guard = none)
    (hop : o.op = Op.call { callee := Callee.builtin Builtin.append, args := #[s, x], argTypes := #[34, 34] })
    {B : Nat} (hB : B ≤ W.heap.size) {v : Value} {xs : List Rn} (hs : a.eval s = v) (hx : RO W B v xs) (r : Rn) (he : a.eval x = .slice (some ⟨W.heap.size, 0, none⟩) 1 1) (hl : xs.length + 1 ≤ 4398046511104)
    (hK : ∀ v' w', Grew W w' B v v' xs r → wpList Try.prog ops Q rest (a.put o.dst v') w') :
    wpList Try.prog ops Q (o :: rest) a (W.alloc (.cells #[.int .i64 r.f0, .string r.f1, .int .i64 r.f2] 49)) := by
  obtain ⟨v', w', hrun, h⟩ := exec_run rfl (o := o) (f := a.eval) hop hB hs hx r he hl
  refine wpList_plain hg fun K hK' => ?_
  unfold Oper.wp
  rw [hrun]
  exact hK' _ _ (hK v' w' h)
theorem wpListIn_run {F : Fence} {n : Nat} {ops : Array Oper} {rest : List Oper} {o : Oper} {a : Act} {W : World} {Q : Exit → Act → World → Prop} {s x : Operand} (hg : o.guard = none)
    (hop : o.op = Op.call { callee := Callee.builtin Builtin.append, args := #[s, x], argTypes := #[34, 34] })
    {B : Nat} (hB : B ≤ W.heap.size) {v : Value} {xs : List Rn} (hs : a.eval s = v) (hx : RO W B v xs) (r : Rn) (he : a.eval x = .slice (some ⟨W.heap.size, 0, none⟩) 1 1) (hl : xs.length + 1 ≤ 4398046511104)
    (hK : ∀ v' w', Grew W w' B v v' xs r → wpListIn F n Try.prog ops Q rest (a.put o.dst v') w') :
    wpListIn F n Try.prog ops Q (o :: rest) a (W.alloc (.cells #[.int .i64 r.f0, .string r.f1, .int .i64 r.f2] 49)) := by
  obtain ⟨v', w', hrun, h⟩ := exec_run rfl (o := o) (f := a.eval) hop hB hs hx r he hl
  refine wpListIn_plain hg fun K hK' => ?_
  unfold Oper.wpIn
  refine ⟨by simp [Oper.about, hop, resolve, Target.leads, Sem.run_pure], ?_⟩
  rw [Oper.semAt_plain F _ _ (by rw [hop]; intro c hc'; cases hc'), hrun]
  exact hK' _ _ (hK v' w' h)
theorem grownBy_setCell (W : World) (b o : Nat) (v : Value) : W.grownBy (W.setCell ⟨b, o, none⟩ v) (some b) :=
  ⟨rfl, rfl, rfl, by simp, fun k _ hk => Below.heap_setCell _ _ _ k (fun e => hk (by rw [e]))⟩

/-! The loop 'for r := range it { out = append(out, r) }'; out lies in the box O. -/
structure Jc (w0 : World) (O : Nat) (pre : List Rn) (G : Priv) (W : World) : Prop where
  row : ∃ o, Boxed W O 34 o ∧ RO W w0.heap.size o pre ∧ ∀ k, G k ≠ none → o.ownBlock ≠ some k
  but : But O w0 W
  priv : ∀ k ob, G k = some ob → W.heap[k]? = some ob ∧ ob.isCells = true ∧ w0.heap.size ≤ k
theorem jc_party {w0 : World} {O : Nat} (hO : O < w0.heap.size) : Party (Jc w0 O) := by
  refine ⟨fun pre G W h k o hk => (h.priv k o hk).1, fun pre G G' W W' h ht hG => ?_, fun pre G W h k o hk => (h.priv k o hk).2.1⟩
  obtain ⟨o, hb, hr, hn⟩ := h.row
  have hGO : G O = none := by
    cases e : G O with
    | none => rfl
    | some q => have := (h.priv O q e).2.2; omega
  have hGr : ∀ k, o.ownBlock = some k → G k = none := fun k hk => by
    cases e : G k with
    | none => rfl
    | some q => exact absurd hk (hn k (by rw [e]; exact fun h => by cases h))
  refine ⟨⟨o, (ht.block O hb.lt hGO).trans hb, own_move hr (fun k hk => ht.block k (own_lt hr k hk) (hGr k hk)), fun k hk => ?_⟩, ?_, fun k ob hk => ?_⟩
  · cases e : G' k with
    | none => exact absurd e hk
    | some q =>
      rcases (hG k q e).2.2 with h1 | h1
      · exact hn k h1
      · intro h2; have := own_lt hr k h2; omega
  · refine ⟨ht.os.trans h.but.os, ht.tape.trans h.but.tape, ht.output.trans h.but.output, Nat.le_trans h.but.size ht.size, fun k hk hne => ?_⟩
    refine (ht.block k (Nat.lt_of_lt_of_le hk h.but.size) ?_).trans (h.but.block k hk hne)
    cases e : G k with
    | none => rfl
    | some q => have := (h.priv k q e).2.2; omega
  · obtain ⟨h1, h2, h3⟩ := hG k ob hk
    refine ⟨h1, h2, ?_⟩
    rcases h3 with h3 | h3
    · cases e : G k with
      | none => exact absurd e h3
      | some q => exact (h.priv k q e).2.2
    · exact Nat.le_trans h.but.size h3
theorem jc_own {w0 : World} {O B : Nat} (hB : w0.heap.size ≤ B) : OwnFrom B (fun (s : List Rn × Priv) W => Jc w0 O s.1 s.2 W) := by
  intro s W W' row h hg hr
  obtain ⟨o, hb, hrow, hn⟩ := h.row
  have hne : ∀ (k : Nat) (q : Obj), W.heap[k]? = some q → q.isCells = true → some k ≠ row := fun k q hk hc e => by
    obtain ⟨_, q', h1, h2⟩ := hr k e.symm
    rw [hk] at h1
    cases h1
    rw [hc] at h2; cases h2
  refine ⟨⟨o, hb.kept hg (hne _ _ hb rfl), own_move hrow (fun k hk => ?_), hn⟩, ?_, fun k ob hk => ?_⟩
  · obtain ⟨cells, hc⟩ := own_typed hrow k hk
    exact hg.block k (own_lt hrow k hk) (hne _ _ hc rfl)
  · exact ⟨hg.os.trans h.but.os, hg.tape.trans h.but.tape, hg.output.trans h.but.output, Nat.le_trans h.but.size hg.size, fun k hk hn => (hg.block k (Nat.lt_of_lt_of_le hk h.but.size) (fun e => by have := (hr k e.symm).1; omega)).trans (h.but.block k hk hn)⟩
  · obtain ⟨h1, h2, h3⟩ := h.priv k ob hk
    exact ⟨(hg.block k (Array.getElem?_eq_some_iff.1 h1).1 (hne _ _ h1 h2)).trans h1, h2, h3⟩
/-- A round's append and store. -/
theorem jc_step {w0 : World} {O : Nat} {pre : List Rn} {G : Priv} {W w1 : World} {o v' : Value} {r : Rn} (hO : O < w0.heap.size) (hb : Boxed W O 34 o) (hrow : RO W w0.heap.size o pre) (hn : ∀ k, G k ≠ none → o.ownBlock ≠ some k) (hbut : But O w0 W)
    (hpriv : ∀ k ob, G k = some ob → W.heap[k]? = some ob ∧ ob.isCells = true ∧ w0.heap.size ≤ k) (hg : Grew W w1 w0.heap.size o v' pre r) :
    Boxed w1 O 34 o ∧ KeepsOthers W (w1.setCell ⟨O, 0, none⟩ v') ∧ Jc w0 O (pre ++ [r]) G (w1.setCell ⟨O, 0, none⟩ v') := by
  have hne : some O ≠ o.ownBlock := hb.not_row (by decide) hrow
  have hb1 : Boxed w1 O 34 o := hb.kept hg.grown hne
  have hN : w0.heap.size ≤ W.heap.size := hbut.size
  have hko : KeepsOthers W w1 := KeepsOthers.of_grownBy hg.grown fun j q ej hj => by
    obtain ⟨cells, hc⟩ := own_typed hrow j ej
    rw [hc] at hj
    cases hj; rfl
  have hv' : ∀ k, G k ≠ none → v'.ownBlock ≠ some k := fun k hk e => by
    rcases hg.at_ with h | ⟨b, h1, h2⟩
    · exact hn k hk (h ▸ e)
    · rw [h1] at e
      cases e
      cases e2 : G k with
      | none => exact hk e2
      | some q =>
        have := (Array.getElem?_eq_some_iff.1 (hpriv k q e2).1).1
        omega
  refine ⟨hb1, hko.trans (KeepsOthers.setCell _ _ _), ⟨⟨v', hb1.set v', hg.own.kept (grownBy_setCell' w1 O v') (.inr (hb1.not_row (by decide) hg.own).symm), hv'⟩, ?_, fun k ob hk => ?_⟩⟩
  · refine ⟨hg.grown.os.trans hbut.os, hg.grown.tape.trans hbut.tape, hg.grown.output.trans hbut.output, ?_, fun k hk hnk => ?_⟩
    · have := hg.grown.size; simp; omega
    · rw [Below.heap_setCell w1 ⟨O, 0, none⟩ v' k (fun e => hnk (by rw [e]))]
      exact (hg.grown.block k (by omega) (fun e => by have := (own_base hrow k e.symm); omega)).trans (hbut.block k hk hnk)
  · obtain ⟨h1, h2, h3⟩ := hpriv k ob hk
    refine ⟨?_, h2, h3⟩
    rw [Below.heap_setCell w1 ⟨O, 0, none⟩ v' k (by show k ≠ O; omega)]
    exact (hg.grown.block k (Array.getElem?_eq_some_iff.1 h1).1 (fun e => hn k (by rw [hk]; exact fun h => by cases h) e.symm)).trans h1
theorem results_c1 {fn : Func} {p : Tmp} {ty e : TypeId} {P : Program} (h : fn.results = #[.cell p ty]) (tmps : Array Value) (w : World) (g : Nat) (v : Value) (hp : tmps.getD p undef = .pointer (some ⟨g, 0, none⟩)) (hu : P.underlying ty = some (.slice e)) (hc : w.cell? ⟨g, 0, none⟩ = some v) : (results fn tmps).run P w = .ok v w := by
  have hp' : tmps[p]?.getD undef = .pointer (some ⟨g, 0, none⟩) := by simpa using hp
  have ha : (isAgg ty).run P w = .ok false w := by simp [isAgg, run_underlying hu, Sem.run_bind, Result.andThen]
  simp [results, h, hp', asAddr, loadVar, ha, hc, Sem.run_bind, Result.andThen, go_sem]
end Go.Proofs.Ytjbnffadfohofaa.EditR
end

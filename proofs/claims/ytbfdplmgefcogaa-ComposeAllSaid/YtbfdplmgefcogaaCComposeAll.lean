import Derived.Test.YtbfdplmgefcogaaRows
import Derived.Test.YtbfdplmgefcogaaCD
import Derived.Test.YtbfdplmgefcogaaCE
import Derived.Test.YtbfdplmgefcogaaCA
import Derived.Test.YtbfdplmgefcogaaCB
import Derived.Test.YtbfdplmgefcogaaCW
import Derived.Test.YtbfdplmgefcogaaWWords
import Derived.Test.YtbfdplmgefcogaaWMore
import Derived.Deep.Slices
import Derived.ChangeArms
import Derived.OpenShut
import Derived.ShutString
import Derived.WalkKit
import Derived.ProofKit
import Derived.ChangeOld
import Derived.Below
import Derived.SizedLaws
import Derived.Test.YtbfdplmgefcogaaWSized
-- MERGED YtbfdplmgefcogaaSameF
section

namespace Go.Proofs.Ytbfdplmgefcogaa.SameF
open Go.RowKit Go.Proofs.Ytbfdplmgefcogaa.P Go.Proofs.YtbfdplmgefcogaaW.PrintWords Go.Proofs.YtbfdplmgefcogaaW.PrintLast Go.Proofs.YtbfdplmgefcogaaW.PrintMore Go.Proofs.Ytbfdplmgefcogaa.EditL Go.Proofs.Ytbfdplmgefcogaa.EditK
set_option linter.unusedSimpArgs false
set_option linter.unusedVariables false
theorem tl_inj {a b : ByteArray} (h : a.toList = b.toList) : a = b := by
 rw [ByteArray.toList_eq, ByteArray.toList_eq] at h
 obtain ⟨⟨x⟩⟩ := a
 obtain ⟨⟨y⟩⟩ := b
 have : x = y := h
 rw [this]
theorem run_ne {x y : Rn} : (!(x.f0 == y.f0) || (!(x.f1.toList == y.f1.toList) || (!(x.f2 == y.f2)))) = true ↔ x ≠ y := by
 rw [Bool.or_eq_true, Bool.or_eq_true, Bool.not_eq_true', Bool.not_eq_true', Bool.not_eq_true', beq_eq_false_iff_ne, beq_eq_false_iff_ne, beq_eq_false_iff_ne]
 obtain ⟨a, b, c⟩ := x
 obtain ⟨a', b', c'⟩ := y
 simp only
 constructor
 ·rintro h e
  injection e with e1 e2 e3
  subst e1; subst e2; subst e3
  rcases h with h | h | h <;> exact h rfl
 ·intro h
  by_cases h1 : a = a'
  ·by_cases h3 : c = c'
   ·refine .inr (.inl fun e => h ?_)
    rw [h1, h3, tl_inj e]
   ·exact .inr (.inr h3)
  ·exact .inl h1
theorem same_l (x y : List Rn) (hx : x.length ≤ 140737488351232) : ∀ (s t pre pre' : List Rn) (k : Nat), x = pre ++ s → y = pre' ++ t → pre.length = pre'.length → s.length = t.length → s.length < k →
  ∃ b, variorumref06_Same.l0 k x y (pre.length : Int) = some b ∧ (b = true ↔ s = t) := by
 intro s
 induction s with
 | nil =>
  intro t pre pre' k hxe hye hpp hst hk
  obtain ⟨k, rfl⟩ : ∃ m, k = m + 1 := ⟨k - 1, by omega⟩
  obtain rfl : t = [] := List.eq_nil_of_length_eq_zero hst.symm
  have : x.length = pre.length := by rw [hxe]; simp
  simp only [variorumref06_Same.l0]
  rw [if_neg (by omega)]
  exact ⟨true, rfl, by simp⟩
 | cons r s ih =>
  intro t pre pre' k hxe hye hpp hst hk
  obtain ⟨k, rfl⟩ : ∃ m, k = m + 1 := ⟨k - 1, by omega⟩
  cases t with
  | nil => simp at hst
  | cons q t =>
   obtain ⟨hl2, hn, hlt⟩ := snoc hxe
   obtain ⟨hl2', hn', hlt'⟩ := snoc hye
   obtain ⟨b, hb, hb2⟩ := ih t (pre ++ [r]) (pre' ++ [q]) k hl2 hl2' (by simp [hpp]) (by simpa using hst) (by simp at hk; omega)
   rw [hn] at hb
   simp only [variorumref06_Same.l0]
   rw [if_pos hlt, if_pos (by omega), if_pos (by omega), rd_at hxe, w64 (x := (pre.length : Int) + 1) (by omega) (by omega), hb]
   have e2 : rd_T43 y (pre.length : Int) = q := by rw [hpp]; exact rd_at hye
   rw [e2]
   by_cases h : r = q
   ·rw [if_neg (fun h2 => run_ne.1 h2 h)]
    exact ⟨b, rfl, by rw [hb2]; simp [h]⟩
   ·rw [if_pos (run_ne.2 h)]
    exact ⟨false, rfl, by simp [h]⟩
theorem same_f {x y : List Rn} (hx : x.length ≤ 140737488351232) (k : Nat) (hk : x.length < k) : ∃ b, variorumref06_Same.f k x y = some b ∧ (b = true ↔ x = y) := by
 unfold variorumref06_Same.f
 by_cases h : x.length = y.length
 ·rw [if_pos (by omega)]
  exact same_l x y hx x y [] [] k rfl rfl rfl h hk
 ·rw [if_neg (by omega)]
  exact ⟨false, rfl, by simp; intro e; exact h (by rw [e])⟩
theorem same_eq (x : List Rn) (hx : x.length ≤ 140737488351232) (k : Nat) (hk : x.length < k) : variorumref06_Same.f k x x = some true := by
 obtain ⟨b, h1, h2⟩ := same_f (y := x) hx k hk
 rw [h1, h2.2 rfl]
end Go.Proofs.Ytbfdplmgefcogaa.SameF
end
-- MERGED YtbfdplmgefcogaaPvariorumlaw06Light
section

namespace Go.Proofs.Ytbfdplmgefcogaa.P
open Go.RowKit Go.Proofs.YtbfdplmgefcogaaW.PrintWords Go.Proofs.YtbfdplmgefcogaaW.PrintLast Go.Proofs.YtbfdplmgefcogaaW.PrintMore
attribute [local go_sem] max2_int min2_int max_two min_two max_three min_three max_four min_four
set_option linter.unusedVariables false
set_option linter.unusedSimpArgs false
def variorumlaw06_Light.l0 : Nat → List (S43) → Int → Int → Option (Bool)
 | 0, _, _, _ => none
 | k + 1, x8, x9, x10 => if x10 < x9 then (if 0 ≤ x10 then (if x10 < (x8.length : Int) then (if (((rd_T43 x8 x10).f1).size : Int) > 200 then (some false) else (variorumlaw06_Light.l0 k x8 x9 (wrap64 (x10 + 1)))) else (none)) else (none)) else (some true)
def variorumlaw06_Light.f (k : Nat) (l0 : List (S43)) : Option (Bool) := if (l0.length : Int) > 100 then (some false) else (variorumlaw06_Light.l0 k l0 (l0.length : Int) 0)
theorem variorumlaw06_Light.mono_l : ∀ k, (∀ y0 y1 y2, LeO (variorumlaw06_Light.l0 k y0 y1 y2) (variorumlaw06_Light.l0 (k + 1) y0 y1 y2))
 | 0 => fun _ _ _ r h => by simp [variorumlaw06_Light.l0] at h
 | k + 1 => by
  have ih0 := variorumlaw06_Light.mono_l k
  ·intro y0 y1 y2
   unfold variorumlaw06_Light.l0
   repeat' first | (with_reducible exact ih0 _ _ _) | (with_reducible exact LeO.refl _) | (with_reducible refine LeO.ite ?_ ?_)
theorem variorumlaw06_Light.mono : ∀ a0 k, LeO (variorumlaw06_Light.f k a0) (variorumlaw06_Light.f (k + 1) a0) := by
 intro a0 k
 have ih0 := variorumlaw06_Light.mono_l k
 unfold variorumlaw06_Light.f
 repeat' first | (with_reducible exact ih0 _ _ _) | (with_reducible exact LeO.refl _) | (with_reducible refine LeO.ite ?_ ?_)
set_option maxHeartbeats 8000000 in
set_option maxRecDepth 100000 in
theorem variorumlaw06_Light.calls (k : Nat) (A0 : Option Addr) (c0 : Nat) (l0 : List (S43)) (r : Bool) (w : World) (hr0 : Kd.C k43 w A0 l0.length l0) (hc0 : l0.length ≤ c0) (h : variorumlaw06_Light.f k l0 = some r) :
  Calls Try.prog 19 #[.slice A0 l0.length c0] w fun e w' => e = .returned (.bool r) ∧ Below w.heap.size w w' := by
 have hu43 := Try.underlying43
 have HR0 := Aside0.mk hr0
 have HC0 := Aside0.mk hc0
 clear hr0 hc0
 have HB := Aside0.mk (Below.refl w.heap.size w)
 have H : (if (l0.length : Int) > 100 then (some false) else (variorumlaw06_Light.l0 k l0 (l0.length : Int) 0)) = some r := h
 clear h
 by_cases c2 : (l0.length : Int) > 100
 ·rw [if_pos c2] at H
  have c2b0 : decide (100 < (l0.length : Int)) = true := decide_eq_true c2
  have c2b1 : decide (100 < l0.length) = true := decide_eq_true (by omega)
  clear c2
  obtain rfl := Option.some.inj H
  go_enter Try.func19, Try.ntmps19
  go_wp2
  go_ret
  exact ⟨by (rfl), by repeat ((with_reducible (exact HB.out)))⟩
 ·rw [if_neg c2] at H
  have c2b0 : decide (100 < (l0.length : Int)) = false := decide_eq_false c2
  have c2b1 : decide (100 < l0.length) = false := decide_eq_false (by omega)
  clear c2
  have H' := Aside0.mk H
  clear H
  go_enter Try.func19, Try.ntmps19
  go_wp2
  go_loopg [10] k (fun kq v10 w' => ∃ (x10_1 : Int), v10 = .int .i64 x10_1 ∧ Aside0 (variorumlaw06_Light.l0 kq l0 (l0.length : Int) x10_1 = some r) ∧ Aside0 (kq ≤ k) ∧ Aside0 (Below w.heap.size w w'))
  case atStart => exact ⟨(0), (by (rfl)), H', ⟨Nat.le_refl _⟩, ⟨by repeat ((with_reducible (exact HB.out)))⟩⟩
  case round =>
   clear H'
   try clear c1
   try clear c2
   try clear c2b0
   try clear c2b1
   try clear p2
   obtain ⟨x10_1, rfl, HA, HK1, HB⟩ := hrel
   cases gk with
   | zero => exact absurd HA.out (by simp [variorumlaw06_Light.l0])
   | succ k1 =>
    have H := HA.out
    clear HA
    simp only [variorumlaw06_Light.l0] at H
    by_cases c3 : x10_1 < (l0.length : Int)
    ·rw [if_pos c3] at H
     have c3b0 : decide (x10_1 < (l0.length : Int)) = true := decide_eq_true c3
     clear c3
     by_cases c4 : 0 ≤ x10_1
     ·rw [if_pos c4] at H
      have c4b0 : decide (0 ≤ x10_1) = true := decide_eq_true c4
      clear c4
      by_cases c5 : x10_1 < (l0.length : Int)
      ·rw [if_pos c5] at H
       have c5b0 : decide (x10_1 < (l0.length : Int)) = true := decide_eq_true c5
       clear c5
       by_cases c6 : (((rd_T43 l0 x10_1).f1).size : Int) > 200
       ·rw [if_pos c6] at H
        have c6b0 : decide (200 < (((rd_T43 l0 x10_1).f1).size : Int)) = true := decide_eq_true c6
        have c6b1 : decide (200 < ((rd_T43 l0 x10_1).f1).size) = true := decide_eq_true (by omega)
        clear c6
        obtain rfl := Option.some.inj H
        have p101 : 0 ≤ (x10_1 : Int) := of_decide_eq_true (by (with_reducible assumption))
        have q101 : x10_1 < (l0.length : Int) := of_decide_eq_true (by (with_reducible assumption))
        obtain ⟨ad101, e101, hx101_0, hx101_1, hx101_2⟩ := at_T43 HR0.out x10_1 p101 q101
        cases e101
        replace hx101_0 := (HB.out.cell (World.block_lt_of_cell? w _ hx101_0)).trans hx101_0
        replace hx101_1 := (HB.out.cell (World.block_lt_of_cell? w _ hx101_1)).trans hx101_1
        replace hx101_2 := (HB.out.cell (World.block_lt_of_cell? w _ hx101_2)).trans hx101_2
        replace p101 := eq_true p101
        replace q101 := eq_true q101
        go_wp2_with (first | ((with_reducible refine gate_dst (N := 4) rfl ?_); refine box_event ?hg (N := 4) ?hd (cs := #[.int .i64 0, .string (⟨#[]⟩ : ByteArray), .int .i64 0]) (t := 43) ?hr ?_; (case hd => rfl); (case hg => rfl); (case hr => (go_simp; done)); intro gb102 hg w7 hbox hb; have n0_ := Aside0.mk (below_step (by repeat ((with_reducible (exact HB.out)))) hb); have n1_ := Aside0.mk (hbox); have n2_ := Aside0.mk ((by rw [hg]; exact (below_size (by repeat ((with_reducible (exact HB.out))))) : w.heap.size ≤ gb102)); have n3_ := Aside0.mk ((by rw [hg]; exact (below_size (by repeat ((with_reducible (exact HB.out))))) : w.heap.size ≤ gb102)); clear HB; have HB := n0_; have BK102 := n1_; have GW102 := n2_; have GE102 := n3_; clear n0_ n1_ n2_ n3_; clear hb hbox hg; have hcz8_0 : w7.cell? ⟨gb102, 0, none⟩ = some (.int .i64 0) := (blk_cell BK102.out 0).trans rfl; have hcz8_1 : w7.cell? ⟨gb102, 1, none⟩ = some (.string (⟨#[]⟩ : ByteArray)) := (blk_cell BK102.out 1).trans rfl; have hcz8_2 : w7.cell? ⟨gb102, 2, none⟩ = some (.int .i64 0) := (blk_cell BK102.out 2).trans rfl; have hfz8_0 := blk_frozen BK102.out 0; have hfz8_1 := blk_frozen BK102.out 1; have hfz8_2 := blk_frozen BK102.out 2))
        go_ret
        exact ⟨by (rfl), by repeat ((with_reducible first | exact HB.out | refine below_set ?_ GE102.out))⟩
       ·rw [if_neg c6] at H
        have c6b0 : decide (200 < (((rd_T43 l0 x10_1).f1).size : Int)) = false := decide_eq_false c6
        have c6b1 : decide (200 < ((rd_T43 l0 x10_1).f1).size) = false := decide_eq_false (by omega)
        clear c6
        have H' := Aside0.mk H
        clear H
        have p101 : 0 ≤ (x10_1 : Int) := of_decide_eq_true (by (with_reducible assumption))
        have q101 : x10_1 < (l0.length : Int) := of_decide_eq_true (by (with_reducible assumption))
        obtain ⟨ad101, e101, hx101_0, hx101_1, hx101_2⟩ := at_T43 HR0.out x10_1 p101 q101
        cases e101
        replace hx101_0 := (HB.out.cell (World.block_lt_of_cell? w _ hx101_0)).trans hx101_0
        replace hx101_1 := (HB.out.cell (World.block_lt_of_cell? w _ hx101_1)).trans hx101_1
        replace hx101_2 := (HB.out.cell (World.block_lt_of_cell? w _ hx101_2)).trans hx101_2
        replace p101 := eq_true p101
        replace q101 := eq_true q101
        go_wp2_with (first | ((with_reducible refine gate_dst (N := 4) rfl ?_); refine box_event ?hg (N := 4) ?hd (cs := #[.int .i64 0, .string (⟨#[]⟩ : ByteArray), .int .i64 0]) (t := 43) ?hr ?_; (case hd => rfl); (case hg => rfl); (case hr => (go_simp; done)); intro gb102 hg w9 hbox hb; have n0_ := Aside0.mk (below_step (by repeat ((with_reducible (exact HB.out)))) hb); have n1_ := Aside0.mk (hbox); have n2_ := Aside0.mk ((by rw [hg]; exact (below_size (by repeat ((with_reducible (exact HB.out))))) : w.heap.size ≤ gb102)); have n3_ := Aside0.mk ((by rw [hg]; exact (below_size (by repeat ((with_reducible (exact HB.out))))) : w.heap.size ≤ gb102)); clear HB; have HB := n0_; have BK102 := n1_; have GW102 := n2_; have GE102 := n3_; clear n0_ n1_ n2_ n3_; clear hb hbox hg; have hcz10_0 : w9.cell? ⟨gb102, 0, none⟩ = some (.int .i64 0) := (blk_cell BK102.out 0).trans rfl; have hcz10_1 : w9.cell? ⟨gb102, 1, none⟩ = some (.string (⟨#[]⟩ : ByteArray)) := (blk_cell BK102.out 1).trans rfl; have hcz10_2 : w9.cell? ⟨gb102, 2, none⟩ = some (.int .i64 0) := (blk_cell BK102.out 2).trans rfl; have hfz10_0 := blk_frozen BK102.out 0; have hfz10_1 := blk_frozen BK102.out 1; have hfz10_2 := blk_frozen BK102.out 2))
        go_roundg k1
        case measure => have := HK1.out; omega
        case rel => exact ⟨(wrap64 (x10_1 + 1)), (by (rfl)), H', ⟨by have := HK1.out; omega⟩, ⟨by repeat ((with_reducible first | exact HB.out | refine below_set ?_ GE102.out))⟩⟩
      ·rw [if_neg c5] at H
       exact absurd H (by simp)
     ·rw [if_neg c4] at H
      exact absurd H (by simp)
    ·rw [if_neg c3] at H
     have c3b0 : decide (x10_1 < (l0.length : Int)) = false := decide_eq_false c3
     clear c3
     obtain rfl := Option.some.inj H
     go_wp2
     go_ret
     exact ⟨by (rfl), by repeat ((with_reducible (exact HB.out)))⟩
end Go.Proofs.Ytbfdplmgefcogaa.P
end
-- MERGED YtbfdplmgefcogaaLightF
section

namespace Go.Proofs.Ytbfdplmgefcogaa.LightF
open Go.RowKit Go.Proofs.Ytbfdplmgefcogaa.P Go.Proofs.YtbfdplmgefcogaaW.PrintWords Go.Proofs.YtbfdplmgefcogaaW.PrintLast Go.Proofs.YtbfdplmgefcogaaW.PrintMore Go.Proofs.Ytbfdplmgefcogaa.EditL Go.Proofs.Ytbfdplmgefcogaa.EditK
set_option linter.unusedSimpArgs false
set_option linter.unusedVariables false
theorem light_l (l : List Rn) (hl : l.length ≤ 140737488351232) : ∀ (suf pre : List Rn) (k : Nat), l = pre ++ suf → suf.length < k → ∃ b, variorumlaw06_Light.l0 k l (l.length : Int) (pre.length : Int) = some b ∧ (b = true → ∀ r ∈ suf, r.f1.size ≤ 200) := by
 intro suf
 induction suf with
 | nil =>
  intro pre k hfe hk
  obtain ⟨k, rfl⟩ : ∃ m, k = m + 1 := ⟨k - 1, by omega⟩
  have : l.length = pre.length := by rw [hfe]; simp
  simp only [variorumlaw06_Light.l0]
  rw [if_neg (by omega)]
  exact ⟨true, rfl, fun _ r hr => by cases hr⟩
 | cons r suf ih =>
  intro pre k hfe hk
  obtain ⟨k, rfl⟩ : ∃ m, k = m + 1 := ⟨k - 1, by omega⟩
  obtain ⟨hl2, hn, hlt⟩ := snoc hfe
  obtain ⟨b, hb, hb2⟩ := ih (pre ++ [r]) k hl2 (by simp at hk; omega)
  rw [hn] at hb
  simp only [variorumlaw06_Light.l0]
  rw [if_pos hlt, if_pos (by omega), if_pos hlt, rd_at hfe, w64 (x := (pre.length : Int) + 1) (by omega) (by omega), hb]
  by_cases h : (r.f1.size : Int) > 200
  ·rw [if_pos h]; exact ⟨false, rfl, fun h => by cases h⟩
  ·rw [if_neg h]
   refine ⟨b, rfl, fun e x hx => ?_⟩
   rcases List.mem_cons.1 hx with rfl | hx
   ·omega
   ·exact hb2 e x hx
theorem light_f (l : List Rn) (k : Nat) (hk : 100 < k) : ∃ b, variorumlaw06_Light.f k l = some b ∧ (b = true → l.length ≤ 100 ∧ ∀ r ∈ l, r.f1.size ≤ 200) := by
 unfold variorumlaw06_Light.f
 by_cases h : (l.length : Int) > 100
 ·rw [if_pos h]; exact ⟨false, rfl, fun h => by cases h⟩
 ·rw [if_neg h]
  obtain ⟨b, h1, h2⟩ := light_l l (by omega) l [] k rfl (by omega)
  exact ⟨b, h1, fun e => ⟨by omega, h2 e⟩⟩
def mk (x : Int × ByteArray × Int) : Rn := ⟨x.1, x.2.1, x.2.2⟩
end Go.Proofs.Ytbfdplmgefcogaa.LightF
end
-- MERGED YtbfdplmgefcogaaPcomposeTwo
section

namespace Go.Proofs.Ytbfdplmgefcogaa.P
open Go.RowKit Go.Proofs.YtbfdplmgefcogaaW.PrintWords Go.Proofs.YtbfdplmgefcogaaW.PrintLast Go.Proofs.YtbfdplmgefcogaaW.PrintMore
attribute [local go_sem] max2_int min2_int max_two min_two max_three min_three max_four min_four
set_option linter.unusedVariables false
set_option linter.unusedSimpArgs false
def compose_Two.f (l0 : List (S43)) (l1 : List (S43)) : Option (List (S43) × Int) := if l0.length ≤ 140737488351232 ∧ l1.length ≤ 140737488351232 then some (ComposeT.twoL l0 l1) else none
theorem compose_Two.calls (A0 : Option Addr) (c0 : Nat) (l0 : List (S43)) (A1 : Option Addr) (c1 : Nat) (l1 : List (S43)) (r1 : List (S43)) (r2 : Int) (w : World) (hr0 : Kd.C k43 w A0 l0.length l0) (hc0 : l0.length ≤ c0) (hr1 : Kd.C k43 w A1 l1.length l1) (hc1 : l1.length ≤ c1) (h : compose_Two.f l0 l1 = some (r1, r2)) :
  Calls Try.prog 9 #[.slice A0 l0.length c0, .slice A1 l1.length c1] w fun e w' => ∃ v0_ : Value, e = .returned (.tuple #[v0_, .int .i64 r2]) ∧ Kd.R k43 43 w' w.heap.size (fun _ => True) v0_ r1 ∧ Below w.heap.size w w' := by
 unfold compose_Two.f at h
 by_cases hl : l0.length ≤ 140737488351232 ∧ l1.length ≤ 140737488351232
 ·rw [if_pos hl] at h
  have h2 := Option.some.inj h
  have := ComposeW.two_c A0 c0 l0 A1 c1 l1 w hr0 hc0 hr1 hc1 hl.1 hl.2
  rw [h2] at this
  exact this
 ·rw [if_neg hl] at h; cases h
end Go.Proofs.Ytbfdplmgefcogaa.P
end
-- MERGED YtbfdplmgefcogaaPvariorumlaw08few
section

namespace Go.Proofs.Ytbfdplmgefcogaa.P
open Go.RowKit Go.Proofs.YtbfdplmgefcogaaW.PrintWords Go.Proofs.YtbfdplmgefcogaaW.PrintLast Go.Proofs.YtbfdplmgefcogaaW.PrintMore
attribute [local go_sem] max2_int min2_int max_two min_two max_three min_three max_four min_four
set_option linter.unusedVariables false
set_option linter.unusedSimpArgs false
def variorumlaw08_few.f (k : Nat) (l0 : List (S43)) : Option (Bool) := (variorumlaw06_Light.f k l0).bind fun t114 => (if t114 = true then ((variorumref06_Good.f l0).bind fun t115 => (if t115 = true then ((variorumref06_In.f k l0).bind fun t116 => (if t116 ≤ 3000 then ((variorumref06_Out.f k l0).bind fun t117 => (some (decide (t117 ≤ 3000)))) else (some false))) else (some true))) else (some false))
theorem variorumlaw08_few.mono : ∀ a0 k, LeO (variorumlaw08_few.f k a0) (variorumlaw08_few.f (k + 1) a0) := by
 intro a0 k
 unfold variorumlaw08_few.f
 repeat' first | (with_reducible exact variorumlaw06_Light.mono _ _) | (with_reducible exact variorumref06_In.mono _ _) | (with_reducible exact variorumref06_Out.mono _ _) | (with_reducible exact LeO.refl _) | (with_reducible refine LeO.ite ?_ ?_) | (with_reducible refine LeO.bind ?_ (fun _ => ?_))
set_option maxHeartbeats 8000000 in
set_option maxRecDepth 100000 in
theorem variorumlaw08_few.calls (k : Nat) (A0 : Option Addr) (c0 : Nat) (l0 : List (S43)) (r : Bool) (w : World) (hr0 : Kd.C k43 w A0 l0.length l0) (hc0 : l0.length ≤ c0) (h : variorumlaw08_few.f k l0 = some r) :
  Calls Try.prog 7 #[.slice A0 l0.length c0] w fun e w' => e = .returned (.bool r) ∧ Below w.heap.size w w' := by
 have HR0 := Aside0.mk hr0
 have HC0 := Aside0.mk hc0
 clear hr0 hc0
 have HB := Aside0.mk (Below.refl w.heap.size w)
 have H : ((variorumlaw06_Light.f k l0).bind fun t114 => (if t114 = true then ((variorumref06_Good.f l0).bind fun t115 => (if t115 = true then ((variorumref06_In.f k l0).bind fun t116 => (if t116 ≤ 3000 then ((variorumref06_Out.f k l0).bind fun t117 => (some (decide (t117 ≤ 3000)))) else (some false))) else (some true))) else (some false))) = some r := h
 clear h
 replace H := Option.bind_eq_some_iff.mp H
 obtain ⟨t114, A20, H⟩ := H
 replace H : (if t114 = true then ((variorumref06_Good.f l0).bind fun t115 => (if t115 = true then ((variorumref06_In.f k l0).bind fun t116 => (if t116 ≤ 3000 then ((variorumref06_Out.f k l0).bind fun t117 => (some (decide (t117 ≤ 3000)))) else (some false))) else (some true))) else (some false)) = some r := H
 have A2 := Aside0.mk A20
 clear A20
 by_cases c3 : t114 = true
 ·subst c3
  have H1 : ((variorumref06_Good.f l0).bind fun t115 => (if t115 = true then ((variorumref06_In.f k l0).bind fun t116 => (if t116 ≤ 3000 then ((variorumref06_Out.f k l0).bind fun t117 => (some (decide (t117 ≤ 3000)))) else (some false))) else (some true))) = some r := by rw [if_pos rfl] at H; exact H
  clear H
  have H := H1
  clear H1
  replace H := Option.bind_eq_some_iff.mp H
  obtain ⟨t115, A40, H⟩ := H
  replace H : (if t115 = true then ((variorumref06_In.f k l0).bind fun t116 => (if t116 ≤ 3000 then ((variorumref06_Out.f k l0).bind fun t117 => (some (decide (t117 ≤ 3000)))) else (some false))) else (some true)) = some r := H
  have A4 := Aside0.mk A40
  clear A40
  by_cases c5 : t115 = true
  ·subst c5
   have H1 : ((variorumref06_In.f k l0).bind fun t116 => (if t116 ≤ 3000 then ((variorumref06_Out.f k l0).bind fun t117 => (some (decide (t117 ≤ 3000)))) else (some false))) = some r := by rw [if_pos rfl] at H; exact H
   clear H
   have H := H1
   clear H1
   replace H := Option.bind_eq_some_iff.mp H
   obtain ⟨t116, A60, H⟩ := H
   replace H : (if t116 ≤ 3000 then ((variorumref06_Out.f k l0).bind fun t117 => (some (decide (t117 ≤ 3000)))) else (some false)) = some r := H
   have A6 := Aside0.mk A60
   clear A60
   by_cases c7 : t116 ≤ 3000
   ·rw [if_pos c7] at H
    have c7b0 : decide (t116 ≤ 3000) = true := decide_eq_true c7
    clear c7
    replace H := Option.bind_eq_some_iff.mp H
    obtain ⟨t117, A80, H⟩ := H
    replace H : (some (decide (t117 ≤ 3000))) = some r := H
    have A8 := Aside0.mk A80
    clear A80
    obtain rfl := Option.some.inj H
    go_enter Try.func7, Try.ntmps7
    go_wp2_with (first | ((with_reducible refine gate_callee (f := 19) rfl ?_); refine goesL_ (some 4) rfl rfl Try.func19 (by kernel_rfl) rfl #[.slice A0 l0.length c0] rfl (by (try simp only [List.map_toArray, List.map_cons, List.map_nil]); (rfl)) ?_; (with_reducible refine (variorumlaw06_Light.calls k _ _ l0 true _ ?side1 ?side2 A2.out).mono ?_); (case side1 => repeat ((exact HR0.out))); (case side2 => exact HC0.out); rintro e w9 ⟨rfl, hb⟩; refine ⟨_, rfl, ?_⟩; have n0_ := Aside0.mk (below_step (by repeat ((with_reducible (exact HB.out)))) hb); clear HB; have HB := n0_; clear n0_; (try clear hb); (try clear hb2); (try clear hk); (try clear hi)) | (go_at_call 20; (with_reducible refine (variorumref06_Good.calls _ _ l0 true _ ?side1 ?side2 A4.out).mono ?_); (case side1 => repeat ((exact (Kd.C_below HR0.out HB.out)))); (case side2 => exact HC0.out); rintro e w10 ⟨rfl, hb⟩; have n0_ := Aside0.mk (below_step (by repeat ((with_reducible (exact HB.out)))) hb); clear HB; have HB := n0_; clear n0_; (try clear hb); (try clear hb2); (try clear hk); (try clear hi)) | (go_at_call 21; (with_reducible refine (variorumref06_In.calls k _ _ l0 t116 _ ?side1 ?side2 A6.out).mono ?_); (case side1 => repeat ((exact (Kd.C_below HR0.out HB.out)))); (case side2 => exact HC0.out); rintro e w11 ⟨rfl, hb⟩; have n0_ := Aside0.mk (below_step (by repeat ((with_reducible (exact HB.out)))) hb); clear HB; have HB := n0_; clear n0_; (try clear hb); (try clear hb2); (try clear hk); (try clear hi)) | (go_at_call 22; (with_reducible refine (variorumref06_Out.calls k _ _ l0 t117 _ ?side1 ?side2 A8.out).mono ?_); (case side1 => repeat ((exact (Kd.C_below HR0.out HB.out)))); (case side2 => exact HC0.out); rintro e w12 ⟨rfl, hb⟩; have n0_ := Aside0.mk (below_step (by repeat ((with_reducible (exact HB.out)))) hb); clear HB; have HB := n0_; clear n0_; (try clear hb); (try clear hb2); (try clear hk); (try clear hi)))
    go_ret
    exact ⟨by (rfl), by repeat ((with_reducible (exact HB.out)))⟩
   ·rw [if_neg c7] at H
    have c7b0 : decide (t116 ≤ 3000) = false := decide_eq_false c7
    clear c7
    obtain rfl := Option.some.inj H
    go_enter Try.func7, Try.ntmps7
    go_wp2_with (first | ((with_reducible refine gate_callee (f := 19) rfl ?_); refine goesL_ (some 4) rfl rfl Try.func19 (by kernel_rfl) rfl #[.slice A0 l0.length c0] rfl (by (try simp only [List.map_toArray, List.map_cons, List.map_nil]); (rfl)) ?_; (with_reducible refine (variorumlaw06_Light.calls k _ _ l0 true _ ?side1 ?side2 A2.out).mono ?_); (case side1 => repeat ((exact HR0.out))); (case side2 => exact HC0.out); rintro e w13 ⟨rfl, hb⟩; refine ⟨_, rfl, ?_⟩; have n0_ := Aside0.mk (below_step (by repeat ((with_reducible (exact HB.out)))) hb); clear HB; have HB := n0_; clear n0_; (try clear hb); (try clear hb2); (try clear hk); (try clear hi)) | (go_at_call 20; (with_reducible refine (variorumref06_Good.calls _ _ l0 true _ ?side1 ?side2 A4.out).mono ?_); (case side1 => repeat ((exact (Kd.C_below HR0.out HB.out)))); (case side2 => exact HC0.out); rintro e w14 ⟨rfl, hb⟩; have n0_ := Aside0.mk (below_step (by repeat ((with_reducible (exact HB.out)))) hb); clear HB; have HB := n0_; clear n0_; (try clear hb); (try clear hb2); (try clear hk); (try clear hi)) | (go_at_call 21; (with_reducible refine (variorumref06_In.calls k _ _ l0 t116 _ ?side1 ?side2 A6.out).mono ?_); (case side1 => repeat ((exact (Kd.C_below HR0.out HB.out)))); (case side2 => exact HC0.out); rintro e w15 ⟨rfl, hb⟩; have n0_ := Aside0.mk (below_step (by repeat ((with_reducible (exact HB.out)))) hb); clear HB; have HB := n0_; clear n0_; (try clear hb); (try clear hb2); (try clear hk); (try clear hi)))
    go_ret
    exact ⟨by (rfl), by repeat ((with_reducible (exact HB.out)))⟩
  ·replace c5 := Bool.eq_false_iff.mpr c5
   subst c5
   have H1 : (some true) = some r := by rw [if_neg (show ¬ (false = true) by decide)] at H; exact H
   clear H
   have H := H1
   clear H1
   obtain rfl := Option.some.inj H
   go_enter Try.func7, Try.ntmps7
   go_wp2_with (first | ((with_reducible refine gate_callee (f := 19) rfl ?_); refine goesL_ (some 4) rfl rfl Try.func19 (by kernel_rfl) rfl #[.slice A0 l0.length c0] rfl (by (try simp only [List.map_toArray, List.map_cons, List.map_nil]); (rfl)) ?_; (with_reducible refine (variorumlaw06_Light.calls k _ _ l0 true _ ?side1 ?side2 A2.out).mono ?_); (case side1 => repeat ((exact HR0.out))); (case side2 => exact HC0.out); rintro e w16 ⟨rfl, hb⟩; refine ⟨_, rfl, ?_⟩; have n0_ := Aside0.mk (below_step (by repeat ((with_reducible (exact HB.out)))) hb); clear HB; have HB := n0_; clear n0_; (try clear hb); (try clear hb2); (try clear hk); (try clear hi)) | (go_at_call 20; (with_reducible refine (variorumref06_Good.calls _ _ l0 false _ ?side1 ?side2 A4.out).mono ?_); (case side1 => repeat ((exact (Kd.C_below HR0.out HB.out)))); (case side2 => exact HC0.out); rintro e w17 ⟨rfl, hb⟩; have n0_ := Aside0.mk (below_step (by repeat ((with_reducible (exact HB.out)))) hb); clear HB; have HB := n0_; clear n0_; (try clear hb); (try clear hb2); (try clear hk); (try clear hi)))
   go_ret
   exact ⟨by (rfl), by repeat ((with_reducible (exact HB.out)))⟩
 ·replace c3 := Bool.eq_false_iff.mpr c3
  subst c3
  have H1 : (some false) = some r := by rw [if_neg (show ¬ (false = true) by decide)] at H; exact H
  clear H
  have H := H1
  clear H1
  obtain rfl := Option.some.inj H
  go_enter Try.func7, Try.ntmps7
  go_wp2_with (first | ((with_reducible refine gate_callee (f := 19) rfl ?_); refine goesL_ (some 4) rfl rfl Try.func19 (by kernel_rfl) rfl #[.slice A0 l0.length c0] rfl (by (try simp only [List.map_toArray, List.map_cons, List.map_nil]); (rfl)) ?_; (with_reducible refine (variorumlaw06_Light.calls k _ _ l0 false _ ?side1 ?side2 A2.out).mono ?_); (case side1 => repeat ((exact HR0.out))); (case side2 => exact HC0.out); rintro e w18 ⟨rfl, hb⟩; refine ⟨_, rfl, ?_⟩; have n0_ := Aside0.mk (below_step (by repeat ((with_reducible (exact HB.out)))) hb); clear HB; have HB := n0_; clear n0_; (try clear hb); (try clear hb2); (try clear hk); (try clear hi)))
  go_ret
  exact ⟨by (rfl), by repeat ((with_reducible (exact HB.out)))⟩
end Go.Proofs.Ytbfdplmgefcogaa.P
end
-- MERGED YtbfdplmgefcogaaPvariorumlaw08lives
section

namespace Go.Proofs.Ytbfdplmgefcogaa.P
open Go.RowKit Go.Proofs.YtbfdplmgefcogaaW.PrintWords Go.Proofs.YtbfdplmgefcogaaW.PrintLast Go.Proofs.YtbfdplmgefcogaaW.PrintMore
attribute [local go_sem] max2_int min2_int max_two min_two max_three min_three max_four min_four
set_option linter.unusedVariables false
set_option linter.unusedSimpArgs false
def variorumlaw08_lives.f (k : Nat)  : Option (Bool) := (compose_Two.f (([(⟨1, (⟨#[]⟩ : ByteArray), 0⟩ : S43), (⟨0, (⟨#[120, 121]⟩ : ByteArray), 0⟩ : S43), (⟨1, (⟨#[]⟩ : ByteArray), 0⟩ : S43)] : List (S43))) (([(⟨2, (⟨#[]⟩ : ByteArray), 0⟩ : S43), (⟨0, (⟨#[]⟩ : ByteArray), 1⟩ : S43), (⟨1, (⟨#[]⟩ : ByteArray), 0⟩ : S43)] : List (S43)))).bind fun bt143 => (if bt143.2 = 0 then ((variorumref06_Same.f k bt143.1 (([(⟨1, (⟨#[]⟩ : ByteArray), 0⟩ : S43), (⟨0, (⟨#[120]⟩ : ByteArray), 0⟩ : S43), (⟨1, (⟨#[]⟩ : ByteArray), 0⟩ : S43)] : List (S43)))).bind fun t150 => (some t150)) else (some false))
theorem variorumlaw08_lives.mono : ∀ k, LeO (variorumlaw08_lives.f k ) (variorumlaw08_lives.f (k + 1) ) := by
 intro  k
 unfold variorumlaw08_lives.f
 repeat' first | (with_reducible exact variorumref06_Same.mono _ _ _) | (with_reducible exact LeO.refl _) | (with_reducible refine LeO.ite ?_ ?_) | (with_reducible refine LeO.bind ?_ (fun _ => ?_))
set_option maxHeartbeats 8000000 in
set_option maxRecDepth 100000 in
theorem variorumlaw08_lives.calls (k : Nat)  (r : Bool) (w : World) (h : variorumlaw08_lives.f k  = some r) :
  Calls Try.prog 8 #[] w fun e w' => e = .returned (.bool r) ∧ Below w.heap.size w w' := by
 have hu43 := Try.underlying43
 have HB := Aside0.mk (Below.refl w.heap.size w)
 have H : ((compose_Two.f (([(⟨1, (⟨#[]⟩ : ByteArray), 0⟩ : S43), (⟨0, (⟨#[120, 121]⟩ : ByteArray), 0⟩ : S43), (⟨1, (⟨#[]⟩ : ByteArray), 0⟩ : S43)] : List (S43))) (([(⟨2, (⟨#[]⟩ : ByteArray), 0⟩ : S43), (⟨0, (⟨#[]⟩ : ByteArray), 1⟩ : S43), (⟨1, (⟨#[]⟩ : ByteArray), 0⟩ : S43)] : List (S43)))).bind fun bt143 => (if bt143.2 = 0 then ((variorumref06_Same.f k bt143.1 (([(⟨1, (⟨#[]⟩ : ByteArray), 0⟩ : S43), (⟨0, (⟨#[120]⟩ : ByteArray), 0⟩ : S43), (⟨1, (⟨#[]⟩ : ByteArray), 0⟩ : S43)] : List (S43)))).bind fun t150 => (some t150)) else (some false))) = some r := h
 clear h
 obtain ⟨y137, hy137⟩ : ∃ y_ : List (S43), y_ = (([(⟨1, (⟨#[]⟩ : ByteArray), 0⟩ : S43), (⟨0, (⟨#[120, 121]⟩ : ByteArray), 0⟩ : S43), (⟨1, (⟨#[]⟩ : ByteArray), 0⟩ : S43)] : List (S43))) := ⟨_, rfl⟩
 replace H : ((compose_Two.f y137 (([(⟨2, (⟨#[]⟩ : ByteArray), 0⟩ : S43), (⟨0, (⟨#[]⟩ : ByteArray), 1⟩ : S43), (⟨1, (⟨#[]⟩ : ByteArray), 0⟩ : S43)] : List (S43)))).bind fun bt143 => (if bt143.2 = 0 then ((variorumref06_Same.f k bt143.1 (([(⟨1, (⟨#[]⟩ : ByteArray), 0⟩ : S43), (⟨0, (⟨#[120]⟩ : ByteArray), 0⟩ : S43), (⟨1, (⟨#[]⟩ : ByteArray), 0⟩ : S43)] : List (S43)))).bind fun t150 => (some t150)) else (some false))) = some r := by (rw [hy137]; with_reducible exact H)
 have Ny137 := Aside0.mk hy137
 clear hy137
 obtain ⟨y140, hy140⟩ : ∃ y_ : List (S43), y_ = (([(⟨2, (⟨#[]⟩ : ByteArray), 0⟩ : S43), (⟨0, (⟨#[]⟩ : ByteArray), 1⟩ : S43), (⟨1, (⟨#[]⟩ : ByteArray), 0⟩ : S43)] : List (S43))) := ⟨_, rfl⟩
 replace H : ((compose_Two.f y137 y140).bind fun bt143 => (if bt143.2 = 0 then ((variorumref06_Same.f k bt143.1 (([(⟨1, (⟨#[]⟩ : ByteArray), 0⟩ : S43), (⟨0, (⟨#[120]⟩ : ByteArray), 0⟩ : S43), (⟨1, (⟨#[]⟩ : ByteArray), 0⟩ : S43)] : List (S43)))).bind fun t150 => (some t150)) else (some false))) = some r := by (rw [hy140]; with_reducible exact H)
 have Ny140 := Aside0.mk hy140
 clear hy140
 replace H := Option.bind_eq_some_iff.mp H
 obtain ⟨⟨t143, t144⟩, A10, H⟩ := H
 replace H : (if t144 = 0 then ((variorumref06_Same.f k t143 (([(⟨1, (⟨#[]⟩ : ByteArray), 0⟩ : S43), (⟨0, (⟨#[120]⟩ : ByteArray), 0⟩ : S43), (⟨1, (⟨#[]⟩ : ByteArray), 0⟩ : S43)] : List (S43)))).bind fun t150 => (some t150)) else (some false)) = some r := H
 have A1 := Aside0.mk A10
 clear A10
 by_cases c2 : t144 = 0
 ·rw [if_pos c2] at H
  have c2b0 : (t144 == 0) = true := beq_iff_eq.mpr c2
  have c2b1 : (t144 != 0) = false := bne_eq_false_iff_eq.mpr c2
  clear c2
  obtain ⟨y147, hy147⟩ : ∃ y_ : List (S43), y_ = (([(⟨1, (⟨#[]⟩ : ByteArray), 0⟩ : S43), (⟨0, (⟨#[120]⟩ : ByteArray), 0⟩ : S43), (⟨1, (⟨#[]⟩ : ByteArray), 0⟩ : S43)] : List (S43))) := ⟨_, rfl⟩
  replace H : ((variorumref06_Same.f k t143 y147).bind fun t150 => (some t150)) = some r := by (rw [hy147]; with_reducible exact H)
  have Ny147 := Aside0.mk hy147
  clear hy147
  replace H := Option.bind_eq_some_iff.mp H
  obtain ⟨t150, A30, H⟩ := H
  replace H : (some t150) = some r := H
  have A3 := Aside0.mk A30
  clear A30
  obtain rfl := Option.some.inj H
  go_enter Try.func8, Try.ntmps8
  go_wp2_with (first | ((with_reducible refine gate_dst (N := 7) rfl ?_); (try (refine gate_guard (by rfl) ?_; dsimp only)); refine Kd.R_lit k43 _ 43 ?hg (N := 7) ?hd (xs := ([(⟨1, (⟨#[]⟩ : ByteArray), 0⟩ : S43), (⟨0, (⟨#[120, 121]⟩ : ByteArray), 0⟩ : S43), (⟨1, (⟨#[]⟩ : ByteArray), 0⟩ : S43)] : List (S43))) (inner := [.int .i64 1, .string (⟨#[]⟩ : ByteArray), .int .i64 0, .int .i64 0, .string (⟨#[120, 121]⟩ : ByteArray), .int .i64 0, .int .i64 1, .string (⟨#[]⟩ : ByteArray), .int .i64 0]) (ok := fun _ => True) (okp := fun _ => True) ?hr ?hp (fun _ hk => hk) trivial (Below.refl _ _) (Nat.le_refl _) (by simp) ?_; (case hd => rfl); (case hg => rfl); (case hr => (go_simp; done)); (case hp => exact (Reps.c3 (show Kd.M k43 _ _ _ (⟨1, (⟨#[]⟩ : ByteArray), 0⟩ : S43) [.int .i64 1, .string (⟨#[]⟩ : ByteArray), .int .i64 0] from (k43_mkM _ _ _ (⟨1, (⟨#[]⟩ : ByteArray), 0⟩ : S43) )) (Reps.c3 (show Kd.M k43 _ _ _ (⟨0, (⟨#[120, 121]⟩ : ByteArray), 0⟩ : S43) [.int .i64 0, .string (⟨#[120, 121]⟩ : ByteArray), .int .i64 0] from (k43_mkM _ _ _ (⟨0, (⟨#[120, 121]⟩ : ByteArray), 0⟩ : S43) )) (Reps.c3 (show Kd.M k43 _ _ _ (⟨1, (⟨#[]⟩ : ByteArray), 0⟩ : S43) [.int .i64 1, .string (⟨#[]⟩ : ByteArray), .int .i64 0] from (k43_mkM _ _ _ (⟨1, (⟨#[]⟩ : ByteArray), 0⟩ : S43) )) (Reps.none _ _))))); intro v138 w4 ho5 hb hg_ hnew_; clear hg_ hnew_; ((rw [← Ny137.out] at ho5)); have n0_ := Aside0.mk (Kd.R_lower ho5 (below_size (by repeat ((with_reducible (exact HB.out)))))); have n1_ := Aside0.mk (below_step (by repeat ((with_reducible (exact HB.out)))) hb); clear HB; have HO139 := n0_; have HB := n1_; clear n0_ n1_; clear hb ho5) | ((with_reducible refine gate_dst (N := 11) rfl ?_); (try (refine gate_guard (by rfl) ?_; dsimp only)); refine Kd.R_lit k43 _ 43 ?hg (N := 11) ?hd (xs := ([(⟨2, (⟨#[]⟩ : ByteArray), 0⟩ : S43), (⟨0, (⟨#[]⟩ : ByteArray), 1⟩ : S43), (⟨1, (⟨#[]⟩ : ByteArray), 0⟩ : S43)] : List (S43))) (inner := [.int .i64 2, .string (⟨#[]⟩ : ByteArray), .int .i64 0, .int .i64 0, .string (⟨#[]⟩ : ByteArray), .int .i64 1, .int .i64 1, .string (⟨#[]⟩ : ByteArray), .int .i64 0]) (ok := fun _ => True) (okp := fun _ => True) ?hr ?hp (fun _ hk => hk) trivial (Below.refl _ _) (Nat.le_refl _) (by simp) ?_; (case hd => rfl); (case hg => rfl); (case hr => (go_simp; done)); (case hp => exact (Reps.c3 (show Kd.M k43 _ _ _ (⟨2, (⟨#[]⟩ : ByteArray), 0⟩ : S43) [.int .i64 2, .string (⟨#[]⟩ : ByteArray), .int .i64 0] from (k43_mkM _ _ _ (⟨2, (⟨#[]⟩ : ByteArray), 0⟩ : S43) )) (Reps.c3 (show Kd.M k43 _ _ _ (⟨0, (⟨#[]⟩ : ByteArray), 1⟩ : S43) [.int .i64 0, .string (⟨#[]⟩ : ByteArray), .int .i64 1] from (k43_mkM _ _ _ (⟨0, (⟨#[]⟩ : ByteArray), 1⟩ : S43) )) (Reps.c3 (show Kd.M k43 _ _ _ (⟨1, (⟨#[]⟩ : ByteArray), 0⟩ : S43) [.int .i64 1, .string (⟨#[]⟩ : ByteArray), .int .i64 0] from (k43_mkM _ _ _ (⟨1, (⟨#[]⟩ : ByteArray), 0⟩ : S43) )) (Reps.none _ _))))); intro v141 w6 ho7 hb hg_ hnew_; clear hg_ hnew_; ((rw [← Ny140.out] at ho7)); have n0_ := Aside0.mk (Kd.R_elder' (by (with_reducible repeat ((apply Kd.R_drew))); exact HO139.out) (Kd.R_base ho7) hb); have n1_ := Aside0.mk (Kd.R_lower (Kd.R_new' ho7 (Kd.R_lt (by (with_reducible repeat ((apply Kd.R_drew))); exact HO139.out))) (below_size (by repeat ((with_reducible (exact HB.out)))))); have n2_ := Aside0.mk (below_step (by repeat ((with_reducible (exact HB.out)))) hb); clear HO139; clear HB; have HO139 := n0_; have HO142 := n1_; have HB := n2_; clear n0_ n1_ n2_; clear hb ho7; obtain ⟨Ao8, co8, eo8⟩ := Kd.R_slice HO139.out; subst eo8; obtain ⟨Ao9, co9, eo9⟩ := Kd.R_slice HO142.out; subst eo9) | ((with_reducible refine gate_callee (f := 9) rfl ?_); refine goesL_ (some 12) rfl rfl Try.func9 (by kernel_rfl) rfl #[.slice Ao8 y137.length co8, .slice Ao9 y140.length co9] rfl (by (try simp only [List.map_toArray, List.map_cons, List.map_nil]); (rfl)) ?_; (with_reducible refine (compose_Two.calls _ _ y137 _ _ y140 t143 t144 _ ?side1 ?side2 ?side3 ?side4 A1.out).mono ?_); (case side1 => repeat ((exact (Kd.R_reads' HO139.out).2.2))); (case side2 => exact (Kd.R_reads' HO139.out).2.1); (case side3 => repeat ((exact (Kd.R_reads' HO142.out).2.2))); (case side4 => exact (Kd.R_reads' HO142.out).2.1); rintro e w10 ⟨v145, rfl, ho0, hb⟩; refine ⟨_, rfl, ?_⟩; have n0_ := Aside0.mk (Kd.R_elder' (by (with_reducible repeat ((apply Kd.R_drew))); exact HO139.out) (Kd.R_base ho0) hb); have n1_ := Aside0.mk (Kd.R_elder' (by (with_reducible repeat ((apply Kd.R_drew))); exact HO142.out) (Kd.R_base ho0) hb); have n2_ := Aside0.mk (Kd.R_lower (Kd.R_new' (Kd.R_new' ho0 (Kd.R_lt (by (with_reducible repeat ((apply Kd.R_drew))); exact HO139.out))) (Kd.R_lt (by (with_reducible repeat ((apply Kd.R_drew))); exact HO142.out))) (below_size (by repeat ((with_reducible (exact HB.out)))))); have n3_ := Aside0.mk (below_step (by repeat ((with_reducible (exact HB.out)))) hb); clear HO139; clear HO142; clear HB; have HO139 := n0_; have HO142 := n1_; have HO146 := n2_; have HB := n3_; clear n0_ n1_ n2_ n3_; (try clear hb); (try clear hb2); (try clear hk); (try clear hi); (try clear ho0)) | ((with_reducible refine gate_dst (N := 22) rfl ?_); (try (refine gate_guard (by rfl) ?_; dsimp only)); refine Kd.R_lit k43 _ 43 ?hg (N := 22) ?hd (xs := ([(⟨1, (⟨#[]⟩ : ByteArray), 0⟩ : S43), (⟨0, (⟨#[120]⟩ : ByteArray), 0⟩ : S43), (⟨1, (⟨#[]⟩ : ByteArray), 0⟩ : S43)] : List (S43))) (inner := [.int .i64 1, .string (⟨#[]⟩ : ByteArray), .int .i64 0, .int .i64 0, .string (⟨#[120]⟩ : ByteArray), .int .i64 0, .int .i64 1, .string (⟨#[]⟩ : ByteArray), .int .i64 0]) (ok := fun _ => True) (okp := fun _ => True) ?hr ?hp (fun _ hk => hk) trivial (Below.refl _ _) (Nat.le_refl _) (by simp) ?_; (case hd => rfl); (case hg => rfl); (case hr => (go_simp; done)); (case hp => exact (Reps.c3 (show Kd.M k43 _ _ _ (⟨1, (⟨#[]⟩ : ByteArray), 0⟩ : S43) [.int .i64 1, .string (⟨#[]⟩ : ByteArray), .int .i64 0] from (k43_mkM _ _ _ (⟨1, (⟨#[]⟩ : ByteArray), 0⟩ : S43) )) (Reps.c3 (show Kd.M k43 _ _ _ (⟨0, (⟨#[120]⟩ : ByteArray), 0⟩ : S43) [.int .i64 0, .string (⟨#[120]⟩ : ByteArray), .int .i64 0] from (k43_mkM _ _ _ (⟨0, (⟨#[120]⟩ : ByteArray), 0⟩ : S43) )) (Reps.c3 (show Kd.M k43 _ _ _ (⟨1, (⟨#[]⟩ : ByteArray), 0⟩ : S43) [.int .i64 1, .string (⟨#[]⟩ : ByteArray), .int .i64 0] from (k43_mkM _ _ _ (⟨1, (⟨#[]⟩ : ByteArray), 0⟩ : S43) )) (Reps.none _ _))))); intro v148 w11 ho12 hb hg_ hnew_; clear hg_ hnew_; ((rw [← Ny147.out] at ho12)); have n0_ := Aside0.mk (Kd.R_elder' (by (with_reducible repeat ((apply Kd.R_drew))); exact HO139.out) (Kd.R_base ho12) hb); have n1_ := Aside0.mk (Kd.R_elder' (by (with_reducible repeat ((apply Kd.R_drew))); exact HO142.out) (Kd.R_base ho12) hb); have n2_ := Aside0.mk (Kd.R_elder' (by (with_reducible repeat ((apply Kd.R_drew))); exact HO146.out) (Kd.R_base ho12) hb); have n3_ := Aside0.mk (Kd.R_lower (Kd.R_new' (Kd.R_new' (Kd.R_new' ho12 (Kd.R_lt (by (with_reducible repeat ((apply Kd.R_drew))); exact HO139.out))) (Kd.R_lt (by (with_reducible repeat ((apply Kd.R_drew))); exact HO142.out))) (Kd.R_lt (by (with_reducible repeat ((apply Kd.R_drew))); exact HO146.out))) (below_size (by repeat ((with_reducible (exact HB.out)))))); have n4_ := Aside0.mk (below_step (by repeat ((with_reducible (exact HB.out)))) hb); clear HO139; clear HO142; clear HO146; clear HB; have HO139 := n0_; have HO142 := n1_; have HO146 := n2_; have HO149 := n3_; have HB := n4_; clear n0_ n1_ n2_ n3_ n4_; clear hb ho12; obtain ⟨Ao13, co13, eo13⟩ := Kd.R_slice HO146.out; subst eo13; obtain ⟨Ao14, co14, eo14⟩ := Kd.R_slice HO149.out; subst eo14) | (go_at_call 11; (with_reducible refine (variorumref06_Same.calls k _ _ t143 _ _ y147 t150 _ ?side1 ?side2 ?side3 ?side4 A3.out).mono ?_); (case side1 => repeat ((exact (Kd.R_reads' HO146.out).2.2))); (case side2 => exact (Kd.R_reads' HO146.out).2.1); (case side3 => repeat ((exact (Kd.R_reads' HO149.out).2.2))); (case side4 => exact (Kd.R_reads' HO149.out).2.1); rintro e w' ⟨rfl, ⟨nd, rfl⟩⟩))
  go_ret
  exact ⟨by (rfl), by repeat ((with_reducible first | exact HB.out | apply pw_below_drewN))⟩
 ·rw [if_neg c2] at H
  have c2b0 : (t144 == 0) = false := beq_eq_false_iff_ne.mpr c2
  have c2b1 : (t144 != 0) = true := bne_iff_ne.mpr c2
  obtain rfl := Option.some.inj H
  go_enter Try.func8, Try.ntmps8
  go_wp2_with (first | ((with_reducible refine gate_dst (N := 7) rfl ?_); (try (refine gate_guard (by rfl) ?_; dsimp only)); refine Kd.R_lit k43 _ 43 ?hg (N := 7) ?hd (xs := ([(⟨1, (⟨#[]⟩ : ByteArray), 0⟩ : S43), (⟨0, (⟨#[120, 121]⟩ : ByteArray), 0⟩ : S43), (⟨1, (⟨#[]⟩ : ByteArray), 0⟩ : S43)] : List (S43))) (inner := [.int .i64 1, .string (⟨#[]⟩ : ByteArray), .int .i64 0, .int .i64 0, .string (⟨#[120, 121]⟩ : ByteArray), .int .i64 0, .int .i64 1, .string (⟨#[]⟩ : ByteArray), .int .i64 0]) (ok := fun _ => True) (okp := fun _ => True) ?hr ?hp (fun _ hk => hk) trivial (Below.refl _ _) (Nat.le_refl _) (by simp) ?_; (case hd => rfl); (case hg => rfl); (case hr => (go_simp; done)); (case hp => exact (Reps.c3 (show Kd.M k43 _ _ _ (⟨1, (⟨#[]⟩ : ByteArray), 0⟩ : S43) [.int .i64 1, .string (⟨#[]⟩ : ByteArray), .int .i64 0] from (k43_mkM _ _ _ (⟨1, (⟨#[]⟩ : ByteArray), 0⟩ : S43) )) (Reps.c3 (show Kd.M k43 _ _ _ (⟨0, (⟨#[120, 121]⟩ : ByteArray), 0⟩ : S43) [.int .i64 0, .string (⟨#[120, 121]⟩ : ByteArray), .int .i64 0] from (k43_mkM _ _ _ (⟨0, (⟨#[120, 121]⟩ : ByteArray), 0⟩ : S43) )) (Reps.c3 (show Kd.M k43 _ _ _ (⟨1, (⟨#[]⟩ : ByteArray), 0⟩ : S43) [.int .i64 1, .string (⟨#[]⟩ : ByteArray), .int .i64 0] from (k43_mkM _ _ _ (⟨1, (⟨#[]⟩ : ByteArray), 0⟩ : S43) )) (Reps.none _ _))))); intro v138 w15 ho16 hb hg_ hnew_; clear hg_ hnew_; ((rw [← Ny137.out] at ho16)); have n0_ := Aside0.mk (Kd.R_lower ho16 (below_size (by repeat ((with_reducible (exact HB.out)))))); have n1_ := Aside0.mk (below_step (by repeat ((with_reducible (exact HB.out)))) hb); clear HB; have HO139 := n0_; have HB := n1_; clear n0_ n1_; clear hb ho16) | ((with_reducible refine gate_dst (N := 11) rfl ?_); (try (refine gate_guard (by rfl) ?_; dsimp only)); refine Kd.R_lit k43 _ 43 ?hg (N := 11) ?hd (xs := ([(⟨2, (⟨#[]⟩ : ByteArray), 0⟩ : S43), (⟨0, (⟨#[]⟩ : ByteArray), 1⟩ : S43), (⟨1, (⟨#[]⟩ : ByteArray), 0⟩ : S43)] : List (S43))) (inner := [.int .i64 2, .string (⟨#[]⟩ : ByteArray), .int .i64 0, .int .i64 0, .string (⟨#[]⟩ : ByteArray), .int .i64 1, .int .i64 1, .string (⟨#[]⟩ : ByteArray), .int .i64 0]) (ok := fun _ => True) (okp := fun _ => True) ?hr ?hp (fun _ hk => hk) trivial (Below.refl _ _) (Nat.le_refl _) (by simp) ?_; (case hd => rfl); (case hg => rfl); (case hr => (go_simp; done)); (case hp => exact (Reps.c3 (show Kd.M k43 _ _ _ (⟨2, (⟨#[]⟩ : ByteArray), 0⟩ : S43) [.int .i64 2, .string (⟨#[]⟩ : ByteArray), .int .i64 0] from (k43_mkM _ _ _ (⟨2, (⟨#[]⟩ : ByteArray), 0⟩ : S43) )) (Reps.c3 (show Kd.M k43 _ _ _ (⟨0, (⟨#[]⟩ : ByteArray), 1⟩ : S43) [.int .i64 0, .string (⟨#[]⟩ : ByteArray), .int .i64 1] from (k43_mkM _ _ _ (⟨0, (⟨#[]⟩ : ByteArray), 1⟩ : S43) )) (Reps.c3 (show Kd.M k43 _ _ _ (⟨1, (⟨#[]⟩ : ByteArray), 0⟩ : S43) [.int .i64 1, .string (⟨#[]⟩ : ByteArray), .int .i64 0] from (k43_mkM _ _ _ (⟨1, (⟨#[]⟩ : ByteArray), 0⟩ : S43) )) (Reps.none _ _))))); intro v141 w17 ho18 hb hg_ hnew_; clear hg_ hnew_; ((rw [← Ny140.out] at ho18)); have n0_ := Aside0.mk (Kd.R_elder' (by (with_reducible repeat ((apply Kd.R_drew))); exact HO139.out) (Kd.R_base ho18) hb); have n1_ := Aside0.mk (Kd.R_lower (Kd.R_new' ho18 (Kd.R_lt (by (with_reducible repeat ((apply Kd.R_drew))); exact HO139.out))) (below_size (by repeat ((with_reducible (exact HB.out)))))); have n2_ := Aside0.mk (below_step (by repeat ((with_reducible (exact HB.out)))) hb); clear HO139; clear HB; have HO139 := n0_; have HO142 := n1_; have HB := n2_; clear n0_ n1_ n2_; clear hb ho18; obtain ⟨Ao19, co19, eo19⟩ := Kd.R_slice HO139.out; subst eo19; obtain ⟨Ao20, co20, eo20⟩ := Kd.R_slice HO142.out; subst eo20) | ((with_reducible refine gate_callee (f := 9) rfl ?_); refine goesL_ (some 12) rfl rfl Try.func9 (by kernel_rfl) rfl #[.slice Ao19 y137.length co19, .slice Ao20 y140.length co20] rfl (by (try simp only [List.map_toArray, List.map_cons, List.map_nil]); (rfl)) ?_; (with_reducible refine (compose_Two.calls _ _ y137 _ _ y140 t143 t144 _ ?side1 ?side2 ?side3 ?side4 A1.out).mono ?_); (case side1 => repeat ((exact (Kd.R_reads' HO139.out).2.2))); (case side2 => exact (Kd.R_reads' HO139.out).2.1); (case side3 => repeat ((exact (Kd.R_reads' HO142.out).2.2))); (case side4 => exact (Kd.R_reads' HO142.out).2.1); rintro e w21 ⟨v145, rfl, ho0, hb⟩; refine ⟨_, rfl, ?_⟩; have n0_ := Aside0.mk (Kd.R_elder' (by (with_reducible repeat ((apply Kd.R_drew))); exact HO139.out) (Kd.R_base ho0) hb); have n1_ := Aside0.mk (Kd.R_elder' (by (with_reducible repeat ((apply Kd.R_drew))); exact HO142.out) (Kd.R_base ho0) hb); have n2_ := Aside0.mk (Kd.R_lower (Kd.R_new' (Kd.R_new' ho0 (Kd.R_lt (by (with_reducible repeat ((apply Kd.R_drew))); exact HO139.out))) (Kd.R_lt (by (with_reducible repeat ((apply Kd.R_drew))); exact HO142.out))) (below_size (by repeat ((with_reducible (exact HB.out)))))); have n3_ := Aside0.mk (below_step (by repeat ((with_reducible (exact HB.out)))) hb); clear HO139; clear HO142; clear HB; have HO139 := n0_; have HO142 := n1_; have HO146 := n2_; have HB := n3_; clear n0_ n1_ n2_ n3_; (try clear hb); (try clear hb2); (try clear hk); (try clear hi); (try clear ho0)))
  go_ret
  exact ⟨by (rfl), by repeat ((with_reducible (exact HB.out)))⟩
end Go.Proofs.Ytbfdplmgefcogaa.P
end
-- MERGED YtbfdplmgefcogaaPeditNothing
section

namespace Go.Proofs.Ytbfdplmgefcogaa.P
open Go.RowKit Go.Proofs.YtbfdplmgefcogaaW.PrintWords Go.Proofs.YtbfdplmgefcogaaW.PrintLast Go.Proofs.YtbfdplmgefcogaaW.PrintMore
attribute [local go_sem] max2_int min2_int max_two min_two max_three min_three max_four min_four
set_option linter.unusedVariables false
set_option linter.unusedSimpArgs false
def edit_Nothing.f (a0 : Int) : Option ((List (S43))) := if a0 < 1 then (some ([] : List (S43))) else (if a0 > 16777216 then (some ([] : List (S43))) else (some (([(⟨a0, (⟨#[]⟩ : ByteArray), 0⟩ : S43)] : List (S43)))))
set_option maxHeartbeats 8000000 in
set_option maxRecDepth 100000 in
theorem edit_Nothing.calls (a0 : Int) (r : List (S43)) (w : World) (h : edit_Nothing.f a0 = some r) :
  Calls Try.prog 17 #[.int .i64 a0] w fun e w' => ∃ v0_ : Value, e = .returned (v0_) ∧ Kd.R k43 43 w' w.heap.size (fun _ => True) v0_ r ∧ Below w.heap.size w w' := by
 have hu43 := Try.underlying43
 have HB := Aside0.mk (Below.refl w.heap.size w)
 have H : (if a0 < 1 then (some ([] : List (S43))) else (if a0 > 16777216 then (some ([] : List (S43))) else (some (([(⟨a0, (⟨#[]⟩ : ByteArray), 0⟩ : S43)] : List (S43)))))) = some r := h
 clear h
 by_cases c2 : a0 < 1
 ·rw [if_pos c2] at H
  have c2b0 : decide (a0 < 1) = true := decide_eq_true c2
  clear c2
  obtain rfl := Option.some.inj H
  go_enter Try.func17, Try.ntmps17
  go_wp2
  go_ret
  exact ⟨_, by first | rfl | (simp [errW_none, errW_some] <;> rfl) | (simp [*, errW_none, errW_some] <;> rfl), by first | exact Kd.R_nil _ _ _ _ _ | exact Kd.N_nil _ _ _ _ _ | exact Kd.V_nil _ _ _ _ _ | exact Kd.Q_nil _ _ _ _ _ | exact Kd.S_nil _ _ _ _ _, by repeat (first | (with_reducible first | exact HB.out | apply below_alloc | apply pw_below_drewN | apply below_drew1) | exact HB.out)⟩
 ·rw [if_neg c2] at H
  have c2b0 : decide (a0 < 1) = false := decide_eq_false c2
  clear c2
  by_cases c3 : a0 > 16777216
  ·rw [if_pos c3] at H
   have c3b0 : decide (16777216 < a0) = true := decide_eq_true c3
   clear c3
   obtain rfl := Option.some.inj H
   go_enter Try.func17, Try.ntmps17
   go_wp2
   go_ret
   exact ⟨_, by first | rfl | (simp [errW_none, errW_some] <;> rfl) | (simp [*, errW_none, errW_some] <;> rfl), by first | exact Kd.R_nil _ _ _ _ _ | exact Kd.N_nil _ _ _ _ _ | exact Kd.V_nil _ _ _ _ _ | exact Kd.Q_nil _ _ _ _ _ | exact Kd.S_nil _ _ _ _ _, by repeat (first | (with_reducible first | exact HB.out | apply below_alloc | apply pw_below_drewN | apply below_drew1) | exact HB.out)⟩
  ·rw [if_neg c3] at H
   have c3b0 : decide (16777216 < a0) = false := decide_eq_false c3
   clear c3
   obtain ⟨y261, hy261⟩ : ∃ y_ : List (S43), y_ = (([(⟨a0, (⟨#[]⟩ : ByteArray), 0⟩ : S43)] : List (S43))) := ⟨_, rfl⟩
   replace H : (some y261) = some r := by first | (rw [hy261]; with_reducible exact H) | (have H2_ := (Option.bind_some _ _).symm.trans H; rw [hy261]; with_reducible exact H2_) | (have H2_ := (Option.bind_some _ _).symm.trans H; with_reducible exact H2_) | with_reducible exact H | (rw [hy261]; exact H) | exact H
   have Ny261 := Aside0.mk hy261
   clear hy261
   obtain rfl := Option.some.inj H
   go_enter Try.func17, Try.ntmps17
   go_wp2_with (first | ((with_reducible refine gate_dst (N := 11) rfl ?_); refine Kd.R_lit k43 _ 43 ?hg (N := 11) ?hd (xs := ([(⟨a0, (⟨#[]⟩ : ByteArray), 0⟩ : S43)] : List (S43))) (inner := [.int .i64 a0, .string (⟨#[]⟩ : ByteArray), .int .i64 0]) (ok := fun _ => True) (okp := fun _ => True) ?hr ?hp (fun _ hk => hk) trivial (Below.refl _ _) (Nat.le_refl _) (by simp) ?_; (case hd => rfl); (case hg => rfl); (case hr => first | (go_simp; done) | (go_simp; rfl)); (case hp => exact (Reps.c3 (show Kd.M k43 _ _ _ (⟨a0, (⟨#[]⟩ : ByteArray), 0⟩ : S43) [.int .i64 a0, .string (⟨#[]⟩ : ByteArray), .int .i64 0] from (k43_mkM _ _ _ (⟨a0, (⟨#[]⟩ : ByteArray), 0⟩ : S43) )) (Reps.none _ _))); intro v262 w4 ho5 hb hg_ hnew_; clear hg_ hnew_; (first | rw [← Ny261.out] at ho5 | (simp only [Int.reduceToNat] at ho5; rw [← Ny261.out] at ho5)); have n0_ := Aside0.mk (Kd.R_lower ho5 (below_size (by repeat (first | (with_reducible first | exact HB.out | apply below_alloc | apply pw_below_drewN | apply below_drew1) | exact HB.out)))); have n1_ := Aside0.mk (below_step (by repeat (first | (with_reducible first | exact HB.out | apply below_alloc | apply pw_below_drewN | apply below_drew1) | exact HB.out)) hb); clear HB; have HO263 := n0_; have HB := n1_; clear n0_ n1_; clear hb ho5))
   go_ret
   exact ⟨_, by first | rfl | (simp [errW_none, errW_some] <;> rfl) | (simp [*, errW_none, errW_some] <;> rfl), by (with_reducible repeat (first | apply Kd.R_alloc | apply Kd.R_drewN | apply Kd.R_drew)); exact HO263.out, by repeat (first | (with_reducible first | exact HB.out | apply below_alloc | apply pw_below_drewN | apply below_drew1) | exact HB.out)⟩
end Go.Proofs.Ytbfdplmgefcogaa.P
end
-- MERGED YtbfdplmgefcogaaComposeF
section

namespace Go.Proofs.Ytbfdplmgefcogaa.ComposeF
open Go.RowKit Go.Proofs.Ytbfdplmgefcogaa.P Go.Proofs.YtbfdplmgefcogaaW.PrintWords Go.Proofs.YtbfdplmgefcogaaW.PrintLast Go.Proofs.YtbfdplmgefcogaaW.PrintMore Go.Proofs.Ytbfdplmgefcogaa.EditL Go.Proofs.Ytbfdplmgefcogaa.EditK Go.Proofs.Ytbfdplmgefcogaa.EditF Go.Proofs.Ytbfdplmgefcogaa.EditG Go.Proofs.Ytbfdplmgefcogaa.EditH1 Go.Proofs.Ytbfdplmgefcogaa.SameF Go.Proofs.Ytbfdplmgefcogaa.RunA Go.Proofs.Ytbfdplmgefcogaa.RunL Go.Proofs.Ytbfdplmgefcogaa.ComposeL Go.Proofs.Ytbfdplmgefcogaa.ComposeT
set_option linter.unusedSimpArgs false
set_option linter.unusedVariables false
theorem few_f (l : List Rn) (k : Nat) (hk : 200 < k) : ∃ b, variorumlaw08_few.f k l = some b ∧ (b = true → l.length ≤ 100 ∧ (good l = true → inL l ≤ 3000 ∧ outL l ≤ 3000)) := by
 unfold variorumlaw08_few.f
 obtain ⟨b, h1, h2⟩ := LightF.light_f l k (by omega)
 rw [h1, Option.bind_some]
 cases b with
 | false => exact ⟨false, rfl, fun h => by cases h⟩
 | true =>
  obtain ⟨hl, _⟩ := h2 rfl
  rw [if_pos rfl, rgood_f (by omega), Option.bind_some]
  cases hg : good l with
  | false => exact ⟨true, rfl, fun _ => ⟨hl, fun h => by cases h⟩⟩
  | true =>
   rw [if_pos rfl, rin_f (by omega) _ (by omega), Option.bind_some, hg, if_pos rfl]
   by_cases h : inL l ≤ 3000
   ·rw [if_pos h, rout_f (by omega) _ (by omega), Option.bind_some, hg, if_pos rfl]
    exact ⟨_, rfl, fun e => ⟨hl, fun _ => ⟨h, of_decide_eq_true e⟩⟩⟩
   ·rw [if_neg h]; exact ⟨false, rfl, fun h => by cases h⟩
theorem two_f {a b : List Rn} (ha : a.length ≤ 140737488351232) (hb : b.length ≤ 140737488351232) : compose_Two.f a b = some (twoL a b) := by unfold compose_Two.f; rw [if_pos ⟨ha, hb⟩]
theorem nothing_f {n : Int} (h0 : 0 ≤ n) (h1 : n ≤ 16777216) : edit_Nothing.f n = some (nothing n) := by
 unfold edit_Nothing.f nothing
 by_cases h : n < 1
 ·rw [if_pos h, if_neg (by omega)]
 ·rw [if_neg h, if_neg (by omega), if_pos (by omega)]; rfl
def x0 : ByteArray := ⟨#[120, 121]⟩
def e1 : List Rn := [⟨1, E, 0⟩, ⟨0, x0, 0⟩, ⟨1, E, 0⟩]
def e2 : List Rn := [⟨2, E, 0⟩, ⟨0, E, 1⟩, ⟨1, E, 0⟩]
theorem two_12 : twoL e1 e2 = ([⟨1, E, 0⟩, ⟨0, ⟨#[120]⟩, 0⟩, ⟨1, E, 0⟩], 0) := by
 have k11 : knd ⟨1, E, 0⟩ = 1 := by decide
 have k21 : knd ⟨2, E, 0⟩ = 1 := by decide
 have kx : knd ⟨0, x0, 0⟩ = 2 := by decide
 have k3 : knd ⟨0, E, 1⟩ = 3 := by decide
 have m : meet e1 e2 = true := by decide
 have hx : x0.extract 0 1 = ⟨#[120]⟩ := L_inj (by rw [L_cut]; decide)
 have hy : (x0.extract 1 2).size = 1 := by rw [ext_size]; rfl
 have ky : knd ⟨0, x0.extract 1 2, 0⟩ = 2 := knd_add (by rw [hy]; decide)
 have b5 : Bo [⟨1, E, 0⟩] [⟨1, E, 0⟩] [⟨1, E, 0⟩] := Bo.two (x := ⟨1, E, 0⟩) (X := []) (y := ⟨1, E, 0⟩) (Y := []) (L := []) (.inl k11) (.inl k11) .nil
 have b4 : Bo [⟨0, x0.extract 1 2, 0⟩, ⟨1, E, 0⟩] [⟨0, E, 1⟩, ⟨1, E, 0⟩] [⟨1, E, 0⟩] := by
  have hs : sz ⟨0, x0.extract 1 2, 0⟩ = 1 := by rw [(sz_add ky).1, hy]; rfl
  have hn : mn2 (sz ⟨0, x0.extract 1 2, 0⟩) (sz ⟨0, E, 1⟩) = 1 := by rw [hs]; rfl
  have := Bo.two (x := ⟨0, x0.extract 1 2, 0⟩) (X := [⟨1, E, 0⟩]) (y := ⟨0, E, 1⟩) (Y := [⟨1, E, 0⟩]) (L := [⟨1, E, 0⟩]) (.inr ky) (.inr k3) (by
   rw [hn, show cutl 1 ⟨0, x0.extract 1 2, 0⟩ [⟨1, E, 0⟩] = [⟨1, E, 0⟩] from if_pos hs.symm]; exact b5)
  rw [hn] at this
  unfold mid at this
  rw [if_neg (by rw [k3]; decide), if_neg (by rw [ky]; decide)] at this
  exact this
 have b3 : Bo [⟨0, x0, 0⟩, ⟨1, E, 0⟩] [⟨1, E, 0⟩, ⟨0, E, 1⟩, ⟨1, E, 0⟩] [⟨0, ⟨#[120]⟩, 0⟩, ⟨1, E, 0⟩] := by
  have hn : mn2 (sz ⟨0, x0, 0⟩) (sz ⟨1, E, 0⟩) = 1 := rfl
  have := Bo.two (x := ⟨0, x0, 0⟩) (X := [⟨1, E, 0⟩]) (y := ⟨1, E, 0⟩) (Y := [⟨0, E, 1⟩, ⟨1, E, 0⟩]) (L := [⟨1, E, 0⟩]) (.inr kx) (.inl k11) (by
   rw [hn, show cutl 1 ⟨0, x0, 0⟩ [⟨1, E, 0⟩] = [⟨0, x0.extract 1 2, 0⟩, ⟨1, E, 0⟩] from by
    unfold cutl
    rw [if_neg (by decide), part_add kx]; rfl]
   exact b4)
  rw [hn] at this
  unfold mid at this
  rw [if_pos k11, part_add kx] at this
  show Bo _ _ ([⟨0, ⟨#[120]⟩, 0⟩] ++ [⟨1, E, 0⟩])
  rw [← hx]
  exact this
 have b1 : Bo e1 e2 [⟨1, E, 0⟩, ⟨0, ⟨#[120]⟩, 0⟩, ⟨1, E, 0⟩] := by
  have hn : mn2 (sz ⟨1, E, 0⟩) (sz ⟨2, E, 0⟩) = 1 := rfl
  have := Bo.two (x := ⟨1, E, 0⟩) (X := [⟨0, x0, 0⟩, ⟨1, E, 0⟩]) (y := ⟨2, E, 0⟩) (Y := [⟨0, E, 1⟩, ⟨1, E, 0⟩]) (L := [⟨0, ⟨#[120]⟩, 0⟩, ⟨1, E, 0⟩]) (.inl k11) (.inl k21) (by
   rw [hn, show cutl 1 ⟨2, E, 0⟩ [⟨0, E, 1⟩, ⟨1, E, 0⟩] = [⟨1, E, 0⟩, ⟨0, E, 1⟩, ⟨1, E, 0⟩] from by
    unfold cutl
    rw [if_neg (by decide), part_keep k21]; rfl]
   exact b3)
  rw [hn] at this
  unfold mid at this
  rw [if_pos k21, part_keep k11] at this
  exact this
 obtain ⟨g1, g2, _⟩ := meet_iff.1 m
 have hb : both e1 e2 = [⟨1, E, 0⟩, ⟨0, ⟨#[120]⟩, 0⟩, ⟨1, E, 0⟩] := bo_fun b1 (good_ok g1).2.2.2 (good_ok g2).2.2.2 _ (by decide)
 rw [two_yes m, hb, fin2_good (by decide)]
theorem lives_f (k : Nat) (hk : 40 ≤ k) : variorumlaw08_lives.f k = some true := by
 unfold variorumlaw08_lives.f
 have h1 := two_f (a := e1) (b := e2) (by decide) (by decide)
 rw [two_12] at h1
 have c1 := same_eq [⟨1, E, 0⟩, ⟨0, ⟨#[120]⟩, 0⟩, ⟨1, E, 0⟩] (by simp) k (by simp; omega)
 show (compose_Two.f e1 e2).bind _ = _
 rw [h1, Option.bind_some, if_pos rfl]
 show (variorumref06_Same.f k [⟨1, E, 0⟩, ⟨0, ⟨#[120]⟩, 0⟩, ⟨1, E, 0⟩] [⟨1, E, 0⟩, ⟨0, ⟨#[120]⟩, 0⟩, ⟨1, E, 0⟩]).bind _ = _
 rw [c1, Option.bind_some]
theorem lives_b (k : Nat) (hk : 40 ≤ k) : ((variorumlaw08_lives.f k).bind fun t => some t) = some true := by rw [lives_f k hk]; rfl
theorem fitsL_iff {op : List Rn} {n : Int} : fitsL op n = true ↔ good op = true ∧ inL op = n := by unfold fitsL; simp
end Go.Proofs.Ytbfdplmgefcogaa.ComposeF
end
-- MERGED YtbfdplmgefcogaaMaps1
section

namespace Go.Proofs.Ytbfdplmgefcogaa.Maps1
open Go.RowKit Go.Proofs.YtbfdplmgefcogaaW.PrintWords Go.Proofs.YtbfdplmgefcogaaW.PrintLast Go.Proofs.YtbfdplmgefcogaaW.PrintMore
theorem C_map {α β : Type} {d : Kd α} {d' : Kd β} {w : World} {A : Option Addr} {n : Nat} {xs : List α} (hs : d.sz = d'.sz) (f : α → β) (hK : ∀ x cs, d.K w x cs → d'.K w (f x) cs) (h : Kd.C d w A n xs) : Kd.C d' w A n (xs.map f) := by
 refine ⟨by rw [List.length_map]; exact h.1, h.2.1, fun hp => ?_⟩
 obtain ⟨ad, e, hr⟩ := h.2.2 hp
 refine ⟨ad, e, fun j p hj => ?_⟩
 rw [List.getElem?_map] at hj
 cases hx : xs[j]? with
 | none => rw [hx] at hj; cases hj
 | some x =>
  rw [hx] at hj
  obtain rfl := Option.some.inj hj
  obtain ⟨c, h1, h2, h3⟩ := hr j x hx
  exact ⟨c, by rw [h1, hs], hK x c h2, fun i u hu => by rw [← hs]; exact h3 i u hu⟩
theorem K_slice_map {α β : Type} {d : Kd α} {d' : Kd β} {w : World} {e : Nat} (hs : d.sz = d'.sz) (f : α → β) (hK : ∀ x cs, d.K w x cs → d'.K w (f x) cs) (xs : List α) (cs : List Value) (h : (Kd.slice e d).K w xs cs) : (Kd.slice e d').K w (xs.map f) cs := by
 obtain ⟨A, c, rfl, h1, h2⟩ := h
 exact ⟨A, c, by rw [List.length_map], by rw [List.length_map]; exact h1, by rw [List.length_map]; exact C_map hs f hK h2⟩
end Go.Proofs.Ytbfdplmgefcogaa.Maps1
end
-- MERGED YtbfdplmgefcogaaPcomposeAll
section

namespace Go.Proofs.Ytbfdplmgefcogaa.P
open Go.RowKit Go.Proofs.YtbfdplmgefcogaaW.PrintWords Go.Proofs.YtbfdplmgefcogaaW.PrintLast Go.Proofs.YtbfdplmgefcogaaW.PrintMore
attribute [local go_sem] max2_int min2_int max_two min_two max_three min_three max_four min_four
set_option linter.unusedVariables false
set_option linter.unusedSimpArgs false
mutual
def compose_All.j0 : Nat → Int → List (List (S43)) → Bool → Option ((List (S43)) × Int)
 | 0, _, _, _ => none
 | k + 1, x0, x1, x16 => if x16 = true then (some (([] : List (S43)), 2)) else ((edit_Nothing.f x0).bind fun t264 => (compose_All.l0 k t264 x1 (x1.length : Int) 0))
def compose_All.l0 : Nat → List (S43) → List (List (S43)) → Int → Int → Option ((List (S43)) × Int)
 | 0, _, _, _, _ => none
 | k + 1, x6, x19, x20, x21 => if x21 < x20 then (if 0 ≤ x21 then (if x21 < (x19.length : Int) then ((compose_Two.f x6 (rd_L3 x19 x21)).bind fun bt268 => (if bt268.2 = 0 then (compose_All.l0 k bt268.1 x19 x20 (wrap64 (x21 + 1))) else (some (([] : List (S43)), bt268.2)))) else (none)) else (none)) else (some (x6, 0))
end
def compose_All.f (k : Nat) (a0 : Int) (l1 : List (List (S43))) : Option ((List (S43)) × Int) := if a0 < 0 then (compose_All.j0 k a0 l1 true) else (compose_All.j0 k a0 l1 (decide (a0 > 16777216)))
theorem compose_All.mono_l : ∀ k, (∀ y0 y1 y2, LeO (compose_All.j0 k y0 y1 y2) (compose_All.j0 (k + 1) y0 y1 y2)) ∧ (∀ y0 y1 y2 y3, LeO (compose_All.l0 k y0 y1 y2 y3) (compose_All.l0 (k + 1) y0 y1 y2 y3))
 | 0 => ⟨fun _ _ _ r h => by simp [compose_All.j0] at h, fun _ _ _ _ r h => by simp [compose_All.l0] at h⟩
 | k + 1 => by
  obtain ⟨ih0, ih1⟩ := compose_All.mono_l k
  refine ⟨?_, ?_⟩
  ·intro y0 y1 y2
   unfold compose_All.j0
   repeat' first | (with_reducible exact ih1 _ _ _ _) | (with_reducible exact LeO.refl _) | (with_reducible refine LeO.ite ?_ ?_) | (with_reducible refine LeO.bind ?_ (fun _ => ?_))
  ·intro y0 y1 y2 y3
   unfold compose_All.l0
   repeat' first | (with_reducible exact ih1 _ _ _ _) | (with_reducible exact LeO.refl _) | (with_reducible refine LeO.ite ?_ ?_) | (with_reducible refine LeO.bind ?_ (fun _ => ?_))
theorem compose_All.mono : ∀ a0 a1 k, LeO (compose_All.f k a0 a1) (compose_All.f (k + 1) a0 a1) := by
 intro a0 a1 k
 obtain ⟨ih0, ih1⟩ := compose_All.mono_l k
 unfold compose_All.f
 repeat' first | (with_reducible exact ih0 _ _ _) | (with_reducible refine LeO.ite ?_ ?_)
set_option maxHeartbeats 8000000 in
set_option maxRecDepth 100000 in
theorem compose_All.calls (k : Nat) (a0 : Int) (A1 : Option Addr) (c1 : Nat) (l1 : List (List (S43))) (r1 : List (S43)) (r2 : Int) (w : World) (hr1 : Kd.C (Kd.slice 43 k43) w A1 l1.length l1) (hc1 : l1.length ≤ c1) (h : compose_All.f k a0 l1 = some (r1, r2)) :
  Calls Try.prog 12 #[.int .i64 a0, .slice A1 l1.length c1] w fun e w' => ∃ v0_ : Value, e = .returned (.tuple #[v0_, .int .i64 r2]) ∧ Kd.R k43 43 w' w.heap.size (fun _ => True) v0_ r1 ∧ Below w.heap.size w w' := by
 have HR1 := Aside0.mk hr1
 have HC1 := Aside0.mk hc1
 clear hr1 hc1
 have HB := Aside0.mk (Below.refl w.heap.size w)
 have H : (if a0 < 0 then (compose_All.j0 k a0 l1 true) else (compose_All.j0 k a0 l1 (decide (a0 > 16777216)))) = some (r1, r2) := h
 clear h
 have HC3 := Aside0.mk H
 clear H
 go_enter Try.func12, Try.ntmps12
 go_upto_region 1 with (fail)
 go_cut [16] (fun v16 wc => ∃ (kq : Nat) (x16_2 : Bool), v16 = .bool x16_2 ∧ Aside0 (compose_All.j0 kq a0 l1 x16_2 = some (r1, r2)) ∧ Aside0 (kq ≤ k) ∧ Aside0 (Below w.heap.size w wc))
 case first =>
  have H := HC3.out
  clear HC3
  by_cases c4 : a0 < 0
  ·rw [if_pos c4] at H
   have c4b0 : decide (a0 < 0) = true := decide_eq_true c4
   clear c4
   ((skip))
   have H' := Aside0.mk H
   clear H
   go_wp2
   go_meet
   case rel => exact ⟨_, (true), (by (rfl)), H', ⟨by (omega)⟩, ⟨by repeat ((with_reducible (exact HB.out)))⟩⟩
  ·rw [if_neg c4] at H
   have c4b0 : decide (a0 < 0) = false := decide_eq_false c4
   clear c4
   ((skip))
   have H' := Aside0.mk H
   clear H
   go_wp2
   go_meet
   case rel => exact ⟨_, (decide (a0 > 16777216)), (by (rfl)), H', ⟨by (omega)⟩, ⟨by repeat ((with_reducible (exact HB.out)))⟩⟩
 case rest =>
  clear HC3
  try clear c1
  try clear p2
  try clear c4
  try clear c4b0
  obtain ⟨kq, x16_2, rfl, HA, HJ2, HB⟩ := hcut
  cases kq with
  | zero => exact absurd HA.out (by simp [compose_All.j0])
  | succ kj2 =>
   have H := HA.out
   clear HA
   simp only [compose_All.j0] at H
   by_cases c5 : x16_2 = true
   ·subst c5
    have H1 : (some (([] : List (S43)), 2)) = some (r1, r2) := by rw [if_pos rfl] at H; exact H
    clear H
    have H := H1
    clear H1
    simp only [Option.some.injEq, Prod.mk.injEq] at H
    obtain ⟨rfl, rfl⟩ := H
    go_wp2
    go_ret2
    exact ⟨_, by (rfl), by (exact Kd.R_nil _ _ _ _ _), by repeat ((with_reducible (exact HB.out)))⟩
   ·replace c5 := Bool.eq_false_iff.mpr c5
    subst c5
    have H1 : ((edit_Nothing.f a0).bind fun t264 => (compose_All.l0 kj2 t264 l1 (l1.length : Int) 0)) = some (r1, r2) := by rw [if_neg (show ¬ (false = true) by decide)] at H; exact H
    clear H
    have H := H1
    clear H1
    replace H := Option.bind_eq_some_iff.mp H
    obtain ⟨t264, A60, H⟩ := H
    replace H : (compose_All.l0 kj2 t264 l1 (l1.length : Int) 0) = some (r1, r2) := H
    have A6 := Aside0.mk A60
    clear A60
    have H' := Aside0.mk H
    clear H
    go_wp2_with (first | ((with_reducible refine gate_callee (f := 17) rfl ?_); refine goesL_ (some 18) rfl rfl Try.func17 (by kernel_rfl) rfl #[.int .i64 a0] rfl (by (try simp only [List.map_toArray, List.map_cons, List.map_nil]); (rfl)) ?_; (with_reducible refine (edit_Nothing.calls a0 t264 _ A6.out).mono ?_); rintro e w7 ⟨v265, rfl, ho0, hb⟩; refine ⟨_, rfl, ?_⟩; have n0_ := Aside0.mk (Kd.R_lower ho0 (below_size (by repeat ((with_reducible (exact HB.out)))))); have n1_ := Aside0.mk (below_step (by repeat ((with_reducible (exact HB.out)))) hb); clear HB; have HO266 := n0_; have HB := n1_; clear n0_ n1_; (try clear hb); (try clear hb2); (try clear hk); (try clear hi); (try clear ho0)))
    go_loopg [6, 21] kj2 (fun kq v6 v21 w' => ∃ (x6_2 : List (S43)) (x21_2 : Int), v21 = .int .i64 x21_2 ∧ Aside0 (compose_All.l0 kq x6_2 l1 (l1.length : Int) x21_2 = some (r1, r2)) ∧ Aside0 (kq ≤ kj2) ∧ Aside0 (Kd.R k43 43 w' w.heap.size (fun _ => True) v6 x6_2) ∧ Aside0 (Below w.heap.size w w'))
    case atStart => exact ⟨(t264), (0), (by (rfl)), H', ⟨Nat.le_refl _⟩, ⟨by (with_reducible repeat ((apply Kd.R_drew))); exact HO266.out⟩, ⟨by repeat ((with_reducible (exact HB.out)))⟩⟩
    case round =>
     clear H'
     try clear c1
     try clear p2
     try clear c4
     try clear c4b0
     try clear c5
     try clear p2
     obtain ⟨x6_2, x21_2, rfl, HA, HK2, HO_6, HB⟩ := hrel
     cases gk with
     | zero => exact absurd HA.out (by simp [compose_All.l0])
     | succ k2 =>
      have H := HA.out
      clear HA
      simp only [compose_All.l0] at H
      by_cases c8 : x21_2 < (l1.length : Int)
      ·rw [if_pos c8] at H
       have c8b0 : decide (x21_2 < (l1.length : Int)) = true := decide_eq_true c8
       clear c8
       by_cases c9 : 0 ≤ x21_2
       ·rw [if_pos c9] at H
        have c9b0 : decide (0 ≤ x21_2) = true := decide_eq_true c9
        clear c9
        by_cases c10 : x21_2 < (l1.length : Int)
        ·rw [if_pos c10] at H
         have c10b0 : decide (x21_2 < (l1.length : Int)) = true := decide_eq_true c10
         clear c10
         replace H := Option.bind_eq_some_iff.mp H
         obtain ⟨⟨t268, t269⟩, A110, H⟩ := H
         replace H : (if t269 = 0 then (compose_All.l0 k2 t268 l1 (l1.length : Int) (wrap64 (x21_2 + 1))) else (some (([] : List (S43)), t269))) = some (r1, r2) := H
         have A11 := Aside0.mk A110
         clear A110
         by_cases c12 : t269 = 0
         ·rw [if_pos c12] at H
          have c12b0 : (t269 == 0) = true := beq_iff_eq.mpr c12
          have c12b1 : (t269 != 0) = false := bne_eq_false_iff_eq.mpr c12
          clear c12
          have H' := Aside0.mk H
          clear H
          have p267 : 0 ≤ (x21_2 : Int) := of_decide_eq_true (by (with_reducible assumption))
          have q267 : x21_2 < (l1.length : Int) := of_decide_eq_true (by (with_reducible assumption))
          obtain ⟨ad267, A267_0, c267_0, e267, hx267_0, hl267_0, hi267_0⟩ := at_L3 HR1.out x21_2 p267 q267
          cases e267
          replace hx267_0 := (HB.out.cell (World.block_lt_of_cell? w _ hx267_0)).trans hx267_0
          have HR267_0 := Aside0.mk hi267_0
          have HC267_0 := Aside0.mk hl267_0
          clear hi267_0 hl267_0
          replace p267 := eq_true p267
          replace q267 := eq_true q267
          obtain ⟨Ao13, co13, eo13⟩ := Kd.R_slice HO_6.out
          subst eo13
          go_wp2_with (first | ((with_reducible refine gate_callee (f := 9) rfl ?_); refine goesL_ (some 28) rfl rfl Try.func9 (by kernel_rfl) rfl #[.slice Ao13 x6_2.length co13, .slice A267_0 (rd_L3 l1 x21_2).length c267_0] rfl (by (try simp only [List.map_toArray, List.map_cons, List.map_nil]); (rfl)) ?_; (with_reducible refine (compose_Two.calls _ _ x6_2 _ _ (rd_L3 l1 x21_2) t268 t269 _ ?side1 ?side2 ?side3 ?side4 A11.out).mono ?_); (case side1 => repeat ((exact (Kd.R_reads' HO_6.out).2.2))); (case side2 => exact (Kd.R_reads' HO_6.out).2.1); (case side3 => repeat ((exact (Kd.C_below HR267_0.out HB.out)))); (case side4 => exact HC267_0.out); rintro e w14 ⟨v270, rfl, ho0, hb⟩; refine ⟨_, rfl, ?_⟩; have n0_ := Aside0.mk (Kd.R_elder' (by (with_reducible repeat ((apply Kd.R_drew))); exact HO_6.out) (Kd.R_base ho0) hb); have n1_ := Aside0.mk (Kd.R_lower (Kd.R_new' ho0 (Kd.R_lt (by (with_reducible repeat ((apply Kd.R_drew))); exact HO_6.out))) (below_size (by repeat ((with_reducible (exact HB.out)))))); have n2_ := Aside0.mk (below_step (by repeat ((with_reducible (exact HB.out)))) hb); clear HO_6; clear HB; have HO_6 := n0_; have HO271 := n1_; have HB := n2_; clear n0_ n1_ n2_; (try clear hb); (try clear hb2); (try clear hk); (try clear hi); (try clear ho0)))
          go_roundg k2
          case measure => have := HJ2.out; have := HK2.out; omega
          case rel => exact ⟨(t268), (wrap64 (x21_2 + 1)), (by (rfl)), H', ⟨by have := HJ2.out; have := HK2.out; omega⟩, ⟨by (with_reducible repeat ((apply Kd.R_drew))); exact Kd.R_mono HO271.out (fun _ hk => trivial)⟩, ⟨by repeat ((with_reducible (exact HB.out)))⟩⟩
         ·rw [if_neg c12] at H
          have c12b0 : (t269 == 0) = false := beq_eq_false_iff_ne.mpr c12
          have c12b1 : (t269 != 0) = true := bne_iff_ne.mpr c12
          simp only [Option.some.injEq, Prod.mk.injEq] at H
          obtain ⟨rfl, rfl⟩ := H
          have p267 : 0 ≤ (x21_2 : Int) := of_decide_eq_true (by (with_reducible assumption))
          have q267 : x21_2 < (l1.length : Int) := of_decide_eq_true (by (with_reducible assumption))
          obtain ⟨ad267, A267_0, c267_0, e267, hx267_0, hl267_0, hi267_0⟩ := at_L3 HR1.out x21_2 p267 q267
          cases e267
          replace hx267_0 := (HB.out.cell (World.block_lt_of_cell? w _ hx267_0)).trans hx267_0
          have HR267_0 := Aside0.mk hi267_0
          have HC267_0 := Aside0.mk hl267_0
          clear hi267_0 hl267_0
          replace p267 := eq_true p267
          replace q267 := eq_true q267
          obtain ⟨Ao15, co15, eo15⟩ := Kd.R_slice HO_6.out
          subst eo15
          go_wp2_with (first | ((with_reducible refine gate_callee (f := 9) rfl ?_); refine goesL_ (some 28) rfl rfl Try.func9 (by kernel_rfl) rfl #[.slice Ao15 x6_2.length co15, .slice A267_0 (rd_L3 l1 x21_2).length c267_0] rfl (by (try simp only [List.map_toArray, List.map_cons, List.map_nil]); (rfl)) ?_; (with_reducible refine (compose_Two.calls _ _ x6_2 _ _ (rd_L3 l1 x21_2) t268 t269 _ ?side1 ?side2 ?side3 ?side4 A11.out).mono ?_); (case side1 => repeat ((exact (Kd.R_reads' HO_6.out).2.2))); (case side2 => exact (Kd.R_reads' HO_6.out).2.1); (case side3 => repeat ((exact (Kd.C_below HR267_0.out HB.out)))); (case side4 => exact HC267_0.out); rintro e w16 ⟨v270, rfl, ho0, hb⟩; refine ⟨_, rfl, ?_⟩; have n0_ := Aside0.mk (Kd.R_elder' (by (with_reducible repeat ((apply Kd.R_drew))); exact HO_6.out) (Kd.R_base ho0) hb); have n1_ := Aside0.mk (Kd.R_lower (Kd.R_new' ho0 (Kd.R_lt (by (with_reducible repeat ((apply Kd.R_drew))); exact HO_6.out))) (below_size (by repeat ((with_reducible (exact HB.out)))))); have n2_ := Aside0.mk (below_step (by repeat ((with_reducible (exact HB.out)))) hb); clear HO_6; clear HB; have HO_6 := n0_; have HO271 := n1_; have HB := n2_; clear n0_ n1_ n2_; (try clear hb); (try clear hb2); (try clear hk); (try clear hi); (try clear ho0)))
          go_ret2
          exact ⟨_, by (rfl), by (exact Kd.R_nil _ _ _ _ _), by repeat ((with_reducible (exact HB.out)))⟩
        ·rw [if_neg c10] at H
         exact absurd H (by simp)
       ·rw [if_neg c9] at H
        exact absurd H (by simp)
      ·rw [if_neg c8] at H
       have c8b0 : decide (x21_2 < (l1.length : Int)) = false := decide_eq_false c8
       clear c8
       simp only [Option.some.injEq, Prod.mk.injEq] at H
       obtain ⟨rfl, rfl⟩ := H
       go_wp2
       go_ret2
       exact ⟨_, by (rfl), by (with_reducible repeat ((apply Kd.R_drew))); exact HO_6.out, by repeat ((with_reducible (exact HB.out)))⟩
end Go.Proofs.Ytbfdplmgefcogaa.P
end
-- MERGED YtbfdplmgefcogaaPvariorumref06Nothing
section

namespace Go.Proofs.Ytbfdplmgefcogaa.P
open Go.RowKit Go.Proofs.YtbfdplmgefcogaaW.PrintWords Go.Proofs.YtbfdplmgefcogaaW.PrintLast Go.Proofs.YtbfdplmgefcogaaW.PrintMore
attribute [local go_sem] max2_int min2_int max_two min_two max_three min_three max_four min_four
set_option linter.unusedVariables false
set_option linter.unusedSimpArgs false
def variorumref06_Nothing.f (a0 : Int) : Option ((List (S43))) := if a0 < 1 then (some ([] : List (S43))) else (if a0 > 16777216 then (some ([] : List (S43))) else (some (([(⟨a0, (⟨#[]⟩ : ByteArray), 0⟩ : S43)] : List (S43)))))
set_option maxHeartbeats 8000000 in
set_option maxRecDepth 100000 in
theorem variorumref06_Nothing.calls (a0 : Int) (r : List (S43)) (w : World) (h : variorumref06_Nothing.f a0 = some r) :
  Calls Try.prog 29 #[.int .i64 a0] w fun e w' => ∃ v0_ : Value, e = .returned (v0_) ∧ Kd.R k43 43 w' w.heap.size (fun _ => True) v0_ r ∧ Below w.heap.size w w' := by
 have hu43 := Try.underlying43
 have HB := Aside0.mk (Below.refl w.heap.size w)
 have H : (if a0 < 1 then (some ([] : List (S43))) else (if a0 > 16777216 then (some ([] : List (S43))) else (some (([(⟨a0, (⟨#[]⟩ : ByteArray), 0⟩ : S43)] : List (S43)))))) = some r := h
 clear h
 by_cases c2 : a0 < 1
 ·rw [if_pos c2] at H
  have c2b0 : decide (a0 < 1) = true := decide_eq_true c2
  clear c2
  obtain rfl := Option.some.inj H
  go_enter Try.func29, Try.ntmps29
  go_wp2
  go_ret
  exact ⟨_, by (rfl), by (exact Kd.R_nil _ _ _ _ _), by repeat ((with_reducible (exact HB.out)))⟩
 ·rw [if_neg c2] at H
  have c2b0 : decide (a0 < 1) = false := decide_eq_false c2
  clear c2
  by_cases c3 : a0 > 16777216
  ·rw [if_pos c3] at H
   have c3b0 : decide (16777216 < a0) = true := decide_eq_true c3
   clear c3
   obtain rfl := Option.some.inj H
   go_enter Try.func29, Try.ntmps29
   go_wp2
   go_ret
   exact ⟨_, by (rfl), by (exact Kd.R_nil _ _ _ _ _), by repeat ((with_reducible (exact HB.out)))⟩
  ·rw [if_neg c3] at H
   have c3b0 : decide (16777216 < a0) = false := decide_eq_false c3
   clear c3
   obtain ⟨y272, hy272⟩ : ∃ y_ : List (S43), y_ = (([(⟨a0, (⟨#[]⟩ : ByteArray), 0⟩ : S43)] : List (S43))) := ⟨_, rfl⟩
   replace H : (some y272) = some r := by (rw [hy272]; with_reducible exact H)
   have Ny272 := Aside0.mk hy272
   clear hy272
   obtain rfl := Option.some.inj H
   go_enter Try.func29, Try.ntmps29
   go_wp2_with (first | ((with_reducible refine gate_dst (N := 11) rfl ?_); refine Kd.R_lit k43 _ 43 ?hg (N := 11) ?hd (xs := ([(⟨a0, (⟨#[]⟩ : ByteArray), 0⟩ : S43)] : List (S43))) (inner := [.int .i64 a0, .string (⟨#[]⟩ : ByteArray), .int .i64 0]) (ok := fun _ => True) (okp := fun _ => True) ?hr ?hp (fun _ hk => hk) trivial (Below.refl _ _) (Nat.le_refl _) (by simp) ?_; (case hd => rfl); (case hg => rfl); (case hr => (go_simp; done)); (case hp => exact (Reps.c3 (show Kd.M k43 _ _ _ (⟨a0, (⟨#[]⟩ : ByteArray), 0⟩ : S43) [.int .i64 a0, .string (⟨#[]⟩ : ByteArray), .int .i64 0] from (k43_mkM _ _ _ (⟨a0, (⟨#[]⟩ : ByteArray), 0⟩ : S43) )) (Reps.none _ _))); intro v273 w4 ho5 hb hg_ hnew_; clear hg_ hnew_; ((rw [← Ny272.out] at ho5)); have n0_ := Aside0.mk (Kd.R_lower ho5 (below_size (by repeat ((with_reducible (exact HB.out)))))); have n1_ := Aside0.mk (below_step (by repeat ((with_reducible (exact HB.out)))) hb); clear HB; have HO274 := n0_; have HB := n1_; clear n0_ n1_; clear hb ho5))
   go_ret
   exact ⟨_, by (rfl), by (with_reducible repeat ((apply Kd.R_drew))); exact HO274.out, by repeat ((with_reducible (exact HB.out)))⟩
end Go.Proofs.Ytbfdplmgefcogaa.P
end
-- MERGED YtbfdplmgefcogaaPvariorumref08All
section

namespace Go.Proofs.Ytbfdplmgefcogaa.P
open Go.RowKit Go.Proofs.YtbfdplmgefcogaaW.PrintWords Go.Proofs.YtbfdplmgefcogaaW.PrintLast Go.Proofs.YtbfdplmgefcogaaW.PrintMore
attribute [local go_sem] max2_int min2_int max_two min_two max_three min_three max_four min_four
set_option linter.unusedVariables false
set_option linter.unusedSimpArgs false
mutual
def variorumref08_All.j0 : Nat → Int → List (List (S43)) → Bool → Option ((List (S43)) × Int)
 | 0, _, _, _ => none
 | k + 1, x0, x1, x15 => if x15 = true then (some (([] : List (S43)), 2)) else ((variorumref06_Nothing.f x0).bind fun t275 => (variorumref08_All.l0 k x1 t275 0))
def variorumref08_All.l0 : Nat → List (List (S43)) → List (S43) → Int → Option ((List (S43)) × Int)
 | 0, _, _, _ => none
 | k + 1, x1, x6, x7 => if x7 < (x1.length : Int) then (if 0 ≤ x7 then ((variorumref08_Two.f k x6 (rd_L3 x1 x7)).bind fun bt279 => (if bt279.2 = 0 then (variorumref08_All.l0 k x1 bt279.1 (wrap64 (x7 + 1))) else (some (([] : List (S43)), bt279.2)))) else (none)) else (some (x6, 0))
end
def variorumref08_All.f (k : Nat) (a0 : Int) (l1 : List (List (S43))) : Option ((List (S43)) × Int) := if a0 < 0 then (variorumref08_All.j0 k a0 l1 true) else (variorumref08_All.j0 k a0 l1 (decide (a0 > 16777216)))
theorem variorumref08_All.mono_l : ∀ k, (∀ y0 y1 y2, LeO (variorumref08_All.j0 k y0 y1 y2) (variorumref08_All.j0 (k + 1) y0 y1 y2)) ∧ (∀ y0 y1 y2, LeO (variorumref08_All.l0 k y0 y1 y2) (variorumref08_All.l0 (k + 1) y0 y1 y2))
 | 0 => ⟨fun _ _ _ r h => by simp [variorumref08_All.j0] at h, fun _ _ _ r h => by simp [variorumref08_All.l0] at h⟩
 | k + 1 => by
  obtain ⟨ih0, ih1⟩ := variorumref08_All.mono_l k
  refine ⟨?_, ?_⟩
  ·intro y0 y1 y2
   unfold variorumref08_All.j0
   repeat' first | (with_reducible exact ih1 _ _ _) | (with_reducible exact LeO.refl _) | (with_reducible refine LeO.ite ?_ ?_) | (with_reducible refine LeO.bind ?_ (fun _ => ?_))
  ·intro y0 y1 y2
   unfold variorumref08_All.l0
   repeat' first | (with_reducible exact ih1 _ _ _) | (with_reducible exact variorumref08_Two.mono _ _ _) | (with_reducible exact LeO.refl _) | (with_reducible refine LeO.ite ?_ ?_) | (with_reducible refine LeO.bind ?_ (fun _ => ?_))
theorem variorumref08_All.mono : ∀ a0 a1 k, LeO (variorumref08_All.f k a0 a1) (variorumref08_All.f (k + 1) a0 a1) := by
 intro a0 a1 k
 obtain ⟨ih0, ih1⟩ := variorumref08_All.mono_l k
 unfold variorumref08_All.f
 repeat' first | (with_reducible exact ih0 _ _ _) | (with_reducible refine LeO.ite ?_ ?_)
set_option maxHeartbeats 8000000 in
set_option maxRecDepth 100000 in
theorem variorumref08_All.calls (k : Nat) (a0 : Int) (A1 : Option Addr) (c1 : Nat) (l1 : List (List (S43))) (r1 : List (S43)) (r2 : Int) (w : World) (hr1 : Kd.C (Kd.slice 43 k43) w A1 l1.length l1) (hc1 : l1.length ≤ c1) (h : variorumref08_All.f k a0 l1 = some (r1, r2)) :
  Calls Try.prog 13 #[.int .i64 a0, .slice A1 l1.length c1] w fun e w' => ∃ v0_ : Value, e = .returned (.tuple #[v0_, .int .i64 r2]) ∧ Kd.R k43 43 w' w.heap.size (fun _ => True) v0_ r1 ∧ Below w.heap.size w w' := by
 have HR1 := Aside0.mk hr1
 have HC1 := Aside0.mk hc1
 clear hr1 hc1
 have HB := Aside0.mk (Below.refl w.heap.size w)
 have H : (if a0 < 0 then (variorumref08_All.j0 k a0 l1 true) else (variorumref08_All.j0 k a0 l1 (decide (a0 > 16777216)))) = some (r1, r2) := h
 clear h
 have HC3 := Aside0.mk H
 clear H
 go_enter Try.func13, Try.ntmps13
 go_upto_region 1 with (fail)
 go_cut [15] (fun v15 wc => ∃ (kq : Nat) (x15_2 : Bool), v15 = .bool x15_2 ∧ Aside0 (variorumref08_All.j0 kq a0 l1 x15_2 = some (r1, r2)) ∧ Aside0 (kq ≤ k) ∧ Aside0 (Below w.heap.size w wc))
 case first =>
  have H := HC3.out
  clear HC3
  by_cases c4 : a0 < 0
  ·rw [if_pos c4] at H
   have c4b0 : decide (a0 < 0) = true := decide_eq_true c4
   clear c4
   ((skip))
   have H' := Aside0.mk H
   clear H
   go_wp2
   go_meet
   case rel => exact ⟨_, (true), (by (rfl)), H', ⟨by (omega)⟩, ⟨by repeat ((with_reducible (exact HB.out)))⟩⟩
  ·rw [if_neg c4] at H
   have c4b0 : decide (a0 < 0) = false := decide_eq_false c4
   clear c4
   ((skip))
   have H' := Aside0.mk H
   clear H
   go_wp2
   go_meet
   case rel => exact ⟨_, (decide (a0 > 16777216)), (by (rfl)), H', ⟨by (omega)⟩, ⟨by repeat ((with_reducible (exact HB.out)))⟩⟩
 case rest =>
  clear HC3
  try clear c1
  try clear p2
  try clear c4
  try clear c4b0
  obtain ⟨kq, x15_2, rfl, HA, HJ2, HB⟩ := hcut
  cases kq with
  | zero => exact absurd HA.out (by simp [variorumref08_All.j0])
  | succ kj2 =>
   have H := HA.out
   clear HA
   simp only [variorumref08_All.j0] at H
   by_cases c5 : x15_2 = true
   ·subst c5
    have H1 : (some (([] : List (S43)), 2)) = some (r1, r2) := by rw [if_pos rfl] at H; exact H
    clear H
    have H := H1
    clear H1
    simp only [Option.some.injEq, Prod.mk.injEq] at H
    obtain ⟨rfl, rfl⟩ := H
    go_wp2
    go_ret2
    exact ⟨_, by (rfl), by (exact Kd.R_nil _ _ _ _ _), by repeat ((with_reducible (exact HB.out)))⟩
   ·replace c5 := Bool.eq_false_iff.mpr c5
    subst c5
    have H1 : ((variorumref06_Nothing.f a0).bind fun t275 => (variorumref08_All.l0 kj2 l1 t275 0)) = some (r1, r2) := by rw [if_neg (show ¬ (false = true) by decide)] at H; exact H
    clear H
    have H := H1
    clear H1
    replace H := Option.bind_eq_some_iff.mp H
    obtain ⟨t275, A60, H⟩ := H
    replace H : (variorumref08_All.l0 kj2 l1 t275 0) = some (r1, r2) := H
    have A6 := Aside0.mk A60
    clear A60
    have H' := Aside0.mk H
    clear H
    go_wp2_with (first | ((with_reducible refine gate_callee (f := 29) rfl ?_); refine goesL_ (some 17) rfl rfl Try.func29 (by kernel_rfl) rfl #[.int .i64 a0] rfl (by (try simp only [List.map_toArray, List.map_cons, List.map_nil]); (rfl)) ?_; (with_reducible refine (variorumref06_Nothing.calls a0 t275 _ A6.out).mono ?_); rintro e w7 ⟨v276, rfl, ho0, hb⟩; refine ⟨_, rfl, ?_⟩; have n0_ := Aside0.mk (Kd.R_lower ho0 (below_size (by repeat ((with_reducible (exact HB.out)))))); have n1_ := Aside0.mk (below_step (by repeat ((with_reducible (exact HB.out)))) hb); clear HB; have HO277 := n0_; have HB := n1_; clear n0_ n1_; (try clear hb); (try clear hb2); (try clear hk); (try clear hi); (try clear ho0)))
    go_loopg [6, 7] kj2 (fun kq v6 v7 w' => ∃ (x6_2 : List (S43)) (x7_2 : Int), v7 = .int .i64 x7_2 ∧ Aside0 (variorumref08_All.l0 kq l1 x6_2 x7_2 = some (r1, r2)) ∧ Aside0 (kq ≤ kj2) ∧ Aside0 (Kd.R k43 43 w' w.heap.size (fun _ => True) v6 x6_2) ∧ Aside0 (Below w.heap.size w w'))
    case atStart => exact ⟨(t275), (0), (by (rfl)), H', ⟨Nat.le_refl _⟩, ⟨by (with_reducible repeat ((apply Kd.R_drew))); exact HO277.out⟩, ⟨by repeat ((with_reducible (exact HB.out)))⟩⟩
    case round =>
     clear H'
     try clear c1
     try clear c2
     try clear p2
     try clear c4
     try clear c4b0
     try clear c5
     try clear p2
     obtain ⟨x6_2, x7_2, rfl, HA, HK2, HO_6, HB⟩ := hrel
     cases gk with
     | zero => exact absurd HA.out (by simp [variorumref08_All.l0])
     | succ k2 =>
      have H := HA.out
      clear HA
      simp only [variorumref08_All.l0] at H
      by_cases c8 : x7_2 < (l1.length : Int)
      ·rw [if_pos c8] at H
       have c8b0 : decide (x7_2 < (l1.length : Int)) = true := decide_eq_true c8
       clear c8
       by_cases c9 : 0 ≤ x7_2
       ·rw [if_pos c9] at H
        have c9b0 : decide (0 ≤ x7_2) = true := decide_eq_true c9
        clear c9
        replace H := Option.bind_eq_some_iff.mp H
        obtain ⟨⟨t279, t280⟩, A100, H⟩ := H
        replace H : (if t280 = 0 then (variorumref08_All.l0 k2 l1 t279 (wrap64 (x7_2 + 1))) else (some (([] : List (S43)), t280))) = some (r1, r2) := H
        have A10 := Aside0.mk A100
        clear A100
        by_cases c11 : t280 = 0
        ·rw [if_pos c11] at H
         have c11b0 : (t280 == 0) = true := beq_iff_eq.mpr c11
         have c11b1 : (t280 != 0) = false := bne_eq_false_iff_eq.mpr c11
         clear c11
         have H' := Aside0.mk H
         clear H
         have p278 : 0 ≤ (x7_2 : Int) := of_decide_eq_true (by (with_reducible assumption))
         have q278 : x7_2 < (l1.length : Int) := of_decide_eq_true (by (with_reducible assumption))
         obtain ⟨ad278, A278_0, c278_0, e278, hx278_0, hl278_0, hi278_0⟩ := at_L3 HR1.out x7_2 p278 q278
         cases e278
         replace hx278_0 := (HB.out.cell (World.block_lt_of_cell? w _ hx278_0)).trans hx278_0
         have HR278_0 := Aside0.mk hi278_0
         have HC278_0 := Aside0.mk hl278_0
         clear hi278_0 hl278_0
         replace p278 := eq_true p278
         replace q278 := eq_true q278
         obtain ⟨Ao12, co12, eo12⟩ := Kd.R_slice HO_6.out
         subst eo12
         go_wp2_with (first | ((with_reducible refine gate_callee (f := 10) rfl ?_); refine goesL_ (some 30) rfl rfl Try.func10 (by kernel_rfl) rfl #[.slice Ao12 x6_2.length co12, .slice A278_0 (rd_L3 l1 x7_2).length c278_0] rfl (by (try simp only [List.map_toArray, List.map_cons, List.map_nil]); (rfl)) ?_; (with_reducible refine (variorumref08_Two.calls k2 _ _ x6_2 _ _ (rd_L3 l1 x7_2) t279 t280 _ ?side1 ?side2 ?side3 ?side4 A10.out).mono ?_); (case side1 => repeat ((exact (Kd.R_reads' HO_6.out).2.2))); (case side2 => exact (Kd.R_reads' HO_6.out).2.1); (case side3 => repeat ((exact (Kd.C_below HR278_0.out HB.out)))); (case side4 => exact HC278_0.out); rintro e w13 ⟨v281, rfl, ho0, hb⟩; refine ⟨_, rfl, ?_⟩; have n0_ := Aside0.mk (Kd.R_elder' (by (with_reducible repeat ((apply Kd.R_drew))); exact HO_6.out) (Kd.R_base ho0) hb); have n1_ := Aside0.mk (Kd.R_lower (Kd.R_new' ho0 (Kd.R_lt (by (with_reducible repeat ((apply Kd.R_drew))); exact HO_6.out))) (below_size (by repeat ((with_reducible (exact HB.out)))))); have n2_ := Aside0.mk (below_step (by repeat ((with_reducible (exact HB.out)))) hb); clear HO_6; clear HB; have HO_6 := n0_; have HO282 := n1_; have HB := n2_; clear n0_ n1_ n2_; (try clear hb); (try clear hb2); (try clear hk); (try clear hi); (try clear ho0)))
         go_roundg k2
         case measure => have := HJ2.out; have := HK2.out; omega
         case rel => exact ⟨(t279), (wrap64 (x7_2 + 1)), (by (rfl)), H', ⟨by have := HJ2.out; have := HK2.out; omega⟩, ⟨by (with_reducible repeat ((apply Kd.R_drew))); exact Kd.R_mono HO282.out (fun _ hk => trivial)⟩, ⟨by repeat ((with_reducible (exact HB.out)))⟩⟩
        ·rw [if_neg c11] at H
         have c11b0 : (t280 == 0) = false := beq_eq_false_iff_ne.mpr c11
         have c11b1 : (t280 != 0) = true := bne_iff_ne.mpr c11
         simp only [Option.some.injEq, Prod.mk.injEq] at H
         obtain ⟨rfl, rfl⟩ := H
         have p278 : 0 ≤ (x7_2 : Int) := of_decide_eq_true (by (with_reducible assumption))
         have q278 : x7_2 < (l1.length : Int) := of_decide_eq_true (by (with_reducible assumption))
         obtain ⟨ad278, A278_0, c278_0, e278, hx278_0, hl278_0, hi278_0⟩ := at_L3 HR1.out x7_2 p278 q278
         cases e278
         replace hx278_0 := (HB.out.cell (World.block_lt_of_cell? w _ hx278_0)).trans hx278_0
         have HR278_0 := Aside0.mk hi278_0
         have HC278_0 := Aside0.mk hl278_0
         clear hi278_0 hl278_0
         replace p278 := eq_true p278
         replace q278 := eq_true q278
         obtain ⟨Ao14, co14, eo14⟩ := Kd.R_slice HO_6.out
         subst eo14
         go_wp2_with (first | ((with_reducible refine gate_callee (f := 10) rfl ?_); refine goesL_ (some 30) rfl rfl Try.func10 (by kernel_rfl) rfl #[.slice Ao14 x6_2.length co14, .slice A278_0 (rd_L3 l1 x7_2).length c278_0] rfl (by (try simp only [List.map_toArray, List.map_cons, List.map_nil]); (rfl)) ?_; (with_reducible refine (variorumref08_Two.calls k2 _ _ x6_2 _ _ (rd_L3 l1 x7_2) t279 t280 _ ?side1 ?side2 ?side3 ?side4 A10.out).mono ?_); (case side1 => repeat ((exact (Kd.R_reads' HO_6.out).2.2))); (case side2 => exact (Kd.R_reads' HO_6.out).2.1); (case side3 => repeat ((exact (Kd.C_below HR278_0.out HB.out)))); (case side4 => exact HC278_0.out); rintro e w15 ⟨v281, rfl, ho0, hb⟩; refine ⟨_, rfl, ?_⟩; have n0_ := Aside0.mk (Kd.R_elder' (by (with_reducible repeat ((apply Kd.R_drew))); exact HO_6.out) (Kd.R_base ho0) hb); have n1_ := Aside0.mk (Kd.R_lower (Kd.R_new' ho0 (Kd.R_lt (by (with_reducible repeat ((apply Kd.R_drew))); exact HO_6.out))) (below_size (by repeat ((with_reducible (exact HB.out)))))); have n2_ := Aside0.mk (below_step (by repeat ((with_reducible (exact HB.out)))) hb); clear HO_6; clear HB; have HO_6 := n0_; have HO282 := n1_; have HB := n2_; clear n0_ n1_ n2_; (try clear hb); (try clear hb2); (try clear hk); (try clear hi); (try clear ho0)))
         go_ret2
         exact ⟨_, by (rfl), by (exact Kd.R_nil _ _ _ _ _), by repeat ((with_reducible (exact HB.out)))⟩
       ·rw [if_neg c9] at H
        exact absurd H (by simp)
      ·rw [if_neg c8] at H
       have c8b0 : decide (x7_2 < (l1.length : Int)) = false := decide_eq_false c8
       clear c8
       simp only [Option.some.injEq, Prod.mk.injEq] at H
       obtain ⟨rfl, rfl⟩ := H
       go_wp2
       go_ret2
       exact ⟨_, by (rfl), by (with_reducible repeat ((apply Kd.R_drew))); exact HO_6.out, by repeat ((with_reducible (exact HB.out)))⟩
end Go.Proofs.Ytbfdplmgefcogaa.P
end
-- MERGED YtbfdplmgefcogaaPvariorumlaw08ComposeAll
section

namespace Go.Proofs.Ytbfdplmgefcogaa.P
open Go.RowKit Go.Proofs.YtbfdplmgefcogaaW.PrintWords Go.Proofs.YtbfdplmgefcogaaW.PrintLast Go.Proofs.YtbfdplmgefcogaaW.PrintMore
attribute [local go_sem] max2_int min2_int max_two min_two max_three min_three max_four min_four
set_option linter.unusedVariables false
set_option linter.unusedSimpArgs false
mutual
def variorumlaw08_ComposeAll.j0 : Nat → Int → List (List (S43)) → Bool → Option (Bool)
 | 0, _, _, _ => none
 | k + 1, x0, x1, x21 => if x21 = true then ((variorumlaw08_lives.f k).bind fun t283 => (some t283)) else (variorumlaw08_ComposeAll.l0 k x0 x1 x1 (x1.length : Int) 0)
def variorumlaw08_ComposeAll.l0 : Nat → Int → List (List (S43)) → List (List (S43)) → Int → Int → Option (Bool)
 | 0, _, _, _, _, _ => none
 | k + 1, x0, x1, x23, x24, x25 => if x25 < x24 then (if 0 ≤ x25 then (if x25 < (x23.length : Int) then ((variorumlaw08_few.f k (rd_L3 x23 x25)).bind fun t285 => (if t285 = true then (variorumlaw08_ComposeAll.l0 k x0 x1 x23 x24 (wrap64 (x25 + 1))) else ((variorumlaw08_lives.f k).bind fun t286 => (some t286)))) else (none)) else (none)) else ((compose_All.f k x0 x1).bind fun bt287 => ((variorumref08_All.f k x0 x1).bind fun bt291 => ((variorumref06_Same.f k bt287.1 bt291.1).bind fun t295 => (if t295 = true then (if bt287.2 = bt291.2 then ((variorumlaw08_lives.f k).bind fun t296 => (some t296)) else (some false)) else (some false)))))
end
def variorumlaw08_ComposeAll.f (k : Nat) (a0 : Int) (l1 : List (List (S43))) : Option (Bool) := if a0 > 3000 then (if a0 ≤ 16777216 then (variorumlaw08_ComposeAll.j0 k a0 l1 true) else (variorumlaw08_ComposeAll.j0 k a0 l1 (decide ((l1.length : Int) > 20)))) else (variorumlaw08_ComposeAll.j0 k a0 l1 (decide ((l1.length : Int) > 20)))
theorem variorumlaw08_ComposeAll.mono_l : ∀ k, (∀ y0 y1 y2, LeO (variorumlaw08_ComposeAll.j0 k y0 y1 y2) (variorumlaw08_ComposeAll.j0 (k + 1) y0 y1 y2)) ∧ (∀ y0 y1 y2 y3 y4, LeO (variorumlaw08_ComposeAll.l0 k y0 y1 y2 y3 y4) (variorumlaw08_ComposeAll.l0 (k + 1) y0 y1 y2 y3 y4))
 | 0 => ⟨fun _ _ _ r h => by simp [variorumlaw08_ComposeAll.j0] at h, fun _ _ _ _ _ r h => by simp [variorumlaw08_ComposeAll.l0] at h⟩
 | k + 1 => by
  obtain ⟨ih0, ih1⟩ := variorumlaw08_ComposeAll.mono_l k
  refine ⟨?_, ?_⟩
  ·intro y0 y1 y2
   unfold variorumlaw08_ComposeAll.j0
   repeat' first | (with_reducible exact ih1 _ _ _ _ _) | (with_reducible exact variorumlaw08_lives.mono _) | (with_reducible exact LeO.refl _) | (with_reducible refine LeO.ite ?_ ?_) | (with_reducible refine LeO.bind ?_ (fun _ => ?_))
  ·intro y0 y1 y2 y3 y4
   unfold variorumlaw08_ComposeAll.l0
   repeat' first | (with_reducible exact ih1 _ _ _ _ _) | (with_reducible exact compose_All.mono _ _ _) | (with_reducible exact variorumlaw08_few.mono _ _) | (with_reducible exact variorumlaw08_lives.mono _) | (with_reducible exact variorumref06_Same.mono _ _ _) | (with_reducible exact variorumref08_All.mono _ _ _) | (with_reducible exact LeO.refl _) | (with_reducible refine LeO.ite ?_ ?_) | (with_reducible refine LeO.bind ?_ (fun _ => ?_))
theorem variorumlaw08_ComposeAll.mono : ∀ a0 a1 k, LeO (variorumlaw08_ComposeAll.f k a0 a1) (variorumlaw08_ComposeAll.f (k + 1) a0 a1) := by
 intro a0 a1 k
 obtain ⟨ih0, ih1⟩ := variorumlaw08_ComposeAll.mono_l k
 unfold variorumlaw08_ComposeAll.f
 repeat' first | (with_reducible exact ih0 _ _ _) | (with_reducible refine LeO.ite ?_ ?_)
set_option maxHeartbeats 8000000 in
set_option maxRecDepth 100000 in
theorem variorumlaw08_ComposeAll.calls (k : Nat) (a0 : Int) (A1 : Option Addr) (c1 : Nat) (l1 : List (List (S43))) (r : Bool) (w : World) (hr1 : Kd.C (Kd.slice 43 k43) w A1 l1.length l1) (hc1 : l1.length ≤ c1) (h : variorumlaw08_ComposeAll.f k a0 l1 = some r) (hr1_ : r = true) :
  Calls Try.prog 4 #[.int .i64 a0, .slice A1 l1.length c1] w fun e w' => e = .returned (.bool r) ∧ Below w.heap.size w w' := by
 have HR1_ := Aside0.mk hr1_
 clear hr1_
 have HR1 := Aside0.mk hr1
 have HC1 := Aside0.mk hc1
 clear hr1 hc1
 have HB := Aside0.mk (Below.refl w.heap.size w)
 have H : (if a0 > 3000 then (if a0 ≤ 16777216 then (variorumlaw08_ComposeAll.j0 k a0 l1 true) else (variorumlaw08_ComposeAll.j0 k a0 l1 (decide ((l1.length : Int) > 20)))) else (variorumlaw08_ComposeAll.j0 k a0 l1 (decide ((l1.length : Int) > 20)))) = some r := h
 clear h
 have HC3 := Aside0.mk H
 clear H
 go_enter Try.func4, Try.ntmps4
 go_upto_region 1 with (fail)
 go_cut [21] (fun v21 wc => ∃ (kq : Nat) (x21_2 : Bool), v21 = .bool x21_2 ∧ Aside0 (variorumlaw08_ComposeAll.j0 kq a0 l1 x21_2 = some r) ∧ Aside0 (kq ≤ k) ∧ Aside0 (Below w.heap.size w wc))
 case first =>
  have H := HC3.out
  clear HC3
  by_cases c4 : a0 > 3000
  ·rw [if_pos c4] at H
   have c4b0 : decide (3000 < a0) = true := decide_eq_true c4
   clear c4
   ((skip))
   by_cases c5 : a0 ≤ 16777216
   ·rw [if_pos c5] at H
    have c5b0 : decide (a0 ≤ 16777216) = true := decide_eq_true c5
    clear c5
    have H' := Aside0.mk H
    clear H
    go_wp2
    go_meet
    case rel => exact ⟨_, (true), (by (rfl)), H', ⟨by (omega)⟩, ⟨by repeat ((with_reducible (exact HB.out)))⟩⟩
   ·rw [if_neg c5] at H
    have c5b0 : decide (a0 ≤ 16777216) = false := decide_eq_false c5
    clear c5
    have H' := Aside0.mk H
    clear H
    go_wp2
    go_meet
    case rel => exact ⟨_, (decide ((l1.length : Int) > 20)), (by (rfl)), H', ⟨by (omega)⟩, ⟨by repeat ((with_reducible (exact HB.out)))⟩⟩
  ·rw [if_neg c4] at H
   have c4b0 : decide (3000 < a0) = false := decide_eq_false c4
   clear c4
   ((skip))
   have H' := Aside0.mk H
   clear H
   go_wp2
   go_meet
   case rel => exact ⟨_, (decide ((l1.length : Int) > 20)), (by (rfl)), H', ⟨by (omega)⟩, ⟨by repeat ((with_reducible (exact HB.out)))⟩⟩
 case rest =>
  clear HC3
  try clear c1
  try clear p2
  try clear c4
  try clear c4b0
  try clear c5
  try clear c5b0
  obtain ⟨kq, x21_2, rfl, HA, HJ2, HB⟩ := hcut
  cases kq with
  | zero => exact absurd HA.out (by simp [variorumlaw08_ComposeAll.j0])
  | succ kj2 =>
   have H := HA.out
   clear HA
   simp only [variorumlaw08_ComposeAll.j0] at H
   by_cases c6 : x21_2 = true
   ·subst c6
    have H1 : ((variorumlaw08_lives.f kj2).bind fun t283 => (some t283)) = some r := by rw [if_pos rfl] at H; exact H
    clear H
    have H := H1
    clear H1
    replace H := Option.bind_eq_some_iff.mp H
    obtain ⟨t283, A70, H⟩ := H
    replace H : (some t283) = some r := H
    have A7 := Aside0.mk A70
    clear A70
    obtain rfl := Option.some.inj H
    go_wp2_with (first | ((with_reducible refine gate_callee (f := 8) rfl ?_); refine goesL_ (some 22) rfl rfl Try.func8 (by kernel_rfl) rfl #[] rfl (by (try simp only [List.map_toArray, List.map_cons, List.map_nil]); (done)) ?_; (with_reducible refine (variorumlaw08_lives.calls kj2  t283 _ A7.out).mono ?_); rintro e w8 ⟨rfl, hb⟩; refine ⟨_, rfl, ?_⟩; have n0_ := Aside0.mk (below_step (by repeat ((with_reducible (exact HB.out)))) hb); clear HB; have HB := n0_; clear n0_; (try clear hb); (try clear hb2); (try clear hk); (try clear hi)))
    go_ret
    exact ⟨by (rfl), by repeat ((with_reducible (exact HB.out)))⟩
   ·replace c6 := Bool.eq_false_iff.mpr c6
    subst c6
    have H1 : (variorumlaw08_ComposeAll.l0 kj2 a0 l1 l1 (l1.length : Int) 0) = some r := by rw [if_neg (show ¬ (false = true) by decide)] at H; exact H
    clear H
    have H := H1
    clear H1
    have H' := Aside0.mk H
    clear H
    go_wp2
    go_loopg [25] kj2 (fun kq v25 w' => ∃ (x25_2 : Int), v25 = .int .i64 x25_2 ∧ Aside0 (variorumlaw08_ComposeAll.l0 kq a0 l1 l1 (l1.length : Int) x25_2 = some r) ∧ Aside0 (kq ≤ kj2) ∧ Aside0 (Below w.heap.size w w'))
    case atStart => exact ⟨(0), (by (rfl)), H', ⟨Nat.le_refl _⟩, ⟨by repeat ((with_reducible (exact HB.out)))⟩⟩
    case round =>
     clear H'
     try clear c1
     try clear p2
     try clear c4
     try clear c4b0
     try clear c5
     try clear c5b0
     try clear c6
     try clear c8
     try clear p2
     obtain ⟨x25_2, rfl, HA, HK2, HB⟩ := hrel
     cases gk with
     | zero => exact absurd HA.out (by simp [variorumlaw08_ComposeAll.l0])
     | succ k2 =>
      have H := HA.out
      clear HA
      simp only [variorumlaw08_ComposeAll.l0] at H
      by_cases c9 : x25_2 < (l1.length : Int)
      ·rw [if_pos c9] at H
       have c9b0 : decide (x25_2 < (l1.length : Int)) = true := decide_eq_true c9
       clear c9
       by_cases c10 : 0 ≤ x25_2
       ·rw [if_pos c10] at H
        have c10b0 : decide (0 ≤ x25_2) = true := decide_eq_true c10
        clear c10
        by_cases c11 : x25_2 < (l1.length : Int)
        ·rw [if_pos c11] at H
         have c11b0 : decide (x25_2 < (l1.length : Int)) = true := decide_eq_true c11
         clear c11
         replace H := Option.bind_eq_some_iff.mp H
         obtain ⟨t285, A120, H⟩ := H
         replace H : (if t285 = true then (variorumlaw08_ComposeAll.l0 k2 a0 l1 l1 (l1.length : Int) (wrap64 (x25_2 + 1))) else ((variorumlaw08_lives.f k2).bind fun t286 => (some t286))) = some r := H
         have A12 := Aside0.mk A120
         clear A120
         by_cases c13 : t285 = true
         ·subst c13
          have H1 : (variorumlaw08_ComposeAll.l0 k2 a0 l1 l1 (l1.length : Int) (wrap64 (x25_2 + 1))) = some r := by rw [if_pos rfl] at H; exact H
          clear H
          have H := H1
          clear H1
          have H' := Aside0.mk H
          clear H
          have p284 : 0 ≤ (x25_2 : Int) := of_decide_eq_true (by (with_reducible assumption))
          have q284 : x25_2 < (l1.length : Int) := of_decide_eq_true (by (with_reducible assumption))
          obtain ⟨ad284, A284_0, c284_0, e284, hx284_0, hl284_0, hi284_0⟩ := at_L3 HR1.out x25_2 p284 q284
          cases e284
          replace hx284_0 := (HB.out.cell (World.block_lt_of_cell? w _ hx284_0)).trans hx284_0
          have HR284_0 := Aside0.mk hi284_0
          have HC284_0 := Aside0.mk hl284_0
          clear hi284_0 hl284_0
          replace p284 := eq_true p284
          replace q284 := eq_true q284
          go_wp2_with (first | ((with_reducible refine gate_callee (f := 7) rfl ?_); refine goesL_ (some 30) rfl rfl Try.func7 (by kernel_rfl) rfl #[.slice A284_0 (rd_L3 l1 x25_2).length c284_0] rfl (by (try simp only [List.map_toArray, List.map_cons, List.map_nil]); (rfl)) ?_; (with_reducible refine (variorumlaw08_few.calls k2 _ _ (rd_L3 l1 x25_2) true _ ?side1 ?side2 A12.out).mono ?_); (case side1 => repeat ((exact (Kd.C_below HR284_0.out HB.out)))); (case side2 => exact HC284_0.out); rintro e w14 ⟨rfl, hb⟩; refine ⟨_, rfl, ?_⟩; have n0_ := Aside0.mk (below_step (by repeat ((with_reducible (exact HB.out)))) hb); clear HB; have HB := n0_; clear n0_; (try clear hb); (try clear hb2); (try clear hk); (try clear hi)))
          go_roundg k2
          case measure => have := HJ2.out; have := HK2.out; omega
          case rel => exact ⟨(wrap64 (x25_2 + 1)), (by (rfl)), H', ⟨by have := HJ2.out; have := HK2.out; omega⟩, ⟨by repeat ((with_reducible (exact HB.out)))⟩⟩
         ·replace c13 := Bool.eq_false_iff.mpr c13
          subst c13
          have H1 : ((variorumlaw08_lives.f k2).bind fun t286 => (some t286)) = some r := by rw [if_neg (show ¬ (false = true) by decide)] at H; exact H
          clear H
          have H := H1
          clear H1
          replace H := Option.bind_eq_some_iff.mp H
          obtain ⟨t286, A150, H⟩ := H
          replace H : (some t286) = some r := H
          have A15 := Aside0.mk A150
          clear A150
          obtain rfl := Option.some.inj H
          have p284 : 0 ≤ (x25_2 : Int) := of_decide_eq_true (by (with_reducible assumption))
          have q284 : x25_2 < (l1.length : Int) := of_decide_eq_true (by (with_reducible assumption))
          obtain ⟨ad284, A284_0, c284_0, e284, hx284_0, hl284_0, hi284_0⟩ := at_L3 HR1.out x25_2 p284 q284
          cases e284
          replace hx284_0 := (HB.out.cell (World.block_lt_of_cell? w _ hx284_0)).trans hx284_0
          have HR284_0 := Aside0.mk hi284_0
          have HC284_0 := Aside0.mk hl284_0
          clear hi284_0 hl284_0
          replace p284 := eq_true p284
          replace q284 := eq_true q284
          go_wp2_with (first | ((with_reducible refine gate_callee (f := 7) rfl ?_); refine goesL_ (some 30) rfl rfl Try.func7 (by kernel_rfl) rfl #[.slice A284_0 (rd_L3 l1 x25_2).length c284_0] rfl (by (try simp only [List.map_toArray, List.map_cons, List.map_nil]); (rfl)) ?_; (with_reducible refine (variorumlaw08_few.calls k2 _ _ (rd_L3 l1 x25_2) false _ ?side1 ?side2 A12.out).mono ?_); (case side1 => repeat ((exact (Kd.C_below HR284_0.out HB.out)))); (case side2 => exact HC284_0.out); rintro e w16 ⟨rfl, hb⟩; refine ⟨_, rfl, ?_⟩; have n0_ := Aside0.mk (below_step (by repeat ((with_reducible (exact HB.out)))) hb); clear HB; have HB := n0_; clear n0_; (try clear hb); (try clear hb2); (try clear hk); (try clear hi)) | ((with_reducible refine gate_callee (f := 8) rfl ?_); refine goesL_ (some 32) rfl rfl Try.func8 (by kernel_rfl) rfl #[] rfl (by (try simp only [List.map_toArray, List.map_cons, List.map_nil]); (done)) ?_; (with_reducible refine (variorumlaw08_lives.calls k2  t286 _ A15.out).mono ?_); rintro e w17 ⟨rfl, hb⟩; refine ⟨_, rfl, ?_⟩; have n0_ := Aside0.mk (below_step (by repeat ((with_reducible (exact HB.out)))) hb); clear HB; have HB := n0_; clear n0_; (try clear hb); (try clear hb2); (try clear hk); (try clear hi)))
          go_ret
          exact ⟨by (rfl), by repeat ((with_reducible (exact HB.out)))⟩
        ·rw [if_neg c11] at H
         exact absurd H (by simp)
       ·rw [if_neg c10] at H
        exact absurd H (by simp)
      ·rw [if_neg c9] at H
       have c9b0 : decide (x25_2 < (l1.length : Int)) = false := decide_eq_false c9
       clear c9
       replace H := Option.bind_eq_some_iff.mp H
       obtain ⟨⟨t287, t288⟩, A180, H⟩ := H
       replace H : ((variorumref08_All.f k2 a0 l1).bind fun bt291 => ((variorumref06_Same.f k2 t287 bt291.1).bind fun t295 => (if t295 = true then (if t288 = bt291.2 then ((variorumlaw08_lives.f k2).bind fun t296 => (some t296)) else (some false)) else (some false)))) = some r := H
       have A18 := Aside0.mk A180
       clear A180
       replace H := Option.bind_eq_some_iff.mp H
       obtain ⟨⟨t291, t292⟩, A190, H⟩ := H
       replace H : ((variorumref06_Same.f k2 t287 t291).bind fun t295 => (if t295 = true then (if t288 = t292 then ((variorumlaw08_lives.f k2).bind fun t296 => (some t296)) else (some false)) else (some false))) = some r := H
       have A19 := Aside0.mk A190
       clear A190
       replace H := Option.bind_eq_some_iff.mp H
       obtain ⟨t295, A200, H⟩ := H
       replace H : (if t295 = true then (if t288 = t292 then ((variorumlaw08_lives.f k2).bind fun t296 => (some t296)) else (some false)) else (some false)) = some r := H
       have A20 := Aside0.mk A200
       clear A200
       by_cases c21 : t295 = true
       ·subst c21
        have H1 : (if t288 = t292 then ((variorumlaw08_lives.f k2).bind fun t296 => (some t296)) else (some false)) = some r := by rw [if_pos rfl] at H; exact H
        clear H
        have H := H1
        clear H1
        by_cases c22 : t288 = t292
        ·rw [if_pos c22] at H
         have c22b0 : (t288 == t292) = true := beq_iff_eq.mpr c22
         have c22b1 : (t288 != t292) = false := bne_eq_false_iff_eq.mpr c22
         clear c22
         replace H := Option.bind_eq_some_iff.mp H
         obtain ⟨t296, A230, H⟩ := H
         replace H : (some t296) = some r := H
         have A23 := Aside0.mk A230
         clear A230
         obtain rfl := Option.some.inj H
         go_wp2_with (first | ((with_reducible refine gate_callee (f := 12) rfl ?_); refine goesL_ (some 37) rfl rfl Try.func12 (by kernel_rfl) rfl #[.int .i64 a0, .slice A1 l1.length c1] rfl (by (try simp only [List.map_toArray, List.map_cons, List.map_nil]); (rfl)) ?_; (with_reducible refine (compose_All.calls k2 a0 _ _ l1 t287 t288 _ ?side1 ?side2 A18.out).mono ?_); (case side1 => repeat ((exact (Kd.C_below HR1.out HB.out)))); (case side2 => exact HC1.out); rintro e w24 ⟨v289, rfl, ho0, hb⟩; refine ⟨_, rfl, ?_⟩; have n0_ := Aside0.mk (Kd.R_lower ho0 (below_size (by repeat ((with_reducible (exact HB.out)))))); have n1_ := Aside0.mk (below_step (by repeat ((with_reducible (exact HB.out)))) hb); clear HB; have HO290 := n0_; have HB := n1_; clear n0_ n1_; (try clear hb); (try clear hb2); (try clear hk); (try clear hi); (try clear ho0)) | ((with_reducible refine gate_callee (f := 13) rfl ?_); refine goesL_ (some 43) rfl rfl Try.func13 (by kernel_rfl) rfl #[.int .i64 a0, .slice A1 l1.length c1] rfl (by (try simp only [List.map_toArray, List.map_cons, List.map_nil]); (rfl)) ?_; (with_reducible refine (variorumref08_All.calls k2 a0 _ _ l1 t291 t292 _ ?side1 ?side2 A19.out).mono ?_); (case side1 => repeat ((exact (Kd.C_below HR1.out HB.out)))); (case side2 => exact HC1.out); rintro e w25 ⟨v293, rfl, ho0, hb⟩; refine ⟨_, rfl, ?_⟩; have n0_ := Aside0.mk (Kd.R_elder' (by (with_reducible repeat ((apply Kd.R_drew))); exact HO290.out) (Kd.R_base ho0) hb); have n1_ := Aside0.mk (Kd.R_lower (Kd.R_new' ho0 (Kd.R_lt (by (with_reducible repeat ((apply Kd.R_drew))); exact HO290.out))) (below_size (by repeat ((with_reducible (exact HB.out)))))); have n2_ := Aside0.mk (below_step (by repeat ((with_reducible (exact HB.out)))) hb); clear HO290; clear HB; have HO290 := n0_; have HO294 := n1_; have HB := n2_; clear n0_ n1_ n2_; (try clear hb); (try clear hb2); (try clear hk); (try clear hi); (try clear ho0); obtain ⟨Ao26, co26, eo26⟩ := Kd.R_slice HO290.out; subst eo26; obtain ⟨Ao27, co27, eo27⟩ := Kd.R_slice HO294.out; subst eo27) | ((with_reducible refine gate_callee (f := 11) rfl ?_); refine goesL_ (some 48) rfl rfl Try.func11 (by kernel_rfl) rfl #[.slice Ao26 t287.length co26, .slice Ao27 t291.length co27] rfl (by (try simp only [List.map_toArray, List.map_cons, List.map_nil]); (rfl)) ?_; (with_reducible refine (variorumref06_Same.calls k2 _ _ t287 _ _ t291 true _ ?side1 ?side2 ?side3 ?side4 A20.out).mono ?_); (case side1 => repeat ((exact (Kd.R_reads' HO290.out).2.2))); (case side2 => exact (Kd.R_reads' HO290.out).2.1); (case side3 => repeat ((exact (Kd.R_reads' HO294.out).2.2))); (case side4 => exact (Kd.R_reads' HO294.out).2.1); rintro e w' ⟨rfl, ⟨nd, rfl⟩⟩; refine ⟨_, rfl, ?_⟩) | (go_at_call 8; (with_reducible refine (variorumlaw08_lives.calls k2  t296 _ A23.out).mono ?_); rintro e w28 ⟨rfl, hb⟩; have n0_ := Aside0.mk (Kd.R_below (by (with_reducible repeat ((apply Kd.R_drewN))); exact HO290.out) hb); have n1_ := Aside0.mk (Kd.R_below (by (with_reducible repeat ((apply Kd.R_drewN))); exact HO294.out) hb); have n2_ := Aside0.mk (below_step (by repeat ((with_reducible first | exact HB.out | apply pw_below_drewN))) hb); clear HO290; clear HO294; clear HB; have HO290 := n0_; have HO294 := n1_; have HB := n2_; clear n0_ n1_ n2_; (try clear hb); (try clear hb2); (try clear hk); (try clear hi)))
         go_ret
         exact ⟨by (rfl), by repeat ((with_reducible (exact HB.out)))⟩
        ·rw [if_neg c22] at H
         have c22b0 : (t288 == t292) = false := beq_eq_false_iff_ne.mpr c22
         have c22b1 : (t288 != t292) = true := bne_iff_ne.mpr c22
         exact absurd (Option.some.inj (show some false = some r from H)) (by rw [HR1_.out]; decide)
       ·replace c21 := Bool.eq_false_iff.mpr c21
        subst c21
        have H1 : (some false) = some r := by rw [if_neg (show ¬ (false = true) by decide)] at H; exact H
        clear H
        have H := H1
        clear H1
        exact absurd (Option.some.inj (show some false = some r from H)) (by rw [HR1_.out]; decide)
end Go.Proofs.Ytbfdplmgefcogaa.P
end
-- MERGED YtbfdplmgefcogaaComposeAllL
section

namespace Go.Proofs.Ytbfdplmgefcogaa.ComposeAllL
open Go.RowKit Go.Proofs.Ytbfdplmgefcogaa.P Go.Proofs.YtbfdplmgefcogaaW.PrintWords Go.Proofs.YtbfdplmgefcogaaW.PrintLast Go.Proofs.YtbfdplmgefcogaaW.PrintMore Go.Proofs.Ytbfdplmgefcogaa.EditL Go.Proofs.Ytbfdplmgefcogaa.EditK Go.Proofs.Ytbfdplmgefcogaa.EditF Go.Proofs.Ytbfdplmgefcogaa.EditG Go.Proofs.Ytbfdplmgefcogaa.SameF Go.Proofs.Ytbfdplmgefcogaa.ComposeL Go.Proofs.Ytbfdplmgefcogaa.ComposeT Go.Proofs.Ytbfdplmgefcogaa.ComposeF Go.Proofs.Ytbfdplmgefcogaa.ComposeRef
set_option linter.unusedSimpArgs false
set_option linter.unusedVariables false
def allL (op : List Rn) : List (List Rn) → List Rn × Int
 | [] => (op, 0)
 | x :: l => if (twoL op x).2 = 0 then allL (twoL op x).1 l else ([], (twoL op x).2)
structure Few (x : List Rn) : Prop where
 l : x.length ≤ 100
 s : good x = true → inL x ≤ 3000 ∧ outL x ≤ 3000
structure Fine (op : List Rn) : Prop where
 g : good op = true
 i : inL op ≤ 3000
 o : outL op ≤ 3000
theorem Fine.len {op : List Rn} (h : Fine op) : op.length ≤ 6000 := by
 have := szL_le (good_ok h.g).2.2.2
 have := h.i
 have := h.o
 omega
theorem two_fine {op x : List Rn} (h : Fine op) (hx : Few x) : (twoL op x).2 = 0 → Fine (twoL op x).1 := by
 intro e
 by_cases m : meet op x = true
 ·have is := two_is m (by have := h.len; have := hx.l; omega)
  rw [is.two]
  exact ⟨is.good, by rw [is.i]; exact h.i, by rw [is.o]; exact (hx.s (meet_iff.1 m).2.1).2⟩
 ·rw [two_no m] at e; cases e
theorem rd_op {l pre suf : List (List Rn)} {op : List Rn} (h : l = pre ++ op :: suf) : rd_L3 l (pre.length : Int) = op := by
 unfold rd_L3
 rw [Int.toNat_natCast, h]
 simp [List.getD_eq_getElem?_getD]
theorem snoc2 {l pre suf : List (List Rn)} {r : List Rn} (h : l = pre ++ r :: suf) : l = (pre ++ [r]) ++ suf ∧ ((pre ++ [r]).length : Int) = (pre.length : Int) + 1 ∧ (pre.length : Int) < (l.length : Int) := by
 subst h
 simp
 omega
theorem all_l (l : List (List Rn)) (hl : l.length ≤ 20) : ∀ (suf pre : List (List Rn)) (op : List Rn) (k : Nat), l = pre ++ suf → suf.length < k → (∀ x ∈ suf, Few x) → Fine op →
  compose_All.l0 k op l (l.length : Int) (pre.length : Int) = some (allL op suf) := by
 intro suf
 induction suf with
 | nil =>
  intro pre op k hfe hk _ _
  obtain ⟨k, rfl⟩ : ∃ m, k = m + 1 := ⟨k - 1, by omega⟩
  have : l.length = pre.length := by rw [hfe]; simp
  simp only [compose_All.l0]
  rw [if_neg (by omega)]; rfl
 | cons x suf ih =>
  intro pre op k hfe hk hf ho
  obtain ⟨k, rfl⟩ : ∃ m, k = m + 1 := ⟨k - 1, by omega⟩
  obtain ⟨hl2, hn1, hlt⟩ := snoc2 hfe
  have hx := hf x List.mem_cons_self
  have hol := ho.len
  have hxl := hx.l
  simp only [compose_All.l0, allL]
  rw [rd_op hfe, if_pos hlt, if_pos (by omega), if_pos hlt, two_f (by omega) (by omega), Option.bind_some]
  by_cases h : (twoL op x).2 = 0
  ·rw [if_pos h, if_pos h, w64 (x := (pre.length : Int) + 1) (by omega) (by omega), ← hn1]
   exact ih (pre ++ [x]) _ k hl2 (by simp at hk; omega) (fun y hy => hf y (List.mem_cons_of_mem _ hy)) (two_fine ho hx h)
  ·rw [if_neg h, if_neg h]
theorem rall_l (l : List (List Rn)) (hl : l.length ≤ 20) : ∀ (suf pre : List (List Rn)) (op : List Rn) (k : Nat), l = pre ++ suf → suf.length + 600000 < k → (∀ x ∈ suf, Few x) → Fine op →
  variorumref08_All.l0 k l op (pre.length : Int) = some (allL op suf) := by
 intro suf
 induction suf with
 | nil =>
  intro pre op k hfe hk _ _
  obtain ⟨k, rfl⟩ : ∃ m, k = m + 1 := ⟨k - 1, by omega⟩
  have : l.length = pre.length := by rw [hfe]; simp
  simp only [variorumref08_All.l0]
  rw [if_neg (by omega)]; rfl
 | cons x suf ih =>
  intro pre op k hfe hk hf ho
  obtain ⟨k, rfl⟩ : ∃ m, k = m + 1 := ⟨k - 1, by omega⟩
  obtain ⟨hl2, hn1, hlt⟩ := snoc2 hfe
  have hx := hf x List.mem_cons_self
  have hol := ho.len
  have hxl := hx.l
  simp only [List.length_cons] at hk
  simp only [variorumref08_All.l0, allL]
  rw [rd_op hfe, if_pos hlt, if_pos (by omega), rtwo_f (by omega) (by omega) (fun m => ⟨ho.i, ho.o, (hx.s (meet_iff.1 m).2.1).2⟩) k (by omega), Option.bind_some]
  by_cases h : (twoL op x).2 = 0
  ·rw [if_pos h, if_pos h, w64 (x := (pre.length : Int) + 1) (by omega) (by omega), ← hn1]
   exact ih (pre ++ [x]) _ k hl2 (by omega) (fun y hy => hf y (List.mem_cons_of_mem _ hy)) (two_fine ho hx h)
  ·rw [if_neg h, if_neg h]
theorem allL_fine : ∀ (l : List (List Rn)) (op : List Rn), (∀ x ∈ l, Few x) → Fine op → (allL op l).1.length ≤ 6000 := by
 intro l
 induction l with
 | nil => intro op _ h; exact h.len
 | cons x l ih =>
  intro op hf h
  show (if (twoL op x).2 = 0 then allL (twoL op x).1 l else ([], (twoL op x).2)).1.length ≤ _
  by_cases c : (twoL op x).2 = 0
  ·rw [if_pos c]; exact ih _ (fun y hy => hf y (List.mem_cons_of_mem _ hy)) (two_fine h (hf x List.mem_cons_self) c)
  ·rw [if_neg c]; simp
def allF (n : Int) (l : List (List Rn)) : List Rn × Int := if n < 0 ∨ 16777216 < n then ([], 2) else allL (nothing n) l
theorem nothing_fine {n : Int} (h0 : 0 ≤ n) (h1 : n ≤ 3000) : Fine (nothing n) := by
 obtain ⟨a, b, c, _⟩ := nothing_ok h0 (by omega)
 exact ⟨a, by omega, by omega⟩
theorem all_f {l : List (List Rn)} (hl : l.length ≤ 20) (hf : ∀ x ∈ l, Few x) {n : Int} (hn : n ≤ 3000 ∨ 16777216 < n) (k : Nat) (hk : 100 ≤ k) : compose_All.f k n l = some (allF n l) := by
 obtain ⟨k, rfl⟩ : ∃ m, k = m + 1 := ⟨k - 1, by omega⟩
 unfold compose_All.f allF
 have hj : compose_All.j0 (k + 1) n l true = some ([], 2) := by
  simp only [compose_All.j0]
  rw [if_pos (by trivial)]
 by_cases h : n < 0
 ·rw [if_pos h, if_pos (.inl h)]; exact hj
 ·rw [if_neg h]
  by_cases h2 : n > 16777216
  ·rw [decide_eq_true h2, if_pos (.inr h2)]; exact hj
  ·rw [decide_eq_false h2, if_neg (by omega)]
   simp only [compose_All.j0]
   rw [if_neg (by simp), nothing_f (by omega) (by omega), Option.bind_some]
   exact all_l l hl l [] _ k rfl (by omega) hf (nothing_fine (by omega) (by omega))
theorem rnothing_f {n : Int} (h0 : 0 ≤ n) (h1 : n ≤ 16777216) : variorumref06_Nothing.f n = some (nothing n) := by
 unfold variorumref06_Nothing.f nothing
 by_cases h : n < 1
 ·rw [if_pos h, if_neg (by omega)]
 ·rw [if_neg h, if_neg (by omega), if_pos (by omega)]; rfl
theorem rall_f {l : List (List Rn)} (hl : l.length ≤ 20) (hf : ∀ x ∈ l, Few x) {n : Int} (hn : n ≤ 3000 ∨ 16777216 < n) (k : Nat) (hk : 650000 ≤ k) : variorumref08_All.f k n l = some (allF n l) := by
 obtain ⟨k, rfl⟩ : ∃ m, k = m + 1 := ⟨k - 1, by omega⟩
 unfold variorumref08_All.f allF
 have hj : variorumref08_All.j0 (k + 1) n l true = some ([], 2) := by
  simp only [variorumref08_All.j0]
  rw [if_pos (by trivial)]
 by_cases h : n < 0
 ·rw [if_pos h, if_pos (.inl h)]; exact hj
 ·rw [if_neg h]
  by_cases h2 : n > 16777216
  ·rw [decide_eq_true h2, if_pos (.inr h2)]; exact hj
  ·rw [decide_eq_false h2, if_neg (by omega)]
   simp only [variorumref08_All.j0]
   rw [if_neg (by simp), rnothing_f (by omega) (by omega), Option.bind_some]
   exact rall_l l hl l [] _ k rfl (by omega) hf (nothing_fine (by omega) (by omega))
theorem law_l (l : List (List Rn)) (n : Int) (hl : l.length ≤ 20) (hn : n ≤ 3000 ∨ 16777216 < n) : ∀ (suf pre : List (List Rn)) (k : Nat), l = pre ++ suf → (∀ x ∈ pre, Few x) → suf.length + 660000 < k →
  variorumlaw08_ComposeAll.l0 k n l l (l.length : Int) (pre.length : Int) = some true := by
 intro suf
 induction suf with
 | nil =>
  intro pre k hfe hf hk
  rw [List.append_nil] at hfe
  subst hfe
  obtain ⟨k, rfl⟩ : ∃ m, k = m + 1 := ⟨k - 1, by omega⟩
  simp only [variorumlaw08_ComposeAll.l0]
  have hlen : (allF n l).1.length ≤ 6000 := by
   unfold allF
   by_cases h : n < 0 ∨ 16777216 < n
   ·rw [if_pos h]; simp
   ·rw [if_neg h]; exact allL_fine l _ hf (nothing_fine (by omega) (by omega))
  rw [if_neg (by omega), all_f hl hf hn k (by omega), Option.bind_some, rall_f hl hf hn k (by simp at hk; omega), Option.bind_some, same_eq _ (by omega) k (by omega), Option.bind_some, if_pos rfl, if_pos rfl]
  exact lives_b _ (by omega)
 | cons x suf ih =>
  intro pre k hfe hf hk
  obtain ⟨hl2, hn1, hlt⟩ := snoc2 hfe
  obtain ⟨k, rfl⟩ : ∃ m, k = m + 1 := ⟨k - 1, by omega⟩
  simp only [List.length_cons] at hk
  simp only [variorumlaw08_ComposeAll.l0]
  rw [rd_op hfe, if_pos hlt, if_pos (by omega), if_pos hlt]
  obtain ⟨t, h1, h2⟩ := few_f x k (by omega)
  rw [h1, Option.bind_some]
  cases t with
  | false => rw [if_neg Bool.false_ne_true]; exact lives_b _ (by omega)
  | true =>
   obtain ⟨q1, q2⟩ := h2 rfl
   rw [if_pos rfl, w64 (x := (pre.length : Int) + 1) (by omega) (by omega), ← hn1]
   refine ih (pre ++ [x]) k hl2 (fun y hy => ?_) (by omega)
   rcases List.mem_append.1 hy with hy | hy
   ·exact hf y hy
   ·obtain rfl := List.mem_singleton.1 hy; exact ⟨q1, q2⟩
theorem all_law (n : Int) (l : List (List Rn)) : ∃ k, variorumlaw08_ComposeAll.f k n l = some true := by
 obtain ⟨m, hm⟩ : ∃ m, m = 699999 := ⟨_, rfl⟩
 refine ⟨m + 1, ?_⟩
 have hj : variorumlaw08_ComposeAll.j0 (m + 1) n l true = some true := by
  simp only [variorumlaw08_ComposeAll.j0]
  rw [if_pos (by trivial)]; exact lives_b _ (by omega)
 have hmain : (n ≤ 3000 ∨ 16777216 < n) → variorumlaw08_ComposeAll.j0 (m + 1) n l (decide ((l.length : Int) > 20)) = some true := fun hn => by
  by_cases c : (l.length : Int) > 20
  ·rw [decide_eq_true c]; exact hj
  ·rw [decide_eq_false c]
   simp only [variorumlaw08_ComposeAll.j0]
   rw [if_neg (by simp)]
   exact law_l l n (by omega) hn l [] m rfl (fun x hx => by cases hx) (by omega)
 unfold variorumlaw08_ComposeAll.f
 by_cases c1 : n > 3000
 ·rw [if_pos c1]
  by_cases c2 : n ≤ 16777216
  ·rw [if_pos c2]; exact hj
  ·rw [if_neg c2]; exact hmain (.inr (by omega))
 ·rw [if_neg c1]; exact hmain (.inl (by omega))
theorem row (n : Int) (A : Option Addr) (c : Nat) (x : List (List (Int × ByteArray × Int))) (w : World) (hn : (Lit.int .i64 n).wf = true) (h : Kd.C (Kd.slice 43 (Kd.pair (Kd.int .i64) (Kd.pair Kd.string (Kd.int .i64)))) w A x.length x) (hc : x.length ≤ c)
  (hok : x.length ≤ maxLen ∧ ∀ y ∈ x, (fun x : List (Int × ByteArray × Int) => x.length ≤ maxLen ∧ ∀ y ∈ x, (fun x : Int × ByteArray × Int => (Lit.int .i64 x.1).wf = true ∧ x.2.1.size ≤ maxLen ∧ (Lit.int .i64 x.2.2).wf = true) y) y) :
  Calls Try.prog 4 #[.int .i64 n, .slice A x.length c] w fun e w' => e = .returned (.bool true) ∧ Below w.heap.size w w' := by
 have hC : Kd.C (Kd.slice 43 k43) w A x.length (x.map (List.map LightF.mk)) := Maps1.C_map (d := Kd.slice 43 (Kd.pair (Kd.int .i64) (Kd.pair Kd.string (Kd.int .i64)))) (d' := Kd.slice 43 k43) rfl (List.map LightF.mk) (fun x cs hx => Maps1.K_slice_map (d := Kd.pair (Kd.int .i64) (Kd.pair Kd.string (Kd.int .i64))) (d' := k43) rfl LightF.mk (fun x cs hx => hx) x cs hx) h
 obtain ⟨k, hk⟩ := all_law n (x.map (List.map LightF.mk))
 have := variorumlaw08_ComposeAll.calls k n A c (x.map (List.map LightF.mk)) true w (by rw [List.length_map]; exact hC) (by rw [List.length_map]; exact hc) hk rfl
 rw [List.length_map] at this
 exact this
end Go.Proofs.Ytbfdplmgefcogaa.ComposeAllL
end
-- MERGED YtbfdplmgefcogaaOpens
section

namespace Go.Proofs.Ytbfdplmgefcogaa.Opens
open Go.ChangeShapes Go.WideShapes Go.Deep Go.RowKit Go.Proofs.YtbfdplmgefcogaaW.PrintWords
def Opens {α : Type} (P : Program) (t : TypeId) (d : Kd α) (ok : α → Prop) : Prop :=
 P.cellsOf t = d.sz ∧ ∀ (H : Type) (enc : TypeId × Value → H) (w : World) (base : Nat) (sp : Nat → Bool) (held : Bool) (fuel : Nat) (cs : List Value) (x : DataW H × List MemPlace),
  DataW.trod enc P w base sp held fuel t cs = some x → ∃ a : α, d.K w a cs ∧ ok a
theorem list_of {α : Type} (Q : Nat → α → Prop) : ∀ len : Nat, (∀ i, i < len → ∃ x, Q i x) → ∃ l : List α, l.length = len ∧ ∀ i x, l[i]? = some x → Q i x
 | 0, _ => ⟨[], rfl, fun i x hx => by simp at hx⟩
 | k + 1, each => by
  obtain ⟨l, hl, hf⟩ := list_of Q k (fun i hi => each i (by omega))
  obtain ⟨x, h1⟩ := each k (by omega)
  refine ⟨l ++ [x], by simp [hl], fun i y hy => ?_⟩
  by_cases hik : i < l.length
  ·rw [List.getElem?_append_left hik] at hy
   exact hf i y hy
  ·rw [List.getElem?_append_right (by omega)] at hy
   have hi0 : i - l.length = 0 := by
    rcases Nat.eq_zero_or_pos (i - l.length) with h | h
    ·exact h
    ·rw [List.getElem?_eq_none (by simp; omega)] at hy; cases hy
   rw [hi0] at hy
   obtain rfl : x = y := by simpa using hy
   obtain rfl : i = k := by omega
   exact h1
section
variable {P : Program} {t e : TypeId} {α β γ δ : Type}
theorem int_ {k : IntKind} (ht : P.underlying t = some (.int k)) (hc : P.cellsOf t = 1) : Opens P t (Kd.int k) (fun n => (Lit.int k n).wf = true) :=
 ⟨hc, fun _ _ _ _ _ _ _ _ _ h => by
  obtain ⟨n, rfl, _, hw⟩ := DataW.trod_int ht h
  exact ⟨n, rfl, hw⟩⟩
theorem string_ (ht : P.underlying t = some .string) (hc : P.cellsOf t = 1) : Opens P t Kd.string (fun s => s.size ≤ maxLen) :=
 ⟨hc, fun _ _ _ _ _ _ _ _ _ h => by
  obtain ⟨n, rfl, _, hw⟩ := DataW.trod_string ht h
  exact ⟨n, rfl, hw⟩⟩
theorem bool_ (ht : P.underlying t = some .bool) (hc : P.cellsOf t = 1) : Opens P t Kd.bool (fun _ => True) :=
 ⟨hc, fun _ _ _ _ _ _ _ _ _ h => by
  obtain ⟨n, rfl, _⟩ := DataW.trod_bool ht h
  exact ⟨n, rfl, trivial⟩⟩
theorem slice_ {d : Kd α} {ok : α → Prop} (ht : P.underlying t = some (.slice e)) (hc : P.cellsOf t = 1) (he : Opens P e d ok) : Opens P t (Kd.slice e d) (fun l => l.length ≤ maxLen ∧ ∀ x ∈ l, ok x) := by
 refine ⟨hc, fun H enc w base sp held fuel cs x h => ?_⟩
 rcases open_slice ht h with ⟨rfl, _⟩ | ⟨a, len, cap, m, n, D, Pl, rfl, hb, hl, hm, hmm, _, hi⟩
 ·refine ⟨[], ⟨none, 0, rfl, Nat.le_refl _, rfl, Nat.zero_le _, fun h => absurd h (by simp)⟩, Nat.zero_le _, fun _ h => by cases h⟩
 ·have hlm : len ≤ m := by rw [hmm]; split <;> omega
  have each : ∀ i, i < len → ∃ (x : α) (cs' : List Value), w.cells? base (a.add (i * P.cellsOf e)) (P.cellsOf e) = some cs' ∧ d.K w x cs' ∧ ok x := by
   intro i hlt
   obtain ⟨cs', h1, h2⟩ := hi i (by omega)
   obtain ⟨x, h3, h4⟩ := he.2 H enc w base sp held n cs' _ h2
   exact ⟨x, cs', h1, h3, h4⟩
  have hex := list_of (fun i x => ∃ cs' : List Value, w.cells? base (a.add (i * P.cellsOf e)) (P.cellsOf e) = some cs' ∧ d.K w x cs' ∧ ok x) len each
  obtain ⟨l, hll, hf⟩ := hex
  subst hll
  refine ⟨l, ⟨some a, cap, rfl, hl, rfl, ?_, fun _ => ⟨a, rfl, fun j p hj => ?_⟩⟩, by omega, fun x hx => ?_⟩
  ·unfold maxLen at hm; omega
  ·obtain ⟨cs', h1, h2, _⟩ := hf j p hj
   obtain ⟨_, h3, h4⟩ := World.cells?_some h1
   refine ⟨cs', d.K_len h2, h2, fun i u hu => ?_⟩
   have hil : i < P.cellsOf e := by
    have := (List.getElem?_eq_some_iff.1 hu).1
    omega
   rw [← Go.Deep.add_add, ← he.1, h4 i hil, hu]
  ·obtain ⟨i, hi⟩ := List.getElem?_of_mem hx
   obtain ⟨_, _, _, h⟩ := hf i x hi
   exact h
theorem struct2_ {d0 : Kd α} {d1 : Kd β} {ok0 : α → Prop} {ok1 : β → Prop} {f0 f1 : Field} (ht : P.underlying t = some (.struct #[f0, f1])) (hc : P.cellsOf t = d0.sz + d1.sz) (h0 : Opens P f0.type d0 ok0) (h1 : Opens P f1.type d1 ok1) (o0 : f0.offset = 0) (o1 : f1.offset = d0.sz) :
  Opens P t (Kd.pair d0 d1) (fun x => ok0 x.1 ∧ ok1 x.2) := by
 refine ⟨hc, fun H enc w base sp held fuel cs x h => ?_⟩
 obtain ⟨ys, n, _, _, hl, hyl, hf⟩ := DataW.trod_struct ht h
 have g0 := hf 0 f0 rfl
 have g1 := hf 1 f1 rfl
 simp only [List.size_toArray, List.length_cons, List.length_nil] at hyl
 rw [List.getElem?_eq_getElem (by omega)] at g0 g1
 obtain ⟨a, ka, oa⟩ := h0.2 _ _ _ _ _ _ _ _ _ g0
 obtain ⟨b, kb, ob⟩ := h1.2 _ _ _ _ _ _ _ _ _ g1
 refine ⟨(a, b), ⟨_, _, ?_, ka, kb⟩, oa, ob⟩
 rw [o0, o1, h0.1, h1.1, List.drop_zero]
 rw [hc] at hl
 have e1 : (cs.drop d0.sz).take d1.sz = cs.drop d0.sz := List.take_of_length_le (by rw [List.length_drop]; omega)
 rw [e1, List.take_append_drop]
theorem struct3_ {d0 : Kd α} {d1 : Kd β} {d2 : Kd γ} {ok0 : α → Prop} {ok1 : β → Prop} {ok2 : γ → Prop} {f0 f1 f2 : Field} (ht : P.underlying t = some (.struct #[f0, f1, f2])) (hc : P.cellsOf t = d0.sz + (d1.sz + d2.sz)) (h0 : Opens P f0.type d0 ok0) (h1 : Opens P f1.type d1 ok1) (h2 : Opens P f2.type d2 ok2)
  (o0 : f0.offset = 0) (o1 : f1.offset = d0.sz) (o2 : f2.offset = d0.sz + d1.sz) : Opens P t (Kd.pair d0 (Kd.pair d1 d2)) (fun x => ok0 x.1 ∧ ok1 x.2.1 ∧ ok2 x.2.2) := by
 refine ⟨hc, fun H enc w base sp held fuel cs x h => ?_⟩
 obtain ⟨ys, n, _, _, hl, hyl, hf⟩ := DataW.trod_struct ht h
 have g0 := hf 0 f0 rfl
 have g1 := hf 1 f1 rfl
 have g2 := hf 2 f2 rfl
 simp only [List.size_toArray, List.length_cons, List.length_nil] at hyl
 rw [List.getElem?_eq_getElem (by omega)] at g0 g1 g2
 obtain ⟨a, ka, oa⟩ := h0.2 _ _ _ _ _ _ _ _ _ g0
 obtain ⟨b, kb, ob⟩ := h1.2 _ _ _ _ _ _ _ _ _ g1
 obtain ⟨c, kc, oc⟩ := h2.2 _ _ _ _ _ _ _ _ _ g2
 refine ⟨(a, b, c), ⟨_, _, ?_, ka, _, _, rfl, kb, kc⟩, oa, ob, oc⟩
 rw [o0, o1, o2, h0.1, h1.1, h2.1, List.drop_zero]
 rw [hc] at hl
 have e1 : (cs.drop (d0.sz + d1.sz)).take d2.sz = cs.drop (d0.sz + d1.sz) := List.take_of_length_le (by rw [List.length_drop]; omega)
 rw [e1, ← List.drop_drop, List.take_append_drop, List.take_append_drop]
theorem struct4_ {d0 : Kd α} {d1 : Kd β} {d2 : Kd γ} {d3 : Kd δ} {ok0 : α → Prop} {ok1 : β → Prop} {ok2 : γ → Prop} {ok3 : δ → Prop} {f0 f1 f2 f3 : Field} (ht : P.underlying t = some (.struct #[f0, f1, f2, f3])) (hc : P.cellsOf t = d0.sz + (d1.sz + (d2.sz + d3.sz)))
  (h0 : Opens P f0.type d0 ok0) (h1 : Opens P f1.type d1 ok1) (h2 : Opens P f2.type d2 ok2) (h3 : Opens P f3.type d3 ok3) (o0 : f0.offset = 0) (o1 : f1.offset = d0.sz) (o2 : f2.offset = d0.sz + d1.sz) (o3 : f3.offset = d0.sz + d1.sz + d2.sz) :
  Opens P t (Kd.pair d0 (Kd.pair d1 (Kd.pair d2 d3))) (fun x => ok0 x.1 ∧ ok1 x.2.1 ∧ ok2 x.2.2.1 ∧ ok3 x.2.2.2) := by
 refine ⟨hc, fun H enc w base sp held fuel cs x h => ?_⟩
 obtain ⟨ys, n, _, _, hl, hyl, hf⟩ := DataW.trod_struct ht h
 have g0 := hf 0 f0 rfl
 have g1 := hf 1 f1 rfl
 have g2 := hf 2 f2 rfl
 have g3 := hf 3 f3 rfl
 simp only [List.size_toArray, List.length_cons, List.length_nil] at hyl
 rw [List.getElem?_eq_getElem (by omega)] at g0 g1 g2 g3
 obtain ⟨a, ka, oa⟩ := h0.2 _ _ _ _ _ _ _ _ _ g0
 obtain ⟨b, kb, ob⟩ := h1.2 _ _ _ _ _ _ _ _ _ g1
 obtain ⟨c, kc, oc⟩ := h2.2 _ _ _ _ _ _ _ _ _ g2
 obtain ⟨q, kq, oq⟩ := h3.2 _ _ _ _ _ _ _ _ _ g3
 refine ⟨(a, b, c, q), ⟨_, _, ?_, ka, _, _, rfl, kb, _, _, rfl, kc, kq⟩, oa, ob, oc, oq⟩
 rw [o0, o1, o2, o3, h0.1, h1.1, h2.1, h3.1, List.drop_zero]
 rw [hc] at hl
 have e1 : (cs.drop (d0.sz + d1.sz + d2.sz)).take d3.sz = cs.drop (d0.sz + d1.sz + d2.sz) := List.take_of_length_le (by rw [List.length_drop]; omega)
 rw [e1, ← List.drop_drop (i := d2.sz), List.take_append_drop, ← List.drop_drop, List.take_append_drop, List.take_append_drop]
theorem arg_ {d : Kd α} {ok : α → Prop} (ho : Opens P t d ok) {H : Type} {enc : TypeId × Value → H} {w : World} {base : Nat} {sp : Nat → Bool} {held : Bool} {v : Value} {x : DataW H} {ps : List MemPlace} (h : DataW.Trod enc P w base sp held t v x ps) : ∃ a : α, d.K w a v.cells.toList ∧ ok a := by
 obtain ⟨fuel, hf⟩ := h
 exact ho.2 _ _ _ _ _ _ _ _ _ hf
end
theorem slice_shape {α : Type} {e : Nat} {d : Kd α} {w : World} {a : Option Addr} {n c : Nat} {l : List α} (h : (Kd.slice e d).K w l (Value.slice a n c).cells.toList) : n = l.length ∧ l.length ≤ c ∧ Kd.C d w a l.length l := by
 obtain ⟨A, c', e1, hc, hC⟩ := h
 simp only [Value.cells, List.cons.injEq, Value.slice.injEq] at e1
 obtain ⟨⟨rfl, rfl, rfl⟩, _⟩ := e1
 exact ⟨rfl, hc, hC⟩
end Go.Proofs.Ytbfdplmgefcogaa.Opens
end
-- MERGED YtbfdplmgefcogaaLawComposeAll
section

namespace Go.Proofs.Ytbfdplmgefcogaa.composeAll
open Go.ChangeShapes Go.WideShapes Go.ChangeAt Go.RowKit Go.Proofs.YtbfdplmgefcogaaW.PrintWords
open Go.ChangeMaps (open_string shut_string)
set_option linter.unusedVariables false
theorem own : ownKnob Try.prog.godebug = none := by kernel_rfl
theorem laidOut : laidOutB Try.prog = true := by kernel_rfl
theorem o3 : Opens.Opens Try.prog 3 (Kd.int .i64) (fun n => (Lit.int .i64 n).wf = true) := Opens.int_ (t := 3) Try.underlying3 (by kernel_rfl)
theorem o9 : Opens.Opens Try.prog 9 Kd.string (fun s => s.size ≤ maxLen) := Opens.string_ (t := 9) Try.underlying9 (by kernel_rfl)
theorem o43 : Opens.Opens Try.prog 43 (Kd.pair (Kd.int .i64) (Kd.pair Kd.string (Kd.int .i64))) (fun x => (fun n => (Lit.int .i64 n).wf = true) x.1 ∧ (fun s => s.size ≤ maxLen) x.2.1 ∧ (fun n => (Lit.int .i64 n).wf = true) x.2.2) := Opens.struct3_ (t := 43) Try.underlying43 (by kernel_rfl) o3 o9 o3 rfl rfl rfl
theorem o22 : Opens.Opens Try.prog 22 (Kd.slice 43 (Kd.pair (Kd.int .i64) (Kd.pair Kd.string (Kd.int .i64)))) (fun l => l.length ≤ maxLen ∧ ∀ x ∈ l, (fun x => (fun n => (Lit.int .i64 n).wf = true) x.1 ∧ (fun s => s.size ≤ maxLen) x.2.1 ∧ (fun n => (Lit.int .i64 n).wf = true) x.2.2) x) := Opens.slice_ (t := 22) (e := 43) Try.underlying22 (by kernel_rfl) o43
theorem o31 : Opens.Opens Try.prog 31 (Kd.slice 22 (Kd.slice 43 (Kd.pair (Kd.int .i64) (Kd.pair Kd.string (Kd.int .i64))))) (fun l => l.length ≤ maxLen ∧ ∀ x ∈ l, (fun l => l.length ≤ maxLen ∧ ∀ x ∈ l, (fun x => (fun n => (Lit.int .i64 n).wf = true) x.1 ∧ (fun s => s.size ≤ maxLen) x.2.1 ∧ (fun n => (Lit.int .i64 n).wf = true) x.2.2) x) x) := Opens.slice_ (t := 31) (e := 22) Try.underlying31 (by kernel_rfl) o22
set_option maxRecDepth 100000 in
theorem lifted (os : Os) (started : os.Started) (H : Type) (enc : TypeId × Value → H) :
  ReturnsInHanded {} Try.checked os 4 .any (Rows.composeAllSpec.pre6 enc Try.prog Try.f4 Rows.composeAllRow.domain false) (Rows.composeAllSpec.post enc Try.prog Try.f4 false true false false) := by
 refine returnsInHanded_of_change_sized (C := Try.checked) own started (by kernel_rfl) Try.func4
  (ChangeSpec.witness6 (enc := enc) (C := Try.checked) false ⟨#[], #[(.int .i64 0), (.slice none 0 0)], []⟩ 8 (by kernel_rfl) (by kernel_rfl) (by kernel_rfl) (by kernel_rfl)) ?_
 intro W base args ds gs before hval0 hW hcnd hsz0 _
 have hsz : (DataW.weightsEach Try.prog (Try.f4.params.toList ++ Rows.composeAllSpec.plain.varTypes Try.prog) (ds ++ gs)).all (· ≤ reachBytes) = true := hsz0
 have hval : ∀ (j : Nat) t v, Try.f4.params[j]? = some t → args[j]? = some v → Value.okWide Try.prog W .any base t v := hval0
 have hW' := hW
 obtain ⟨p, q, hA0, hV, rfl, hfz, hnd⟩ := hW
 have hA : DataW.TrodAll enc Try.prog W 0 (fun _ => true) true Try.f4.params.toList args.toList ds p := hA0
 rw [Try.params4] at hA hval hsz
 obtain ⟨v0, vs0, d0, ds0, p0, q0, hargs, rfl, rfl, h0, r0⟩ := trodAll_cons hA
 obtain ⟨v1, vs1, d1, ds1, p1, q1, rfl, rfl, rfl, h1, r1⟩ := trodAll_cons r0
 obtain ⟨rfl, rfl, rfl⟩ := trodAll_nil r1
 obtain rfl : args = #[v0, v1] := by cases args; simp_all
 obtain ⟨rfl, rfl⟩ := trodVars_none hV
 obtain ⟨a0, rfl, rfl, rfl, w0⟩ := open_int Try.underlying3 (hval 0 3 v0 rfl rfl) h0
 obtain ⟨a1, len1, cap1, rfl⟩ := okWide_slice Try.underlying31 (hval 1 31 v1 rfl rfl)
 have k1 := h1
 have lt1 : ∀ x ∈ p1, x.block < W.heap.size := by obtain ⟨m, hm⟩ := k1; exact DataW.trod_lt m _ _ _ hm
 obtain ⟨x1, hK1, ok1⟩ := Opens.arg_ o31 h1
 obtain ⟨rfl, hc1, hC1⟩ := Opens.slice_shape hK1
 clear hA0 hval0 hsz0 hsz
 refine (ComposeAllL.row a0 a1 cap1 x1 W w0 hC1 hc1 ok1).mono fun e W' ⟨he, bel⟩ => ?_
 subst he
 exact ⟨_, rfl, _, _, _, [], _, [], hW', trodAll_mk1 (shut_bool Try.underlying4 _), (trodAll_cons_mk (shut_int Try.underlying3 w0) (trodAll_cons_mk (Below.trod laidOut (by kernel_rfl) (of_decide_eq_true (by kernel_rfl)) k1 bel lt1) trodAll_mk0)), rfl, bel.frame _, fun h => by cases h⟩
theorem over : Rows.composeAllRow.holds Try.pinned (OpenSpec.ofChange Rows.composeAllSpec) :=
 OpenClaim.holds_of_wide 4 Try.f4 rfl rfl rfl rfl rfl rfl rfl ⟨rfl, rfl, rfl, rfl, rfl⟩ rfl rfl rfl rfl rfl (by kernel_rfl) Try.func4 (by kernel_rfl)
  (of_decide_eq_true (by kernel_rfl)) (by unfold Func.isWrapper; first | (rw [if_pos (by decide +kernel)]; kernel_rfl) | (rw [if_neg (by decide +kernel)]; exact ⟨rfl, rfl⟩))
  (fun os started H enc _ => lifted os started H enc)
theorem proved : Rows.ComposeAllSaid := over
#print axioms proved
end Go.Proofs.Ytbfdplmgefcogaa.composeAll
namespace Go.Proofs.Ytbfdplmgefcogaa
theorem composeAll_holds : Rows.ComposeAllSaid := composeAll.proved
end Go.Proofs.Ytbfdplmgefcogaa
end

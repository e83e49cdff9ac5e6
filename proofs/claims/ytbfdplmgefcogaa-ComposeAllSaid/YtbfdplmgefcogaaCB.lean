import Derived.Test.YtbfdplmgefcogaaCA
import Derived.RangeFuncNested
import Derived.RangeFuncBound
import Derived.RangeFuncCalls
import Derived.RangeFuncLeaves
import Derived.Shelf.Abstract
import Derived.Shelf.RegionOpen
import Derived.WalkKit
import Derived.OwnWalkIn
import Derived.TacticsInMore
import Derived.LoopNIn
import Derived.LoopIn
-- MERGED YtbfdplmgefcogaaPeditright
section
-- Written by wip/myprint.py of this session, over the kit's print.py: a Lean function for each Go function, and the proof that the code comes to it.
namespace Go.Proofs.Ytbfdplmgefcogaa.P
open Go.RowKit Go.Proofs.YtbfdplmgefcogaaW.PrintWords Go.Proofs.YtbfdplmgefcogaaW.PrintLast Go.Proofs.YtbfdplmgefcogaaW.PrintMore
attribute [local go_sem] max2_int min2_int max_two min_two max_three min_three max_four min_four   -- for this text's walks alone
set_option linter.unusedVariables false
set_option linter.unusedSimpArgs false

/-! ### edit_right: function 33 -/
def edit_right.l0 : Nat → List (S43) → Int → List (S43) → Int → Int → Option (Bool)
  | 0, _, _, _, _, _ => none
  | k + 1, x0, x3, x7, x8, x9 => if x9 < x8 then (if 0 ≤ x9 then (if x9 < (x7.length : Int) then ((edit_kind.f ((rd_T43 x7 x9).f0) ((rd_T43 x7 x9).f1) ((rd_T43 x7 x9).f2)).bind fun t120 => (if t120 = 0 then (some false) else (if t120 = x3 then (some false) else (if x3 = 3 then (if t120 = 2 then (some false) else (edit_right.l0 k x0 t120 x7 x8 (wrap64 (x9 + 1)))) else (edit_right.l0 k x0 t120 x7 x8 (wrap64 (x9 + 1))))))) else (none)) else (none)) else (some (decide ((x0.length : Int) ≤ 65536)))
def edit_right.f (k : Nat) (l0 : List (S43)) : Option (Bool) := edit_right.l0 k l0 0 l0 (l0.length : Int) 0
theorem edit_right.mono_l : ∀ k, (∀ y0 y1 y2 y3 y4, LeO (edit_right.l0 k y0 y1 y2 y3 y4) (edit_right.l0 (k + 1) y0 y1 y2 y3 y4))
  | 0 => fun _ _ _ _ _ r h => by simp [edit_right.l0] at h
  | k + 1 => by
    have ih0 := edit_right.mono_l k
    · intro y0 y1 y2 y3 y4
      unfold edit_right.l0
      repeat' first
      | (with_reducible exact ih0 _ _ _ _ _)
      | (with_reducible exact LeO.refl _)
      | (with_reducible exact LeO.none _)
      | (with_reducible refine LeO.ite ?_ ?_)
      | (with_reducible refine LeO.bind ?_ (fun _ => ?_))
      | exact ih0 _ _ _ _ _
      | exact LeO.none _
      | refine LeO.ite ?_ ?_
      | refine LeO.bind ?_ (fun _ => ?_)
theorem edit_right.mono : ∀ a0 k, LeO (edit_right.f k a0) (edit_right.f (k + 1) a0) := by
  intro a0 k
  have ih0 := edit_right.mono_l k
  unfold edit_right.f
  repeat' first
      | (with_reducible exact ih0 _ _ _ _ _)
      | (with_reducible exact LeO.refl _)
      | (with_reducible exact LeO.none _)
      | (with_reducible refine LeO.ite ?_ ?_)
      | (with_reducible refine LeO.bind ?_ (fun _ => ?_))
      | exact ih0 _ _ _ _ _
      | exact LeO.none _
      | refine LeO.ite ?_ ?_
      | refine LeO.bind ?_ (fun _ => ?_)
set_option maxHeartbeats 8000000 in
set_option maxRecDepth 100000 in
theorem edit_right.calls (k : Nat) (A0 : Option Addr) (c0 : Nat) (l0 : List (S43)) (r : Bool) (w : World) (hr0 : Kd.C k43 w A0 l0.length l0) (hc0 : l0.length ≤ c0) (h : edit_right.f k l0 = some r) :
    Calls Try.prog 33 #[.slice A0 l0.length c0] w fun e w' => e = .returned (.bool r) ∧ Below w.heap.size w w' := by
  have hu43 := Try.underlying43
  have HR0 := Aside0.mk hr0
  have HC0 := Aside0.mk hc0
  clear hr0 hc0
  have HB := Aside0.mk (Below.refl w.heap.size w)
  have H : (edit_right.l0 k l0 0 l0 (l0.length : Int) 0) = some r := h
  clear h
  have H' := Aside0.mk H
  clear H
  go_enter Try.func33, Try.ntmps33
  go_wp2
  go_loopg [3, 9] k (fun kq v3 v9 w' => ∃ (x3_1 : Int) (x9_1 : Int), v3 = .int .i64 x3_1 ∧ v9 = .int .i64 x9_1 ∧ Aside0 (edit_right.l0 kq l0 x3_1 l0 (l0.length : Int) x9_1 = some r) ∧ Aside0 (kq ≤ k) ∧ Aside0 (Below w.heap.size w w'))
  case atStart => exact ⟨(0), (0), (by first | rfl | (simp; done) | (simp [*]; done)), (by first | rfl | (simp; done) | (simp [*]; done)), H', ⟨Nat.le_refl _⟩, ⟨by repeat (first | (with_reducible first | exact HB.out | apply below_alloc | apply pw_below_drewN | apply below_drew1) | exact HB.out)⟩⟩
  case round =>
    clear H'
    obtain ⟨x3_1, x9_1, rfl, rfl, HA, HK1, HB⟩ := hrel
    cases gk with
    | zero => exact absurd HA.out (by simp [edit_right.l0])
    | succ k1 =>
      have H := HA.out
      clear HA
      simp only [edit_right.l0] at H
      by_cases c2 : x9_1 < (l0.length : Int)
      · rw [if_pos c2] at H
        have c2b0 : decide (x9_1 < (l0.length : Int)) = true := decide_eq_true c2
        clear c2
        by_cases c3 : 0 ≤ x9_1
        · rw [if_pos c3] at H
          have c3b0 : decide (0 ≤ x9_1) = true := decide_eq_true c3
          clear c3
          by_cases c4 : x9_1 < (l0.length : Int)
          · rw [if_pos c4] at H
            have c4b0 : decide (x9_1 < (l0.length : Int)) = true := decide_eq_true c4
            clear c4
            replace H := Option.bind_eq_some_iff.mp H
            obtain ⟨t120, A50, H⟩ := H
            replace H : (if t120 = 0 then (some false) else (if t120 = x3_1 then (some false) else (if x3_1 = 3 then (if t120 = 2 then (some false) else (edit_right.l0 k1 l0 t120 l0 (l0.length : Int) (wrap64 (x9_1 + 1)))) else (edit_right.l0 k1 l0 t120 l0 (l0.length : Int) (wrap64 (x9_1 + 1)))))) = some r := H
            have A5 := Aside0.mk A50
            clear A50
            by_cases c6 : t120 = 0
            · rw [if_pos c6] at H
              have c6b0 : (t120 == 0) = true := beq_iff_eq.mpr c6
              have c6b1 : (t120 != 0) = false := bne_eq_false_iff_eq.mpr c6
              clear c6
              obtain rfl := Option.some.inj H
              have p118 : 0 ≤ (x9_1 : Int) := of_decide_eq_true (by first | (with_reducible assumption) | assumption)
              have q118 : x9_1 < (l0.length : Int) := of_decide_eq_true (by first | (with_reducible assumption) | assumption)
              obtain ⟨ad118, e118, hx118_0, hx118_1, hx118_2⟩ := at_T43 HR0.out x9_1 p118 q118
              cases e118
              replace hx118_0 := (HB.out.cell (World.block_lt_of_cell? w _ hx118_0)).trans hx118_0
              replace hx118_1 := (HB.out.cell (World.block_lt_of_cell? w _ hx118_1)).trans hx118_1
              replace hx118_2 := (HB.out.cell (World.block_lt_of_cell? w _ hx118_2)).trans hx118_2
              replace p118 := eq_true p118
              replace q118 := eq_true q118
              go_wp2_with (first | ((with_reducible refine gate_dst (N := 5) rfl ?_); refine box_event ?hg (N := 5) ?hd (cs := #[.int .i64 0, .string (⟨#[]⟩ : ByteArray), .int .i64 0]) (t := 43) ?hr ?_; (case hd => rfl); (case hg => rfl); (case hr => first | (go_simp; done) | (go_simp; rfl)); intro gb119 hg w7 hbox hb; have n0_ := Aside0.mk (below_step (by repeat (first | (with_reducible first | exact HB.out | apply below_alloc | apply pw_below_drewN | apply below_drew1) | exact HB.out)) hb); have n1_ := Aside0.mk (hbox); have n2_ := Aside0.mk ((by rw [hg]; exact (below_size (by repeat (first | (with_reducible first | exact HB.out | apply below_alloc | apply pw_below_drewN | apply below_drew1) | exact HB.out))) : w.heap.size ≤ gb119)); have n3_ := Aside0.mk ((by rw [hg]; exact (below_size (by repeat (first | (with_reducible first | exact HB.out | apply below_alloc | apply pw_below_drewN | apply below_drew1) | exact HB.out))) : w.heap.size ≤ gb119)); clear HB; have HB := n0_; have BK119 := n1_; have GW119 := n2_; have GE119 := n3_; clear n0_ n1_ n2_ n3_; clear hb hbox hg; have hcz8_0 : w7.cell? ⟨gb119, 0, none⟩ = some (.int .i64 0) := (blk_cell BK119.out 0).trans rfl; have hcz8_1 : w7.cell? ⟨gb119, 1, none⟩ = some (.string (⟨#[]⟩ : ByteArray)) := (blk_cell BK119.out 1).trans rfl; have hcz8_2 : w7.cell? ⟨gb119, 2, none⟩ = some (.int .i64 0) := (blk_cell BK119.out 2).trans rfl; have hfz8_0 := blk_frozen BK119.out 0; have hfz8_1 := blk_frozen BK119.out 1; have hfz8_2 := blk_frozen BK119.out 2) | ((with_reducible refine gate_callee (f := 42) rfl ?_); refine goesL_ (some 14) rfl rfl Try.func42 (by kernel_rfl) rfl #[.agg #[.int .i64 ((rd_T43 l0 x9_1).f0), .string ((rd_T43 l0 x9_1).f1), .int .i64 ((rd_T43 l0 x9_1).f2)]] rfl (by (try simp only [List.map_toArray, List.map_cons, List.map_nil]); first | done | rfl | (simp only [List.length_drop, List.length_take]; rfl)) ?_; (with_reducible refine (edit_kind.calls ((rd_T43 l0 x9_1).f0) ((rd_T43 l0 x9_1).f1) ((rd_T43 l0 x9_1).f2) t120 _ A5.out).mono ?_); rintro e w9 ⟨rfl, hb⟩; refine ⟨_, rfl, ?_⟩; have n0_ := Aside0.mk (blk_below (g := gb119) (o := .cells #[.int .i64 ((rd_T43 l0 x9_1).f0), .string ((rd_T43 l0 x9_1).f1), .int .i64 ((rd_T43 l0 x9_1).f2)] 43 (0, 0)) (by (with_reducible repeat (first | refine blk_drewN ?_ _ | refine blk_drew ?_ | refine blk_alloc ?_ _)); refine blk_put (cs := #[.int .i64 ((rd_T43 l0 x9_1).f0), .string ((rd_T43 l0 x9_1).f1), .int .i64 0]) ?_ 2 _ rfl; (with_reducible repeat (first | refine blk_drewN ?_ _ | refine blk_drew ?_ | refine blk_alloc ?_ _)); refine blk_put (cs := #[.int .i64 ((rd_T43 l0 x9_1).f0), .string (⟨#[]⟩ : ByteArray), .int .i64 0]) ?_ 1 _ rfl; (with_reducible repeat (first | refine blk_drewN ?_ _ | refine blk_drew ?_ | refine blk_alloc ?_ _)); refine blk_put (cs := #[.int .i64 0, .string (⟨#[]⟩ : ByteArray), .int .i64 0]) ?_ 0 _ rfl; (with_reducible repeat (first | refine blk_drewN ?_ _ | refine blk_drew ?_ | refine blk_alloc ?_ _)); exact BK119.out) hb); have n1_ := Aside0.mk (below_step (by repeat (first | (with_reducible first | exact HB.out | apply below_alloc | apply pw_below_drewN | apply below_drew1 | refine below_set ?_ GE119.out) | exact HB.out)) hb); clear BK119; clear HB; have BK119 := n0_; have HB := n1_; clear n0_ n1_; (try clear hb); (try clear hb2); (try clear hk); (try clear hi)))
              go_ret
              exact ⟨by first | rfl | (simp [errW_none, errW_some] <;> rfl) | (simp [*, errW_none, errW_some] <;> rfl), by repeat (first | (with_reducible first | exact HB.out | apply below_alloc | apply pw_below_drewN | apply below_drew1 | refine below_set ?_ GE119.out) | exact HB.out)⟩
            · rw [if_neg c6] at H
              have c6b0 : (t120 == 0) = false := beq_eq_false_iff_ne.mpr c6
              have c6b1 : (t120 != 0) = true := bne_iff_ne.mpr c6
              by_cases c10 : t120 = x3_1
              · rw [if_pos c10] at H
                have c10b0 : (t120 == x3_1) = true := beq_iff_eq.mpr c10
                have c10b1 : (t120 != x3_1) = false := bne_eq_false_iff_eq.mpr c10
                clear c10
                obtain rfl := Option.some.inj H
                have p118 : 0 ≤ (x9_1 : Int) := of_decide_eq_true (by first | (with_reducible assumption) | assumption)
                have q118 : x9_1 < (l0.length : Int) := of_decide_eq_true (by first | (with_reducible assumption) | assumption)
                obtain ⟨ad118, e118, hx118_0, hx118_1, hx118_2⟩ := at_T43 HR0.out x9_1 p118 q118
                cases e118
                replace hx118_0 := (HB.out.cell (World.block_lt_of_cell? w _ hx118_0)).trans hx118_0
                replace hx118_1 := (HB.out.cell (World.block_lt_of_cell? w _ hx118_1)).trans hx118_1
                replace hx118_2 := (HB.out.cell (World.block_lt_of_cell? w _ hx118_2)).trans hx118_2
                replace p118 := eq_true p118
                replace q118 := eq_true q118
                go_wp2_with (first | ((with_reducible refine gate_dst (N := 5) rfl ?_); refine box_event ?hg (N := 5) ?hd (cs := #[.int .i64 0, .string (⟨#[]⟩ : ByteArray), .int .i64 0]) (t := 43) ?hr ?_; (case hd => rfl); (case hg => rfl); (case hr => first | (go_simp; done) | (go_simp; rfl)); intro gb119 hg w11 hbox hb; have n0_ := Aside0.mk (below_step (by repeat (first | (with_reducible first | exact HB.out | apply below_alloc | apply pw_below_drewN | apply below_drew1) | exact HB.out)) hb); have n1_ := Aside0.mk (hbox); have n2_ := Aside0.mk ((by rw [hg]; exact (below_size (by repeat (first | (with_reducible first | exact HB.out | apply below_alloc | apply pw_below_drewN | apply below_drew1) | exact HB.out))) : w.heap.size ≤ gb119)); have n3_ := Aside0.mk ((by rw [hg]; exact (below_size (by repeat (first | (with_reducible first | exact HB.out | apply below_alloc | apply pw_below_drewN | apply below_drew1) | exact HB.out))) : w.heap.size ≤ gb119)); clear HB; have HB := n0_; have BK119 := n1_; have GW119 := n2_; have GE119 := n3_; clear n0_ n1_ n2_ n3_; clear hb hbox hg; have hcz12_0 : w11.cell? ⟨gb119, 0, none⟩ = some (.int .i64 0) := (blk_cell BK119.out 0).trans rfl; have hcz12_1 : w11.cell? ⟨gb119, 1, none⟩ = some (.string (⟨#[]⟩ : ByteArray)) := (blk_cell BK119.out 1).trans rfl; have hcz12_2 : w11.cell? ⟨gb119, 2, none⟩ = some (.int .i64 0) := (blk_cell BK119.out 2).trans rfl; have hfz12_0 := blk_frozen BK119.out 0; have hfz12_1 := blk_frozen BK119.out 1; have hfz12_2 := blk_frozen BK119.out 2) | ((with_reducible refine gate_callee (f := 42) rfl ?_); refine goesL_ (some 14) rfl rfl Try.func42 (by kernel_rfl) rfl #[.agg #[.int .i64 ((rd_T43 l0 x9_1).f0), .string ((rd_T43 l0 x9_1).f1), .int .i64 ((rd_T43 l0 x9_1).f2)]] rfl (by (try simp only [List.map_toArray, List.map_cons, List.map_nil]); first | done | rfl | (simp only [List.length_drop, List.length_take]; rfl)) ?_; (with_reducible refine (edit_kind.calls ((rd_T43 l0 x9_1).f0) ((rd_T43 l0 x9_1).f1) ((rd_T43 l0 x9_1).f2) t120 _ A5.out).mono ?_); rintro e w13 ⟨rfl, hb⟩; refine ⟨_, rfl, ?_⟩; have n0_ := Aside0.mk (blk_below (g := gb119) (o := .cells #[.int .i64 ((rd_T43 l0 x9_1).f0), .string ((rd_T43 l0 x9_1).f1), .int .i64 ((rd_T43 l0 x9_1).f2)] 43 (0, 0)) (by (with_reducible repeat (first | refine blk_drewN ?_ _ | refine blk_drew ?_ | refine blk_alloc ?_ _)); refine blk_put (cs := #[.int .i64 ((rd_T43 l0 x9_1).f0), .string ((rd_T43 l0 x9_1).f1), .int .i64 0]) ?_ 2 _ rfl; (with_reducible repeat (first | refine blk_drewN ?_ _ | refine blk_drew ?_ | refine blk_alloc ?_ _)); refine blk_put (cs := #[.int .i64 ((rd_T43 l0 x9_1).f0), .string (⟨#[]⟩ : ByteArray), .int .i64 0]) ?_ 1 _ rfl; (with_reducible repeat (first | refine blk_drewN ?_ _ | refine blk_drew ?_ | refine blk_alloc ?_ _)); refine blk_put (cs := #[.int .i64 0, .string (⟨#[]⟩ : ByteArray), .int .i64 0]) ?_ 0 _ rfl; (with_reducible repeat (first | refine blk_drewN ?_ _ | refine blk_drew ?_ | refine blk_alloc ?_ _)); exact BK119.out) hb); have n1_ := Aside0.mk (below_step (by repeat (first | (with_reducible first | exact HB.out | apply below_alloc | apply pw_below_drewN | apply below_drew1 | refine below_set ?_ GE119.out) | exact HB.out)) hb); clear BK119; clear HB; have BK119 := n0_; have HB := n1_; clear n0_ n1_; (try clear hb); (try clear hb2); (try clear hk); (try clear hi)))
                go_ret
                exact ⟨by first | rfl | (simp [errW_none, errW_some] <;> rfl) | (simp [*, errW_none, errW_some] <;> rfl), by repeat (first | (with_reducible first | exact HB.out | apply below_alloc | apply pw_below_drewN | apply below_drew1 | refine below_set ?_ GE119.out) | exact HB.out)⟩
              · rw [if_neg c10] at H
                have c10b0 : (t120 == x3_1) = false := beq_eq_false_iff_ne.mpr c10
                have c10b1 : (t120 != x3_1) = true := bne_iff_ne.mpr c10
                by_cases c14 : x3_1 = 3
                · rw [if_pos c14] at H
                  have c14b0 : (x3_1 == 3) = true := beq_iff_eq.mpr c14
                  have c14b1 : (x3_1 != 3) = false := bne_eq_false_iff_eq.mpr c14
                  clear c14
                  by_cases c15 : t120 = 2
                  · rw [if_pos c15] at H
                    have c15b0 : (t120 == 2) = true := beq_iff_eq.mpr c15
                    have c15b1 : (t120 != 2) = false := bne_eq_false_iff_eq.mpr c15
                    clear c15
                    obtain rfl := Option.some.inj H
                    have p118 : 0 ≤ (x9_1 : Int) := of_decide_eq_true (by first | (with_reducible assumption) | assumption)
                    have q118 : x9_1 < (l0.length : Int) := of_decide_eq_true (by first | (with_reducible assumption) | assumption)
                    obtain ⟨ad118, e118, hx118_0, hx118_1, hx118_2⟩ := at_T43 HR0.out x9_1 p118 q118
                    cases e118
                    replace hx118_0 := (HB.out.cell (World.block_lt_of_cell? w _ hx118_0)).trans hx118_0
                    replace hx118_1 := (HB.out.cell (World.block_lt_of_cell? w _ hx118_1)).trans hx118_1
                    replace hx118_2 := (HB.out.cell (World.block_lt_of_cell? w _ hx118_2)).trans hx118_2
                    replace p118 := eq_true p118
                    replace q118 := eq_true q118
                    go_wp2_with (first | ((with_reducible refine gate_dst (N := 5) rfl ?_); refine box_event ?hg (N := 5) ?hd (cs := #[.int .i64 0, .string (⟨#[]⟩ : ByteArray), .int .i64 0]) (t := 43) ?hr ?_; (case hd => rfl); (case hg => rfl); (case hr => first | (go_simp; done) | (go_simp; rfl)); intro gb119 hg w16 hbox hb; have n0_ := Aside0.mk (below_step (by repeat (first | (with_reducible first | exact HB.out | apply below_alloc | apply pw_below_drewN | apply below_drew1) | exact HB.out)) hb); have n1_ := Aside0.mk (hbox); have n2_ := Aside0.mk ((by rw [hg]; exact (below_size (by repeat (first | (with_reducible first | exact HB.out | apply below_alloc | apply pw_below_drewN | apply below_drew1) | exact HB.out))) : w.heap.size ≤ gb119)); have n3_ := Aside0.mk ((by rw [hg]; exact (below_size (by repeat (first | (with_reducible first | exact HB.out | apply below_alloc | apply pw_below_drewN | apply below_drew1) | exact HB.out))) : w.heap.size ≤ gb119)); clear HB; have HB := n0_; have BK119 := n1_; have GW119 := n2_; have GE119 := n3_; clear n0_ n1_ n2_ n3_; clear hb hbox hg; have hcz17_0 : w16.cell? ⟨gb119, 0, none⟩ = some (.int .i64 0) := (blk_cell BK119.out 0).trans rfl; have hcz17_1 : w16.cell? ⟨gb119, 1, none⟩ = some (.string (⟨#[]⟩ : ByteArray)) := (blk_cell BK119.out 1).trans rfl; have hcz17_2 : w16.cell? ⟨gb119, 2, none⟩ = some (.int .i64 0) := (blk_cell BK119.out 2).trans rfl; have hfz17_0 := blk_frozen BK119.out 0; have hfz17_1 := blk_frozen BK119.out 1; have hfz17_2 := blk_frozen BK119.out 2) | ((with_reducible refine gate_callee (f := 42) rfl ?_); refine goesL_ (some 14) rfl rfl Try.func42 (by kernel_rfl) rfl #[.agg #[.int .i64 ((rd_T43 l0 x9_1).f0), .string ((rd_T43 l0 x9_1).f1), .int .i64 ((rd_T43 l0 x9_1).f2)]] rfl (by (try simp only [List.map_toArray, List.map_cons, List.map_nil]); first | done | rfl | (simp only [List.length_drop, List.length_take]; rfl)) ?_; (with_reducible refine (edit_kind.calls ((rd_T43 l0 x9_1).f0) ((rd_T43 l0 x9_1).f1) ((rd_T43 l0 x9_1).f2) t120 _ A5.out).mono ?_); rintro e w18 ⟨rfl, hb⟩; refine ⟨_, rfl, ?_⟩; have n0_ := Aside0.mk (blk_below (g := gb119) (o := .cells #[.int .i64 ((rd_T43 l0 x9_1).f0), .string ((rd_T43 l0 x9_1).f1), .int .i64 ((rd_T43 l0 x9_1).f2)] 43 (0, 0)) (by (with_reducible repeat (first | refine blk_drewN ?_ _ | refine blk_drew ?_ | refine blk_alloc ?_ _)); refine blk_put (cs := #[.int .i64 ((rd_T43 l0 x9_1).f0), .string ((rd_T43 l0 x9_1).f1), .int .i64 0]) ?_ 2 _ rfl; (with_reducible repeat (first | refine blk_drewN ?_ _ | refine blk_drew ?_ | refine blk_alloc ?_ _)); refine blk_put (cs := #[.int .i64 ((rd_T43 l0 x9_1).f0), .string (⟨#[]⟩ : ByteArray), .int .i64 0]) ?_ 1 _ rfl; (with_reducible repeat (first | refine blk_drewN ?_ _ | refine blk_drew ?_ | refine blk_alloc ?_ _)); refine blk_put (cs := #[.int .i64 0, .string (⟨#[]⟩ : ByteArray), .int .i64 0]) ?_ 0 _ rfl; (with_reducible repeat (first | refine blk_drewN ?_ _ | refine blk_drew ?_ | refine blk_alloc ?_ _)); exact BK119.out) hb); have n1_ := Aside0.mk (below_step (by repeat (first | (with_reducible first | exact HB.out | apply below_alloc | apply pw_below_drewN | apply below_drew1 | refine below_set ?_ GE119.out) | exact HB.out)) hb); clear BK119; clear HB; have BK119 := n0_; have HB := n1_; clear n0_ n1_; (try clear hb); (try clear hb2); (try clear hk); (try clear hi)))
                    go_ret
                    exact ⟨by first | rfl | (simp [errW_none, errW_some] <;> rfl) | (simp [*, errW_none, errW_some] <;> rfl), by repeat (first | (with_reducible first | exact HB.out | apply below_alloc | apply pw_below_drewN | apply below_drew1 | refine below_set ?_ GE119.out) | exact HB.out)⟩
                  · rw [if_neg c15] at H
                    have c15b0 : (t120 == 2) = false := beq_eq_false_iff_ne.mpr c15
                    have c15b1 : (t120 != 2) = true := bne_iff_ne.mpr c15
                    have H' := Aside0.mk H
                    clear H
                    have p118 : 0 ≤ (x9_1 : Int) := of_decide_eq_true (by first | (with_reducible assumption) | assumption)
                    have q118 : x9_1 < (l0.length : Int) := of_decide_eq_true (by first | (with_reducible assumption) | assumption)
                    obtain ⟨ad118, e118, hx118_0, hx118_1, hx118_2⟩ := at_T43 HR0.out x9_1 p118 q118
                    cases e118
                    replace hx118_0 := (HB.out.cell (World.block_lt_of_cell? w _ hx118_0)).trans hx118_0
                    replace hx118_1 := (HB.out.cell (World.block_lt_of_cell? w _ hx118_1)).trans hx118_1
                    replace hx118_2 := (HB.out.cell (World.block_lt_of_cell? w _ hx118_2)).trans hx118_2
                    replace p118 := eq_true p118
                    replace q118 := eq_true q118
                    go_wp2_with (first | ((with_reducible refine gate_dst (N := 5) rfl ?_); refine box_event ?hg (N := 5) ?hd (cs := #[.int .i64 0, .string (⟨#[]⟩ : ByteArray), .int .i64 0]) (t := 43) ?hr ?_; (case hd => rfl); (case hg => rfl); (case hr => first | (go_simp; done) | (go_simp; rfl)); intro gb119 hg w19 hbox hb; have n0_ := Aside0.mk (below_step (by repeat (first | (with_reducible first | exact HB.out | apply below_alloc | apply pw_below_drewN | apply below_drew1) | exact HB.out)) hb); have n1_ := Aside0.mk (hbox); have n2_ := Aside0.mk ((by rw [hg]; exact (below_size (by repeat (first | (with_reducible first | exact HB.out | apply below_alloc | apply pw_below_drewN | apply below_drew1) | exact HB.out))) : w.heap.size ≤ gb119)); have n3_ := Aside0.mk ((by rw [hg]; exact (below_size (by repeat (first | (with_reducible first | exact HB.out | apply below_alloc | apply pw_below_drewN | apply below_drew1) | exact HB.out))) : w.heap.size ≤ gb119)); clear HB; have HB := n0_; have BK119 := n1_; have GW119 := n2_; have GE119 := n3_; clear n0_ n1_ n2_ n3_; clear hb hbox hg; have hcz20_0 : w19.cell? ⟨gb119, 0, none⟩ = some (.int .i64 0) := (blk_cell BK119.out 0).trans rfl; have hcz20_1 : w19.cell? ⟨gb119, 1, none⟩ = some (.string (⟨#[]⟩ : ByteArray)) := (blk_cell BK119.out 1).trans rfl; have hcz20_2 : w19.cell? ⟨gb119, 2, none⟩ = some (.int .i64 0) := (blk_cell BK119.out 2).trans rfl; have hfz20_0 := blk_frozen BK119.out 0; have hfz20_1 := blk_frozen BK119.out 1; have hfz20_2 := blk_frozen BK119.out 2) | ((with_reducible refine gate_callee (f := 42) rfl ?_); refine goesL_ (some 14) rfl rfl Try.func42 (by kernel_rfl) rfl #[.agg #[.int .i64 ((rd_T43 l0 x9_1).f0), .string ((rd_T43 l0 x9_1).f1), .int .i64 ((rd_T43 l0 x9_1).f2)]] rfl (by (try simp only [List.map_toArray, List.map_cons, List.map_nil]); first | done | rfl | (simp only [List.length_drop, List.length_take]; rfl)) ?_; (with_reducible refine (edit_kind.calls ((rd_T43 l0 x9_1).f0) ((rd_T43 l0 x9_1).f1) ((rd_T43 l0 x9_1).f2) t120 _ A5.out).mono ?_); rintro e w21 ⟨rfl, hb⟩; refine ⟨_, rfl, ?_⟩; have n0_ := Aside0.mk (blk_below (g := gb119) (o := .cells #[.int .i64 ((rd_T43 l0 x9_1).f0), .string ((rd_T43 l0 x9_1).f1), .int .i64 ((rd_T43 l0 x9_1).f2)] 43 (0, 0)) (by (with_reducible repeat (first | refine blk_drewN ?_ _ | refine blk_drew ?_ | refine blk_alloc ?_ _)); refine blk_put (cs := #[.int .i64 ((rd_T43 l0 x9_1).f0), .string ((rd_T43 l0 x9_1).f1), .int .i64 0]) ?_ 2 _ rfl; (with_reducible repeat (first | refine blk_drewN ?_ _ | refine blk_drew ?_ | refine blk_alloc ?_ _)); refine blk_put (cs := #[.int .i64 ((rd_T43 l0 x9_1).f0), .string (⟨#[]⟩ : ByteArray), .int .i64 0]) ?_ 1 _ rfl; (with_reducible repeat (first | refine blk_drewN ?_ _ | refine blk_drew ?_ | refine blk_alloc ?_ _)); refine blk_put (cs := #[.int .i64 0, .string (⟨#[]⟩ : ByteArray), .int .i64 0]) ?_ 0 _ rfl; (with_reducible repeat (first | refine blk_drewN ?_ _ | refine blk_drew ?_ | refine blk_alloc ?_ _)); exact BK119.out) hb); have n1_ := Aside0.mk (below_step (by repeat (first | (with_reducible first | exact HB.out | apply below_alloc | apply pw_below_drewN | apply below_drew1 | refine below_set ?_ GE119.out) | exact HB.out)) hb); clear BK119; clear HB; have BK119 := n0_; have HB := n1_; clear n0_ n1_; (try clear hb); (try clear hb2); (try clear hk); (try clear hi)))
                    go_roundg k1
                    case measure => have := HK1.out; omega
                    case rel => exact ⟨(t120), (wrap64 (x9_1 + 1)), (by first | rfl | (simp; done) | (simp [*]; done)), (by first | rfl | (simp; done) | (simp [*]; done)), H', ⟨by have := HK1.out; omega⟩, ⟨by repeat (first | (with_reducible first | exact HB.out | apply below_alloc | apply pw_below_drewN | apply below_drew1 | refine below_set ?_ GE119.out) | exact HB.out)⟩⟩
                · rw [if_neg c14] at H
                  have c14b0 : (x3_1 == 3) = false := beq_eq_false_iff_ne.mpr c14
                  have c14b1 : (x3_1 != 3) = true := bne_iff_ne.mpr c14
                  have H' := Aside0.mk H
                  clear H
                  have p118 : 0 ≤ (x9_1 : Int) := of_decide_eq_true (by first | (with_reducible assumption) | assumption)
                  have q118 : x9_1 < (l0.length : Int) := of_decide_eq_true (by first | (with_reducible assumption) | assumption)
                  obtain ⟨ad118, e118, hx118_0, hx118_1, hx118_2⟩ := at_T43 HR0.out x9_1 p118 q118
                  cases e118
                  replace hx118_0 := (HB.out.cell (World.block_lt_of_cell? w _ hx118_0)).trans hx118_0
                  replace hx118_1 := (HB.out.cell (World.block_lt_of_cell? w _ hx118_1)).trans hx118_1
                  replace hx118_2 := (HB.out.cell (World.block_lt_of_cell? w _ hx118_2)).trans hx118_2
                  replace p118 := eq_true p118
                  replace q118 := eq_true q118
                  go_wp2_with (first | ((with_reducible refine gate_dst (N := 5) rfl ?_); refine box_event ?hg (N := 5) ?hd (cs := #[.int .i64 0, .string (⟨#[]⟩ : ByteArray), .int .i64 0]) (t := 43) ?hr ?_; (case hd => rfl); (case hg => rfl); (case hr => first | (go_simp; done) | (go_simp; rfl)); intro gb119 hg w22 hbox hb; have n0_ := Aside0.mk (below_step (by repeat (first | (with_reducible first | exact HB.out | apply below_alloc | apply pw_below_drewN | apply below_drew1) | exact HB.out)) hb); have n1_ := Aside0.mk (hbox); have n2_ := Aside0.mk ((by rw [hg]; exact (below_size (by repeat (first | (with_reducible first | exact HB.out | apply below_alloc | apply pw_below_drewN | apply below_drew1) | exact HB.out))) : w.heap.size ≤ gb119)); have n3_ := Aside0.mk ((by rw [hg]; exact (below_size (by repeat (first | (with_reducible first | exact HB.out | apply below_alloc | apply pw_below_drewN | apply below_drew1) | exact HB.out))) : w.heap.size ≤ gb119)); clear HB; have HB := n0_; have BK119 := n1_; have GW119 := n2_; have GE119 := n3_; clear n0_ n1_ n2_ n3_; clear hb hbox hg; have hcz23_0 : w22.cell? ⟨gb119, 0, none⟩ = some (.int .i64 0) := (blk_cell BK119.out 0).trans rfl; have hcz23_1 : w22.cell? ⟨gb119, 1, none⟩ = some (.string (⟨#[]⟩ : ByteArray)) := (blk_cell BK119.out 1).trans rfl; have hcz23_2 : w22.cell? ⟨gb119, 2, none⟩ = some (.int .i64 0) := (blk_cell BK119.out 2).trans rfl; have hfz23_0 := blk_frozen BK119.out 0; have hfz23_1 := blk_frozen BK119.out 1; have hfz23_2 := blk_frozen BK119.out 2) | ((with_reducible refine gate_callee (f := 42) rfl ?_); refine goesL_ (some 14) rfl rfl Try.func42 (by kernel_rfl) rfl #[.agg #[.int .i64 ((rd_T43 l0 x9_1).f0), .string ((rd_T43 l0 x9_1).f1), .int .i64 ((rd_T43 l0 x9_1).f2)]] rfl (by (try simp only [List.map_toArray, List.map_cons, List.map_nil]); first | done | rfl | (simp only [List.length_drop, List.length_take]; rfl)) ?_; (with_reducible refine (edit_kind.calls ((rd_T43 l0 x9_1).f0) ((rd_T43 l0 x9_1).f1) ((rd_T43 l0 x9_1).f2) t120 _ A5.out).mono ?_); rintro e w24 ⟨rfl, hb⟩; refine ⟨_, rfl, ?_⟩; have n0_ := Aside0.mk (blk_below (g := gb119) (o := .cells #[.int .i64 ((rd_T43 l0 x9_1).f0), .string ((rd_T43 l0 x9_1).f1), .int .i64 ((rd_T43 l0 x9_1).f2)] 43 (0, 0)) (by (with_reducible repeat (first | refine blk_drewN ?_ _ | refine blk_drew ?_ | refine blk_alloc ?_ _)); refine blk_put (cs := #[.int .i64 ((rd_T43 l0 x9_1).f0), .string ((rd_T43 l0 x9_1).f1), .int .i64 0]) ?_ 2 _ rfl; (with_reducible repeat (first | refine blk_drewN ?_ _ | refine blk_drew ?_ | refine blk_alloc ?_ _)); refine blk_put (cs := #[.int .i64 ((rd_T43 l0 x9_1).f0), .string (⟨#[]⟩ : ByteArray), .int .i64 0]) ?_ 1 _ rfl; (with_reducible repeat (first | refine blk_drewN ?_ _ | refine blk_drew ?_ | refine blk_alloc ?_ _)); refine blk_put (cs := #[.int .i64 0, .string (⟨#[]⟩ : ByteArray), .int .i64 0]) ?_ 0 _ rfl; (with_reducible repeat (first | refine blk_drewN ?_ _ | refine blk_drew ?_ | refine blk_alloc ?_ _)); exact BK119.out) hb); have n1_ := Aside0.mk (below_step (by repeat (first | (with_reducible first | exact HB.out | apply below_alloc | apply pw_below_drewN | apply below_drew1 | refine below_set ?_ GE119.out) | exact HB.out)) hb); clear BK119; clear HB; have BK119 := n0_; have HB := n1_; clear n0_ n1_; (try clear hb); (try clear hb2); (try clear hk); (try clear hi)))
                  go_roundg k1
                  case measure => have := HK1.out; omega
                  case rel => exact ⟨(t120), (wrap64 (x9_1 + 1)), (by first | rfl | (simp; done) | (simp [*]; done)), (by first | rfl | (simp; done) | (simp [*]; done)), H', ⟨by have := HK1.out; omega⟩, ⟨by repeat (first | (with_reducible first | exact HB.out | apply below_alloc | apply pw_below_drewN | apply below_drew1 | refine below_set ?_ GE119.out) | exact HB.out)⟩⟩
          · rw [if_neg c4] at H
            exact absurd H (by simp)
        · rw [if_neg c3] at H
          exact absurd H (by simp)
      · rw [if_neg c2] at H
        have c2b0 : decide (x9_1 < (l0.length : Int)) = false := decide_eq_false c2
        clear c2
        obtain rfl := Option.some.inj H
        go_wp2
        go_ret
        exact ⟨by first | rfl | (simp [errW_none, errW_some] <;> rfl) | (simp [*, errW_none, errW_some] <;> rfl), by repeat (first | (with_reducible first | exact HB.out | apply below_alloc | apply pw_below_drewN | apply below_drew1) | exact HB.out)⟩

end Go.Proofs.Ytbfdplmgefcogaa.P
end
-- MERGED YtbfdplmgefcogaaPeditsums
section
-- Written by wip/myprint.py of this session, over the kit's print.py: a Lean function for each Go function, and the proof that the code comes to it.
namespace Go.Proofs.Ytbfdplmgefcogaa.P
open Go.RowKit Go.Proofs.YtbfdplmgefcogaaW.PrintWords Go.Proofs.YtbfdplmgefcogaaW.PrintLast Go.Proofs.YtbfdplmgefcogaaW.PrintMore
attribute [local go_sem] max2_int min2_int max_two min_two max_three min_three max_four min_four   -- for this text's walks alone
set_option linter.unusedVariables false
set_option linter.unusedSimpArgs false

/-! ### edit_sums: function 34 -/
def edit_sums.l0 : Nat → Int → Int → List (S43) → Int → Int → Option (Int × Int × Bool)
  | 0, _, _, _, _, _ => none
  | k + 1, x2, x3, x7, x8, x9 => if x9 < x8 then (if 0 ≤ x9 then (if x9 < (x7.length : Int) then (if (mx ((rd_T43 x7 x9).f0) ((rd_T43 x7 x9).f2)) > (wrap64 (16777216 - x2)) then (some (0, 0, false)) else (if (mx ((rd_T43 x7 x9).f0) (((rd_T43 x7 x9).f1).size : Int)) > (wrap64 (16777216 - x3)) then (some (0, 0, false)) else (edit_sums.l0 k (wrap64 (x2 + (wrap64 (((rd_T43 x7 x9).f0) + ((rd_T43 x7 x9).f2))))) (wrap64 (x3 + (wrap64 (((rd_T43 x7 x9).f0) + (((rd_T43 x7 x9).f1).size : Int))))) x7 x8 (wrap64 (x9 + 1))))) else (none)) else (none)) else (some (x2, x3, true))
def edit_sums.f (k : Nat) (l0 : List (S43)) : Option (Int × Int × Bool) := edit_sums.l0 k 0 0 l0 (l0.length : Int) 0
theorem edit_sums.mono_l : ∀ k, (∀ y0 y1 y2 y3 y4, LeO (edit_sums.l0 k y0 y1 y2 y3 y4) (edit_sums.l0 (k + 1) y0 y1 y2 y3 y4))
  | 0 => fun _ _ _ _ _ r h => by simp [edit_sums.l0] at h
  | k + 1 => by
    have ih0 := edit_sums.mono_l k
    · intro y0 y1 y2 y3 y4
      unfold edit_sums.l0
      repeat' first
      | (with_reducible exact ih0 _ _ _ _ _)
      | (with_reducible exact LeO.refl _)
      | (with_reducible exact LeO.none _)
      | (with_reducible refine LeO.ite ?_ ?_)
      | (with_reducible refine LeO.bind ?_ (fun _ => ?_))
      | exact ih0 _ _ _ _ _
      | exact LeO.none _
      | refine LeO.ite ?_ ?_
      | refine LeO.bind ?_ (fun _ => ?_)
theorem edit_sums.mono : ∀ a0 k, LeO (edit_sums.f k a0) (edit_sums.f (k + 1) a0) := by
  intro a0 k
  have ih0 := edit_sums.mono_l k
  unfold edit_sums.f
  repeat' first
      | (with_reducible exact ih0 _ _ _ _ _)
      | (with_reducible exact LeO.refl _)
      | (with_reducible exact LeO.none _)
      | (with_reducible refine LeO.ite ?_ ?_)
      | (with_reducible refine LeO.bind ?_ (fun _ => ?_))
      | exact ih0 _ _ _ _ _
      | exact LeO.none _
      | refine LeO.ite ?_ ?_
      | refine LeO.bind ?_ (fun _ => ?_)
set_option maxHeartbeats 8000000 in
set_option maxRecDepth 100000 in
theorem edit_sums.calls (k : Nat) (A0 : Option Addr) (c0 : Nat) (l0 : List (S43)) (r1 : Int) (r2 : Int) (r3 : Bool) (w : World) (hr0 : Kd.C k43 w A0 l0.length l0) (hc0 : l0.length ≤ c0) (h : edit_sums.f k l0 = some (r1, r2, r3)) :
    Calls Try.prog 34 #[.slice A0 l0.length c0] w fun e w' => e = .returned (.tuple #[.int .i64 r1, .int .i64 r2, .bool r3]) ∧ Below w.heap.size w w' := by
  have hu43 := Try.underlying43
  have HR0 := Aside0.mk hr0
  have HC0 := Aside0.mk hc0
  clear hr0 hc0
  have HB := Aside0.mk (Below.refl w.heap.size w)
  have H : (edit_sums.l0 k 0 0 l0 (l0.length : Int) 0) = some (r1, r2, r3) := h
  clear h
  have H' := Aside0.mk H
  clear H
  go_enter Try.func34, Try.ntmps34
  go_wp2
  go_loopg [2, 3, 9] k (fun kq v2 v3 v9 w' => ∃ (x2_1 : Int) (x3_1 : Int) (x9_1 : Int), v2 = .int .i64 x2_1 ∧ v3 = .int .i64 x3_1 ∧ v9 = .int .i64 x9_1 ∧ Aside0 (edit_sums.l0 kq x2_1 x3_1 l0 (l0.length : Int) x9_1 = some (r1, r2, r3)) ∧ Aside0 (kq ≤ k) ∧ Aside0 (Below w.heap.size w w'))
  case atStart => exact ⟨(0), (0), (0), (by first | rfl | (simp; done) | (simp [*]; done)), (by first | rfl | (simp; done) | (simp [*]; done)), (by first | rfl | (simp; done) | (simp [*]; done)), H', ⟨Nat.le_refl _⟩, ⟨by repeat (first | (with_reducible first | exact HB.out | apply below_alloc | apply pw_below_drewN | apply below_drew1) | exact HB.out)⟩⟩
  case round =>
    clear H'
    obtain ⟨x2_1, x3_1, x9_1, rfl, rfl, rfl, HA, HK1, HB⟩ := hrel
    cases gk with
    | zero => exact absurd HA.out (by simp [edit_sums.l0])
    | succ k1 =>
      have H := HA.out
      clear HA
      simp only [edit_sums.l0] at H
      by_cases c2 : x9_1 < (l0.length : Int)
      · rw [if_pos c2] at H
        have c2b0 : decide (x9_1 < (l0.length : Int)) = true := decide_eq_true c2
        clear c2
        by_cases c3 : 0 ≤ x9_1
        · rw [if_pos c3] at H
          have c3b0 : decide (0 ≤ x9_1) = true := decide_eq_true c3
          clear c3
          by_cases c4 : x9_1 < (l0.length : Int)
          · rw [if_pos c4] at H
            have c4b0 : decide (x9_1 < (l0.length : Int)) = true := decide_eq_true c4
            clear c4
            obtain ⟨ji5, hji5⟩ : ∃ j_ : Int, (mx ((rd_T43 l0 x9_1).f0) ((rd_T43 l0 x9_1).f2)) = j_ := ⟨_, rfl⟩
            replace H : (if (ji5) > (wrap64 (16777216 - x2_1)) then (some (0, 0, false)) else (if (mx ((rd_T43 l0 x9_1).f0) (((rd_T43 l0 x9_1).f1).size : Int)) > (wrap64 (16777216 - x3_1)) then (some (0, 0, false)) else (edit_sums.l0 k1 (wrap64 (x2_1 + (wrap64 (((rd_T43 l0 x9_1).f0) + ((rd_T43 l0 x9_1).f2))))) (wrap64 (x3_1 + (wrap64 (((rd_T43 l0 x9_1).f0) + (((rd_T43 l0 x9_1).f1).size : Int))))) l0 (l0.length : Int) (wrap64 (x9_1 + 1))))) = some (r1, r2, r3) := by first | (rw [hji5] at H; exact H) | (simp only [hji5] at H ⊢; exact H)
            have hji5_ : (if ((rd_T43 l0 x9_1).f0) < ((rd_T43 l0 x9_1).f2) then ((rd_T43 l0 x9_1).f2) else ((rd_T43 l0 x9_1).f0)) = ji5 := hji5
            (try simp only [Int.ofNat_lt] at hji5_)
            by_cases c6 : (ji5) > (wrap64 (16777216 - x2_1))
            · rw [if_pos c6] at H
              have c6b0 : decide ((wrap64 (16777216 - x2_1)) < (ji5)) = true := decide_eq_true c6
              clear c6
              simp only [Option.some.injEq, Prod.mk.injEq] at H
              obtain ⟨rfl, rfl, rfl⟩ := H
              have p121 : 0 ≤ (x9_1 : Int) := of_decide_eq_true (by first | (with_reducible assumption) | assumption)
              have q121 : x9_1 < (l0.length : Int) := of_decide_eq_true (by first | (with_reducible assumption) | assumption)
              obtain ⟨ad121, e121, hx121_0, hx121_1, hx121_2⟩ := at_T43 HR0.out x9_1 p121 q121
              cases e121
              replace hx121_0 := (HB.out.cell (World.block_lt_of_cell? w _ hx121_0)).trans hx121_0
              replace hx121_1 := (HB.out.cell (World.block_lt_of_cell? w _ hx121_1)).trans hx121_1
              replace hx121_2 := (HB.out.cell (World.block_lt_of_cell? w _ hx121_2)).trans hx121_2
              replace p121 := eq_true p121
              replace q121 := eq_true q121
              go_wp2_with (first | ((with_reducible refine gate_dst (N := 6) rfl ?_); (try (refine gate_guard (by rfl) ?_; dsimp only)); refine box_event ?hg (N := 6) ?hd (cs := #[.int .i64 0, .string (⟨#[]⟩ : ByteArray), .int .i64 0]) (t := 43) ?hr ?_; (case hd => rfl); (case hg => rfl); (case hr => first | (go_simp; done) | (go_simp; rfl)); intro gb122 hg w7 hbox hb; have n0_ := Aside0.mk (below_step (by repeat (first | (with_reducible first | exact HB.out | apply below_alloc | apply pw_below_drewN | apply below_drew1) | exact HB.out)) hb); have n1_ := Aside0.mk (hbox); have n2_ := Aside0.mk ((by rw [hg]; exact (below_size (by repeat (first | (with_reducible first | exact HB.out | apply below_alloc | apply pw_below_drewN | apply below_drew1) | exact HB.out))) : w.heap.size ≤ gb122)); have n3_ := Aside0.mk ((by rw [hg]; exact (below_size (by repeat (first | (with_reducible first | exact HB.out | apply below_alloc | apply pw_below_drewN | apply below_drew1) | exact HB.out))) : w.heap.size ≤ gb122)); clear HB; have HB := n0_; have BK122 := n1_; have GW122 := n2_; have GE122 := n3_; clear n0_ n1_ n2_ n3_; clear hb hbox hg; have hcz8_0 : w7.cell? ⟨gb122, 0, none⟩ = some (.int .i64 0) := (blk_cell BK122.out 0).trans rfl; have hcz8_1 : w7.cell? ⟨gb122, 1, none⟩ = some (.string (⟨#[]⟩ : ByteArray)) := (blk_cell BK122.out 1).trans rfl; have hcz8_2 : w7.cell? ⟨gb122, 2, none⟩ = some (.int .i64 0) := (blk_cell BK122.out 2).trans rfl; have hfz8_0 := blk_frozen BK122.out 0; have hfz8_1 := blk_frozen BK122.out 1; have hfz8_2 := blk_frozen BK122.out 2))
              go_ret3
              exact ⟨by first | rfl | (simp [errW_none, errW_some] <;> rfl) | (simp only [← hji5]; first | rfl | (simp [errW_none, errW_some] <;> rfl)) | (simp [*, errW_none, errW_some] <;> rfl), by repeat (first | (with_reducible first | exact HB.out | apply below_alloc | apply pw_below_drewN | apply below_drew1 | refine below_set ?_ GE122.out) | exact HB.out)⟩
            · rw [if_neg c6] at H
              have c6b0 : decide ((wrap64 (16777216 - x2_1)) < (ji5)) = false := decide_eq_false c6
              clear c6
              obtain ⟨ji9, hji9⟩ : ∃ j_ : Int, (mx ((rd_T43 l0 x9_1).f0) (((rd_T43 l0 x9_1).f1).size : Int)) = j_ := ⟨_, rfl⟩
              replace H : (if (ji9) > (wrap64 (16777216 - x3_1)) then (some (0, 0, false)) else (edit_sums.l0 k1 (wrap64 (x2_1 + (wrap64 (((rd_T43 l0 x9_1).f0) + ((rd_T43 l0 x9_1).f2))))) (wrap64 (x3_1 + (wrap64 (((rd_T43 l0 x9_1).f0) + (((rd_T43 l0 x9_1).f1).size : Int))))) l0 (l0.length : Int) (wrap64 (x9_1 + 1)))) = some (r1, r2, r3) := by first | (rw [hji9] at H; exact H) | (simp only [hji9] at H ⊢; exact H)
              have hji9_ : (if ((rd_T43 l0 x9_1).f0) < (((rd_T43 l0 x9_1).f1).size : Int) then (((rd_T43 l0 x9_1).f1).size : Int) else ((rd_T43 l0 x9_1).f0)) = ji9 := hji9
              (try simp only [Int.ofNat_lt] at hji9_)
              by_cases c10 : (ji9) > (wrap64 (16777216 - x3_1))
              · rw [if_pos c10] at H
                have c10b0 : decide ((wrap64 (16777216 - x3_1)) < (ji9)) = true := decide_eq_true c10
                clear c10
                simp only [Option.some.injEq, Prod.mk.injEq] at H
                obtain ⟨rfl, rfl, rfl⟩ := H
                have p121 : 0 ≤ (x9_1 : Int) := of_decide_eq_true (by first | (with_reducible assumption) | assumption)
                have q121 : x9_1 < (l0.length : Int) := of_decide_eq_true (by first | (with_reducible assumption) | assumption)
                obtain ⟨ad121, e121, hx121_0, hx121_1, hx121_2⟩ := at_T43 HR0.out x9_1 p121 q121
                cases e121
                replace hx121_0 := (HB.out.cell (World.block_lt_of_cell? w _ hx121_0)).trans hx121_0
                replace hx121_1 := (HB.out.cell (World.block_lt_of_cell? w _ hx121_1)).trans hx121_1
                replace hx121_2 := (HB.out.cell (World.block_lt_of_cell? w _ hx121_2)).trans hx121_2
                replace p121 := eq_true p121
                replace q121 := eq_true q121
                go_wp2_with (first | ((with_reducible refine gate_dst (N := 6) rfl ?_); (try (refine gate_guard (by rfl) ?_; dsimp only)); refine box_event ?hg (N := 6) ?hd (cs := #[.int .i64 0, .string (⟨#[]⟩ : ByteArray), .int .i64 0]) (t := 43) ?hr ?_; (case hd => rfl); (case hg => rfl); (case hr => first | (go_simp; done) | (go_simp; rfl)); intro gb122 hg w11 hbox hb; have n0_ := Aside0.mk (below_step (by repeat (first | (with_reducible first | exact HB.out | apply below_alloc | apply pw_below_drewN | apply below_drew1) | exact HB.out)) hb); have n1_ := Aside0.mk (hbox); have n2_ := Aside0.mk ((by rw [hg]; exact (below_size (by repeat (first | (with_reducible first | exact HB.out | apply below_alloc | apply pw_below_drewN | apply below_drew1) | exact HB.out))) : w.heap.size ≤ gb122)); have n3_ := Aside0.mk ((by rw [hg]; exact (below_size (by repeat (first | (with_reducible first | exact HB.out | apply below_alloc | apply pw_below_drewN | apply below_drew1) | exact HB.out))) : w.heap.size ≤ gb122)); clear HB; have HB := n0_; have BK122 := n1_; have GW122 := n2_; have GE122 := n3_; clear n0_ n1_ n2_ n3_; clear hb hbox hg; have hcz12_0 : w11.cell? ⟨gb122, 0, none⟩ = some (.int .i64 0) := (blk_cell BK122.out 0).trans rfl; have hcz12_1 : w11.cell? ⟨gb122, 1, none⟩ = some (.string (⟨#[]⟩ : ByteArray)) := (blk_cell BK122.out 1).trans rfl; have hcz12_2 : w11.cell? ⟨gb122, 2, none⟩ = some (.int .i64 0) := (blk_cell BK122.out 2).trans rfl; have hfz12_0 := blk_frozen BK122.out 0; have hfz12_1 := blk_frozen BK122.out 1; have hfz12_2 := blk_frozen BK122.out 2))
                go_ret3
                exact ⟨by first | rfl | (simp [errW_none, errW_some] <;> rfl) | (simp only [← hji5, ← hji9]; first | rfl | (simp [errW_none, errW_some] <;> rfl)) | (simp [*, errW_none, errW_some] <;> rfl), by repeat (first | (with_reducible first | exact HB.out | apply below_alloc | apply pw_below_drewN | apply below_drew1 | refine below_set ?_ GE122.out) | exact HB.out)⟩
              · rw [if_neg c10] at H
                have c10b0 : decide ((wrap64 (16777216 - x3_1)) < (ji9)) = false := decide_eq_false c10
                clear c10
                have H' := Aside0.mk H
                clear H
                have p121 : 0 ≤ (x9_1 : Int) := of_decide_eq_true (by first | (with_reducible assumption) | assumption)
                have q121 : x9_1 < (l0.length : Int) := of_decide_eq_true (by first | (with_reducible assumption) | assumption)
                obtain ⟨ad121, e121, hx121_0, hx121_1, hx121_2⟩ := at_T43 HR0.out x9_1 p121 q121
                cases e121
                replace hx121_0 := (HB.out.cell (World.block_lt_of_cell? w _ hx121_0)).trans hx121_0
                replace hx121_1 := (HB.out.cell (World.block_lt_of_cell? w _ hx121_1)).trans hx121_1
                replace hx121_2 := (HB.out.cell (World.block_lt_of_cell? w _ hx121_2)).trans hx121_2
                replace p121 := eq_true p121
                replace q121 := eq_true q121
                go_wp2_with (first | ((with_reducible refine gate_dst (N := 6) rfl ?_); (try (refine gate_guard (by rfl) ?_; dsimp only)); refine box_event ?hg (N := 6) ?hd (cs := #[.int .i64 0, .string (⟨#[]⟩ : ByteArray), .int .i64 0]) (t := 43) ?hr ?_; (case hd => rfl); (case hg => rfl); (case hr => first | (go_simp; done) | (go_simp; rfl)); intro gb122 hg w13 hbox hb; have n0_ := Aside0.mk (below_step (by repeat (first | (with_reducible first | exact HB.out | apply below_alloc | apply pw_below_drewN | apply below_drew1) | exact HB.out)) hb); have n1_ := Aside0.mk (hbox); have n2_ := Aside0.mk ((by rw [hg]; exact (below_size (by repeat (first | (with_reducible first | exact HB.out | apply below_alloc | apply pw_below_drewN | apply below_drew1) | exact HB.out))) : w.heap.size ≤ gb122)); have n3_ := Aside0.mk ((by rw [hg]; exact (below_size (by repeat (first | (with_reducible first | exact HB.out | apply below_alloc | apply pw_below_drewN | apply below_drew1) | exact HB.out))) : w.heap.size ≤ gb122)); clear HB; have HB := n0_; have BK122 := n1_; have GW122 := n2_; have GE122 := n3_; clear n0_ n1_ n2_ n3_; clear hb hbox hg; have hcz14_0 : w13.cell? ⟨gb122, 0, none⟩ = some (.int .i64 0) := (blk_cell BK122.out 0).trans rfl; have hcz14_1 : w13.cell? ⟨gb122, 1, none⟩ = some (.string (⟨#[]⟩ : ByteArray)) := (blk_cell BK122.out 1).trans rfl; have hcz14_2 : w13.cell? ⟨gb122, 2, none⟩ = some (.int .i64 0) := (blk_cell BK122.out 2).trans rfl; have hfz14_0 := blk_frozen BK122.out 0; have hfz14_1 := blk_frozen BK122.out 1; have hfz14_2 := blk_frozen BK122.out 2))
                go_roundg k1
                case measure => have := HK1.out; omega
                case rel => exact ⟨(wrap64 (x2_1 + (wrap64 (((rd_T43 l0 x9_1).f0) + ((rd_T43 l0 x9_1).f2))))), (wrap64 (x3_1 + (wrap64 (((rd_T43 l0 x9_1).f0) + (((rd_T43 l0 x9_1).f1).size : Int))))), (wrap64 (x9_1 + 1)), (by first | rfl | (simp; done) | (simp [*]; done)), (by first | rfl | (simp; done) | (simp [*]; done)), (by first | rfl | (simp; done) | (simp [*]; done)), H', ⟨by have := HK1.out; omega⟩, ⟨by repeat (first | (with_reducible first | exact HB.out | apply below_alloc | apply pw_below_drewN | apply below_drew1 | refine below_set ?_ GE122.out) | exact HB.out)⟩⟩
          · rw [if_neg c4] at H
            exact absurd H (by simp)
        · rw [if_neg c3] at H
          exact absurd H (by simp)
      · rw [if_neg c2] at H
        have c2b0 : decide (x9_1 < (l0.length : Int)) = false := decide_eq_false c2
        clear c2
        simp only [Option.some.injEq, Prod.mk.injEq] at H
        obtain ⟨rfl, rfl, rfl⟩ := H
        go_wp2
        go_ret3
        exact ⟨by first | rfl | (simp [errW_none, errW_some] <;> rfl) | (simp [*, errW_none, errW_some] <;> rfl), by repeat (first | (with_reducible first | exact HB.out | apply below_alloc | apply pw_below_drewN | apply below_drew1) | exact HB.out)⟩

end Go.Proofs.Ytbfdplmgefcogaa.P
end
-- MERGED YtbfdplmgefcogaaPeditGood
section
-- Written by wip/myprint.py of this session, over the kit's print.py: a Lean function for each Go function, and the proof that the code comes to it.
namespace Go.Proofs.Ytbfdplmgefcogaa.P
open Go.RowKit Go.Proofs.YtbfdplmgefcogaaW.PrintWords Go.Proofs.YtbfdplmgefcogaaW.PrintLast Go.Proofs.YtbfdplmgefcogaaW.PrintMore
attribute [local go_sem] max2_int min2_int max_two min_two max_three min_three max_four min_four   -- for this text's walks alone
set_option linter.unusedVariables false
set_option linter.unusedSimpArgs false

/-! ### edit_Good: function 16 -/
def edit_Good.f (k : Nat) (l0 : List (S43)) : Option (Bool) := (edit_right.f k l0).bind fun t123 => (if t123 = true then ((edit_sums.f k l0).bind fun bt124 => (some bt124.2.2)) else (some false))
theorem edit_Good.mono : ∀ a0 k, LeO (edit_Good.f k a0) (edit_Good.f (k + 1) a0) := by
  intro a0 k
  unfold edit_Good.f
  repeat' first
      | (with_reducible exact edit_right.mono _ _)
      | (with_reducible exact edit_sums.mono _ _)
      | (with_reducible exact LeO.refl _)
      | (with_reducible exact LeO.none _)
      | (with_reducible refine LeO.ite ?_ ?_)
      | (with_reducible refine LeO.bind ?_ (fun _ => ?_))
      | exact edit_right.mono _ _
      | exact edit_sums.mono _ _
      | exact LeO.none _
      | refine LeO.ite ?_ ?_
      | refine LeO.bind ?_ (fun _ => ?_)
set_option maxHeartbeats 8000000 in
set_option maxRecDepth 100000 in
theorem edit_Good.calls (k : Nat) (A0 : Option Addr) (c0 : Nat) (l0 : List (S43)) (r : Bool) (w : World) (hr0 : Kd.C k43 w A0 l0.length l0) (hc0 : l0.length ≤ c0) (h : edit_Good.f k l0 = some r) :
    Calls Try.prog 16 #[.slice A0 l0.length c0] w fun e w' => e = .returned (.bool r) ∧ Below w.heap.size w w' := by
  have HR0 := Aside0.mk hr0
  have HC0 := Aside0.mk hc0
  clear hr0 hc0
  have HB := Aside0.mk (Below.refl w.heap.size w)
  have H : ((edit_right.f k l0).bind fun t123 => (if t123 = true then ((edit_sums.f k l0).bind fun bt124 => (some bt124.2.2)) else (some false))) = some r := h
  clear h
  replace H := Option.bind_eq_some_iff.mp H
  obtain ⟨t123, A20, H⟩ := H
  replace H : (if t123 = true then ((edit_sums.f k l0).bind fun bt124 => (some bt124.2.2)) else (some false)) = some r := H
  have A2 := Aside0.mk A20
  clear A20
  by_cases c3 : t123 = true
  · subst c3
    have H1 : ((edit_sums.f k l0).bind fun bt124 => (some bt124.2.2)) = some r := by rw [if_pos rfl] at H; exact H
    clear H
    have H := H1
    clear H1
    replace H := Option.bind_eq_some_iff.mp H
    obtain ⟨⟨t124, t125, t126⟩, A40, H⟩ := H
    replace H : (some t126) = some r := H
    have A4 := Aside0.mk A40
    clear A40
    obtain rfl := Option.some.inj H
    go_enter Try.func16, Try.ntmps16
    go_wp2_with (first | ((with_reducible refine gate_callee (f := 33) rfl ?_); refine goesL_ (some 7) rfl rfl Try.func33 (by kernel_rfl) rfl #[.slice A0 l0.length c0] rfl (by (try simp only [List.map_toArray, List.map_cons, List.map_nil]); first | done | rfl | (simp only [List.length_drop, List.length_take]; rfl)) ?_; (with_reducible refine (edit_right.calls k _ _ l0 true _ ?side1 ?side2 A2.out).mono ?_); (case side1 => repeat (first | exact HR0.out | (with_reducible refine Kd.C_alloc ?_ _) | (with_reducible refine Kd.C_drewN ?_ _) | (with_reducible refine Kd.C_drew ?_))); (case side2 => exact HC0.out); rintro e w5 ⟨rfl, hb⟩; refine ⟨_, rfl, ?_⟩; have n0_ := Aside0.mk (below_step (by repeat (first | (with_reducible first | exact HB.out | apply below_alloc | apply pw_below_drewN | apply below_drew1) | exact HB.out)) hb); clear HB; have HB := n0_; clear n0_; (try clear hb); (try clear hb2); (try clear hk); (try clear hi)) | ((with_reducible refine gate_callee (f := 34) rfl ?_); refine goesL_ (some 11) rfl rfl Try.func34 (by kernel_rfl) rfl #[.slice A0 l0.length c0] rfl (by (try simp only [List.map_toArray, List.map_cons, List.map_nil]); first | done | rfl | (simp only [List.length_drop, List.length_take]; rfl)) ?_; (with_reducible refine (edit_sums.calls k _ _ l0 t124 t125 t126 _ ?side1 ?side2 A4.out).mono ?_); (case side1 => repeat (first | exact (Kd.C_below HR0.out HB.out) | (with_reducible refine Kd.C_alloc ?_ _) | (with_reducible refine Kd.C_drewN ?_ _) | (with_reducible refine Kd.C_drew ?_))); (case side2 => exact HC0.out); rintro e w6 ⟨rfl, hb⟩; refine ⟨_, rfl, ?_⟩; have n0_ := Aside0.mk (below_step (by repeat (first | (with_reducible first | exact HB.out | apply below_alloc | apply pw_below_drewN | apply below_drew1) | exact HB.out)) hb); clear HB; have HB := n0_; clear n0_; (try clear hb); (try clear hb2); (try clear hk); (try clear hi)))
    go_ret
    exact ⟨by first | rfl | (simp [errW_none, errW_some] <;> rfl) | (simp [*, errW_none, errW_some] <;> rfl), by repeat (first | (with_reducible first | exact HB.out | apply below_alloc | apply pw_below_drewN | apply below_drew1) | exact HB.out)⟩
  · replace c3 := Bool.eq_false_iff.mpr c3
    subst c3
    have H1 : (some false) = some r := by rw [if_neg (show ¬ (false = true) by decide)] at H; exact H
    clear H
    have H := H1
    clear H1
    obtain rfl := Option.some.inj H
    go_enter Try.func16, Try.ntmps16
    go_wp2_with (first | ((with_reducible refine gate_callee (f := 33) rfl ?_); refine goesL_ (some 7) rfl rfl Try.func33 (by kernel_rfl) rfl #[.slice A0 l0.length c0] rfl (by (try simp only [List.map_toArray, List.map_cons, List.map_nil]); first | done | rfl | (simp only [List.length_drop, List.length_take]; rfl)) ?_; (with_reducible refine (edit_right.calls k _ _ l0 false _ ?side1 ?side2 A2.out).mono ?_); (case side1 => repeat (first | exact HR0.out | (with_reducible refine Kd.C_alloc ?_ _) | (with_reducible refine Kd.C_drewN ?_ _) | (with_reducible refine Kd.C_drew ?_))); (case side2 => exact HC0.out); rintro e w7 ⟨rfl, hb⟩; refine ⟨_, rfl, ?_⟩; have n0_ := Aside0.mk (below_step (by repeat (first | (with_reducible first | exact HB.out | apply below_alloc | apply pw_below_drewN | apply below_drew1) | exact HB.out)) hb); clear HB; have HB := n0_; clear n0_; (try clear hb); (try clear hb2); (try clear hk); (try clear hi)))
    go_ret
    exact ⟨by first | rfl | (simp [errW_none, errW_some] <;> rfl) | (simp [*, errW_none, errW_some] <;> rfl), by repeat (first | (with_reducible first | exact HB.out | apply below_alloc | apply pw_below_drewN | apply below_drew1) | exact HB.out)⟩

end Go.Proofs.Ytbfdplmgefcogaa.P
end
-- MERGED YtbfdplmgefcogaaPeditIn
section
-- Written by wip/myprint.py of this session, over the kit's print.py: a Lean function for each Go function, and the proof that the code comes to it.
namespace Go.Proofs.Ytbfdplmgefcogaa.P
open Go.RowKit Go.Proofs.YtbfdplmgefcogaaW.PrintWords Go.Proofs.YtbfdplmgefcogaaW.PrintLast Go.Proofs.YtbfdplmgefcogaaW.PrintMore
attribute [local go_sem] max2_int min2_int max_two min_two max_three min_three max_four min_four   -- for this text's walks alone
set_option linter.unusedVariables false
set_option linter.unusedSimpArgs false

/-! ### edit_In: function 23 -/
def edit_In.f (k : Nat) (l0 : List (S43)) : Option (Int) := (edit_Good.f k l0).bind fun t131 => (if t131 = true then ((edit_sums.f k l0).bind fun bt132 => (some bt132.1)) else (some 0))
theorem edit_In.mono : ∀ a0 k, LeO (edit_In.f k a0) (edit_In.f (k + 1) a0) := by
  intro a0 k
  unfold edit_In.f
  repeat' first
      | (with_reducible exact edit_Good.mono _ _)
      | (with_reducible exact edit_sums.mono _ _)
      | (with_reducible exact LeO.refl _)
      | (with_reducible exact LeO.none _)
      | (with_reducible refine LeO.ite ?_ ?_)
      | (with_reducible refine LeO.bind ?_ (fun _ => ?_))
      | exact edit_Good.mono _ _
      | exact edit_sums.mono _ _
      | exact LeO.none _
      | refine LeO.ite ?_ ?_
      | refine LeO.bind ?_ (fun _ => ?_)
set_option maxHeartbeats 8000000 in
set_option maxRecDepth 100000 in
theorem edit_In.calls (k : Nat) (A0 : Option Addr) (c0 : Nat) (l0 : List (S43)) (r : Int) (w : World) (hr0 : Kd.C k43 w A0 l0.length l0) (hc0 : l0.length ≤ c0) (h : edit_In.f k l0 = some r) :
    Calls Try.prog 23 #[.slice A0 l0.length c0] w fun e w' => e = .returned (.int .i64 r) ∧ Below w.heap.size w w' := by
  have HR0 := Aside0.mk hr0
  have HC0 := Aside0.mk hc0
  clear hr0 hc0
  have HB := Aside0.mk (Below.refl w.heap.size w)
  have H : ((edit_Good.f k l0).bind fun t131 => (if t131 = true then ((edit_sums.f k l0).bind fun bt132 => (some bt132.1)) else (some 0))) = some r := h
  clear h
  replace H := Option.bind_eq_some_iff.mp H
  obtain ⟨t131, A20, H⟩ := H
  replace H : (if t131 = true then ((edit_sums.f k l0).bind fun bt132 => (some bt132.1)) else (some 0)) = some r := H
  have A2 := Aside0.mk A20
  clear A20
  by_cases c3 : t131 = true
  · subst c3
    have H1 : ((edit_sums.f k l0).bind fun bt132 => (some bt132.1)) = some r := by rw [if_pos rfl] at H; exact H
    clear H
    have H := H1
    clear H1
    replace H := Option.bind_eq_some_iff.mp H
    obtain ⟨⟨t132, t133, t134⟩, A40, H⟩ := H
    replace H : (some t132) = some r := H
    have A4 := Aside0.mk A40
    clear A40
    obtain rfl := Option.some.inj H
    go_enter Try.func23, Try.ntmps23
    go_wp2_with (first | ((with_reducible refine gate_callee (f := 16) rfl ?_); refine goesL_ (some 7) rfl rfl Try.func16 (by kernel_rfl) rfl #[.slice A0 l0.length c0] rfl (by (try simp only [List.map_toArray, List.map_cons, List.map_nil]); first | done | rfl | (simp only [List.length_drop, List.length_take]; rfl)) ?_; (with_reducible refine (edit_Good.calls k _ _ l0 true _ ?side1 ?side2 A2.out).mono ?_); (case side1 => repeat (first | exact HR0.out | (with_reducible refine Kd.C_alloc ?_ _) | (with_reducible refine Kd.C_drewN ?_ _) | (with_reducible refine Kd.C_drew ?_))); (case side2 => exact HC0.out); rintro e w5 ⟨rfl, hb⟩; refine ⟨_, rfl, ?_⟩; have n0_ := Aside0.mk (below_step (by repeat (first | (with_reducible first | exact HB.out | apply below_alloc | apply pw_below_drewN | apply below_drew1) | exact HB.out)) hb); clear HB; have HB := n0_; clear n0_; (try clear hb); (try clear hb2); (try clear hk); (try clear hi)) | ((with_reducible refine gate_callee (f := 34) rfl ?_); refine goesL_ (some 11) rfl rfl Try.func34 (by kernel_rfl) rfl #[.slice A0 l0.length c0] rfl (by (try simp only [List.map_toArray, List.map_cons, List.map_nil]); first | done | rfl | (simp only [List.length_drop, List.length_take]; rfl)) ?_; (with_reducible refine (edit_sums.calls k _ _ l0 t132 t133 t134 _ ?side1 ?side2 A4.out).mono ?_); (case side1 => repeat (first | exact (Kd.C_below HR0.out HB.out) | (with_reducible refine Kd.C_alloc ?_ _) | (with_reducible refine Kd.C_drewN ?_ _) | (with_reducible refine Kd.C_drew ?_))); (case side2 => exact HC0.out); rintro e w6 ⟨rfl, hb⟩; refine ⟨_, rfl, ?_⟩; have n0_ := Aside0.mk (below_step (by repeat (first | (with_reducible first | exact HB.out | apply below_alloc | apply pw_below_drewN | apply below_drew1) | exact HB.out)) hb); clear HB; have HB := n0_; clear n0_; (try clear hb); (try clear hb2); (try clear hk); (try clear hi)))
    go_ret
    exact ⟨by first | rfl | (simp [errW_none, errW_some] <;> rfl) | (simp [*, errW_none, errW_some] <;> rfl), by repeat (first | (with_reducible first | exact HB.out | apply below_alloc | apply pw_below_drewN | apply below_drew1) | exact HB.out)⟩
  · replace c3 := Bool.eq_false_iff.mpr c3
    subst c3
    have H1 : (some 0) = some r := by rw [if_neg (show ¬ (false = true) by decide)] at H; exact H
    clear H
    have H := H1
    clear H1
    obtain rfl := Option.some.inj H
    go_enter Try.func23, Try.ntmps23
    go_wp2_with (first | ((with_reducible refine gate_callee (f := 16) rfl ?_); refine goesL_ (some 7) rfl rfl Try.func16 (by kernel_rfl) rfl #[.slice A0 l0.length c0] rfl (by (try simp only [List.map_toArray, List.map_cons, List.map_nil]); first | done | rfl | (simp only [List.length_drop, List.length_take]; rfl)) ?_; (with_reducible refine (edit_Good.calls k _ _ l0 false _ ?side1 ?side2 A2.out).mono ?_); (case side1 => repeat (first | exact HR0.out | (with_reducible refine Kd.C_alloc ?_ _) | (with_reducible refine Kd.C_drewN ?_ _) | (with_reducible refine Kd.C_drew ?_))); (case side2 => exact HC0.out); rintro e w7 ⟨rfl, hb⟩; refine ⟨_, rfl, ?_⟩; have n0_ := Aside0.mk (below_step (by repeat (first | (with_reducible first | exact HB.out | apply below_alloc | apply pw_below_drewN | apply below_drew1) | exact HB.out)) hb); clear HB; have HB := n0_; clear n0_; (try clear hb); (try clear hb2); (try clear hk); (try clear hi)))
    go_ret
    exact ⟨by first | rfl | (simp [errW_none, errW_some] <;> rfl) | (simp [*, errW_none, errW_some] <;> rfl), by repeat (first | (with_reducible first | exact HB.out | apply below_alloc | apply pw_below_drewN | apply below_drew1) | exact HB.out)⟩

end Go.Proofs.Ytbfdplmgefcogaa.P
end
-- MERGED YtbfdplmgefcogaaPeditOut
section
-- Written by wip/myprint.py of this session, over the kit's print.py: a Lean function for each Go function, and the proof that the code comes to it.
namespace Go.Proofs.Ytbfdplmgefcogaa.P
open Go.RowKit Go.Proofs.YtbfdplmgefcogaaW.PrintWords Go.Proofs.YtbfdplmgefcogaaW.PrintLast Go.Proofs.YtbfdplmgefcogaaW.PrintMore
attribute [local go_sem] max2_int min2_int max_two min_two max_three min_three max_four min_four   -- for this text's walks alone
set_option linter.unusedVariables false
set_option linter.unusedSimpArgs false

/-! ### edit_Out: function 18 -/
def edit_Out.f (k : Nat) (l0 : List (S43)) : Option (Int) := (edit_Good.f k l0).bind fun t127 => (if t127 = true then ((edit_sums.f k l0).bind fun bt128 => (some bt128.2.1)) else (some 0))
theorem edit_Out.mono : ∀ a0 k, LeO (edit_Out.f k a0) (edit_Out.f (k + 1) a0) := by
  intro a0 k
  unfold edit_Out.f
  repeat' first
      | (with_reducible exact edit_Good.mono _ _)
      | (with_reducible exact edit_sums.mono _ _)
      | (with_reducible exact LeO.refl _)
      | (with_reducible exact LeO.none _)
      | (with_reducible refine LeO.ite ?_ ?_)
      | (with_reducible refine LeO.bind ?_ (fun _ => ?_))
      | exact edit_Good.mono _ _
      | exact edit_sums.mono _ _
      | exact LeO.none _
      | refine LeO.ite ?_ ?_
      | refine LeO.bind ?_ (fun _ => ?_)
set_option maxHeartbeats 8000000 in
set_option maxRecDepth 100000 in
theorem edit_Out.calls (k : Nat) (A0 : Option Addr) (c0 : Nat) (l0 : List (S43)) (r : Int) (w : World) (hr0 : Kd.C k43 w A0 l0.length l0) (hc0 : l0.length ≤ c0) (h : edit_Out.f k l0 = some r) :
    Calls Try.prog 18 #[.slice A0 l0.length c0] w fun e w' => e = .returned (.int .i64 r) ∧ Below w.heap.size w w' := by
  have HR0 := Aside0.mk hr0
  have HC0 := Aside0.mk hc0
  clear hr0 hc0
  have HB := Aside0.mk (Below.refl w.heap.size w)
  have H : ((edit_Good.f k l0).bind fun t127 => (if t127 = true then ((edit_sums.f k l0).bind fun bt128 => (some bt128.2.1)) else (some 0))) = some r := h
  clear h
  replace H := Option.bind_eq_some_iff.mp H
  obtain ⟨t127, A20, H⟩ := H
  replace H : (if t127 = true then ((edit_sums.f k l0).bind fun bt128 => (some bt128.2.1)) else (some 0)) = some r := H
  have A2 := Aside0.mk A20
  clear A20
  by_cases c3 : t127 = true
  · subst c3
    have H1 : ((edit_sums.f k l0).bind fun bt128 => (some bt128.2.1)) = some r := by rw [if_pos rfl] at H; exact H
    clear H
    have H := H1
    clear H1
    replace H := Option.bind_eq_some_iff.mp H
    obtain ⟨⟨t128, t129, t130⟩, A40, H⟩ := H
    replace H : (some t129) = some r := H
    have A4 := Aside0.mk A40
    clear A40
    obtain rfl := Option.some.inj H
    go_enter Try.func18, Try.ntmps18
    go_wp2_with (first | ((with_reducible refine gate_callee (f := 16) rfl ?_); refine goesL_ (some 7) rfl rfl Try.func16 (by kernel_rfl) rfl #[.slice A0 l0.length c0] rfl (by (try simp only [List.map_toArray, List.map_cons, List.map_nil]); first | done | rfl | (simp only [List.length_drop, List.length_take]; rfl)) ?_; (with_reducible refine (edit_Good.calls k _ _ l0 true _ ?side1 ?side2 A2.out).mono ?_); (case side1 => repeat (first | exact HR0.out | (with_reducible refine Kd.C_alloc ?_ _) | (with_reducible refine Kd.C_drewN ?_ _) | (with_reducible refine Kd.C_drew ?_))); (case side2 => exact HC0.out); rintro e w5 ⟨rfl, hb⟩; refine ⟨_, rfl, ?_⟩; have n0_ := Aside0.mk (below_step (by repeat (first | (with_reducible first | exact HB.out | apply below_alloc | apply pw_below_drewN | apply below_drew1) | exact HB.out)) hb); clear HB; have HB := n0_; clear n0_; (try clear hb); (try clear hb2); (try clear hk); (try clear hi)) | ((with_reducible refine gate_callee (f := 34) rfl ?_); refine goesL_ (some 11) rfl rfl Try.func34 (by kernel_rfl) rfl #[.slice A0 l0.length c0] rfl (by (try simp only [List.map_toArray, List.map_cons, List.map_nil]); first | done | rfl | (simp only [List.length_drop, List.length_take]; rfl)) ?_; (with_reducible refine (edit_sums.calls k _ _ l0 t128 t129 t130 _ ?side1 ?side2 A4.out).mono ?_); (case side1 => repeat (first | exact (Kd.C_below HR0.out HB.out) | (with_reducible refine Kd.C_alloc ?_ _) | (with_reducible refine Kd.C_drewN ?_ _) | (with_reducible refine Kd.C_drew ?_))); (case side2 => exact HC0.out); rintro e w6 ⟨rfl, hb⟩; refine ⟨_, rfl, ?_⟩; have n0_ := Aside0.mk (below_step (by repeat (first | (with_reducible first | exact HB.out | apply below_alloc | apply pw_below_drewN | apply below_drew1) | exact HB.out)) hb); clear HB; have HB := n0_; clear n0_; (try clear hb); (try clear hb2); (try clear hk); (try clear hi)))
    go_ret
    exact ⟨by first | rfl | (simp [errW_none, errW_some] <;> rfl) | (simp [*, errW_none, errW_some] <;> rfl), by repeat (first | (with_reducible first | exact HB.out | apply below_alloc | apply pw_below_drewN | apply below_drew1) | exact HB.out)⟩
  · replace c3 := Bool.eq_false_iff.mpr c3
    subst c3
    have H1 : (some 0) = some r := by rw [if_neg (show ¬ (false = true) by decide)] at H; exact H
    clear H
    have H := H1
    clear H1
    obtain rfl := Option.some.inj H
    go_enter Try.func18, Try.ntmps18
    go_wp2_with (first | ((with_reducible refine gate_callee (f := 16) rfl ?_); refine goesL_ (some 7) rfl rfl Try.func16 (by kernel_rfl) rfl #[.slice A0 l0.length c0] rfl (by (try simp only [List.map_toArray, List.map_cons, List.map_nil]); first | done | rfl | (simp only [List.length_drop, List.length_take]; rfl)) ?_; (with_reducible refine (edit_Good.calls k _ _ l0 false _ ?side1 ?side2 A2.out).mono ?_); (case side1 => repeat (first | exact HR0.out | (with_reducible refine Kd.C_alloc ?_ _) | (with_reducible refine Kd.C_drewN ?_ _) | (with_reducible refine Kd.C_drew ?_))); (case side2 => exact HC0.out); rintro e w7 ⟨rfl, hb⟩; refine ⟨_, rfl, ?_⟩; have n0_ := Aside0.mk (below_step (by repeat (first | (with_reducible first | exact HB.out | apply below_alloc | apply pw_below_drewN | apply below_drew1) | exact HB.out)) hb); clear HB; have HB := n0_; clear n0_; (try clear hb); (try clear hb2); (try clear hk); (try clear hi)))
    go_ret
    exact ⟨by first | rfl | (simp [errW_none, errW_some] <;> rfl) | (simp [*, errW_none, errW_some] <;> rfl), by repeat (first | (with_reducible first | exact HB.out | apply below_alloc | apply pw_below_drewN | apply below_drew1) | exact HB.out)⟩

end Go.Proofs.Ytbfdplmgefcogaa.P
end
-- MERGED YtbfdplmgefcogaaPvariorumref06Good
section
-- Written by wip/myprint.py of this session, over the kit's print.py: a Lean function for each Go function, and the proof that the code comes to it.
namespace Go.Proofs.Ytbfdplmgefcogaa.P
open Go.RowKit Go.Proofs.YtbfdplmgefcogaaW.PrintWords Go.Proofs.YtbfdplmgefcogaaW.PrintLast Go.Proofs.YtbfdplmgefcogaaW.PrintMore
attribute [local go_sem] max2_int min2_int max_two min_two max_three min_three max_four min_four   -- for this text's walks alone
set_option linter.unusedVariables false
set_option linter.unusedSimpArgs false

/-! ### variorumref06_Good: function 20 -/
-- NEEDS Derived.Test.YtbfdplmgefcogaaEditK
def variorumref06_Good.f (l0 : List (S43)) : Option (Bool) := if l0.length ≤ 140737488351232 then some (EditL.good l0) else none
theorem variorumref06_Good.calls (A0 : Option Addr) (c0 : Nat) (l0 : List (S43)) (r : Bool) (w : World) (hr0 : Kd.C k43 w A0 l0.length l0) (hc0 : l0.length ≤ c0) (h : variorumref06_Good.f l0 = some r) :
    Calls Try.prog 20 #[.slice A0 l0.length c0] w fun e w' => e = .returned (.bool r) ∧ Below w.heap.size w w' := by
  unfold variorumref06_Good.f at h
  by_cases hl : l0.length ≤ 140737488351232
  · rw [if_pos hl] at h
    obtain rfl := Option.some.inj h
    exact EditK.good_c A0 c0 l0 w hr0 hc0 hl
  · rw [if_neg hl] at h; cases h

end Go.Proofs.Ytbfdplmgefcogaa.P
end
-- MERGED YtbfdplmgefcogaaPvariorumref06In
section
-- Written by wip/myprint.py of this session, over the kit's print.py: a Lean function for each Go function, and the proof that the code comes to it.
namespace Go.Proofs.Ytbfdplmgefcogaa.P
open Go.RowKit Go.Proofs.YtbfdplmgefcogaaW.PrintWords Go.Proofs.YtbfdplmgefcogaaW.PrintLast Go.Proofs.YtbfdplmgefcogaaW.PrintMore
attribute [local go_sem] max2_int min2_int max_two min_two max_three min_three max_four min_four   -- for this text's walks alone
set_option linter.unusedVariables false
set_option linter.unusedSimpArgs false

/-! ### variorumref06_In: function 21 -/
def variorumref06_In.f (k : Nat) (l0 : List (S43)) : Option (Int) := (variorumref06_Good.f l0).bind fun t106 => (if t106 = true then ((variorumref06_sums.f k l0).bind fun bt107 => (some bt107.1)) else (some 0))
theorem variorumref06_In.mono : ∀ a0 k, LeO (variorumref06_In.f k a0) (variorumref06_In.f (k + 1) a0) := by
  intro a0 k
  unfold variorumref06_In.f
  repeat' first
      | (with_reducible exact variorumref06_sums.mono _ _)
      | (with_reducible exact LeO.refl _)
      | (with_reducible exact LeO.none _)
      | (with_reducible refine LeO.ite ?_ ?_)
      | (with_reducible refine LeO.bind ?_ (fun _ => ?_))
      | exact variorumref06_sums.mono _ _
      | exact LeO.none _
      | refine LeO.ite ?_ ?_
      | refine LeO.bind ?_ (fun _ => ?_)
set_option maxHeartbeats 8000000 in
set_option maxRecDepth 100000 in
theorem variorumref06_In.calls (k : Nat) (A0 : Option Addr) (c0 : Nat) (l0 : List (S43)) (r : Int) (w : World) (hr0 : Kd.C k43 w A0 l0.length l0) (hc0 : l0.length ≤ c0) (h : variorumref06_In.f k l0 = some r) :
    Calls Try.prog 21 #[.slice A0 l0.length c0] w fun e w' => e = .returned (.int .i64 r) ∧ Below w.heap.size w w' := by
  have HR0 := Aside0.mk hr0
  have HC0 := Aside0.mk hc0
  clear hr0 hc0
  have HB := Aside0.mk (Below.refl w.heap.size w)
  have H : ((variorumref06_Good.f l0).bind fun t106 => (if t106 = true then ((variorumref06_sums.f k l0).bind fun bt107 => (some bt107.1)) else (some 0))) = some r := h
  clear h
  replace H := Option.bind_eq_some_iff.mp H
  obtain ⟨t106, A20, H⟩ := H
  replace H : (if t106 = true then ((variorumref06_sums.f k l0).bind fun bt107 => (some bt107.1)) else (some 0)) = some r := H
  have A2 := Aside0.mk A20
  clear A20
  by_cases c3 : t106 = true
  · subst c3
    have H1 : ((variorumref06_sums.f k l0).bind fun bt107 => (some bt107.1)) = some r := by rw [if_pos rfl] at H; exact H
    clear H
    have H := H1
    clear H1
    replace H := Option.bind_eq_some_iff.mp H
    obtain ⟨⟨t107, t108, t109⟩, A40, H⟩ := H
    replace H : (some t107) = some r := H
    have A4 := Aside0.mk A40
    clear A40
    obtain rfl := Option.some.inj H
    go_enter Try.func21, Try.ntmps21
    go_wp2_with (first | ((with_reducible refine gate_callee (f := 20) rfl ?_); refine goesL_ (some 7) rfl rfl Try.func20 (by kernel_rfl) rfl #[.slice A0 l0.length c0] rfl (by (try simp only [List.map_toArray, List.map_cons, List.map_nil]); first | done | rfl | (simp only [List.length_drop, List.length_take]; rfl)) ?_; (with_reducible refine (variorumref06_Good.calls _ _ l0 true _ ?side1 ?side2 A2.out).mono ?_); (case side1 => repeat (first | exact HR0.out | (with_reducible refine Kd.C_alloc ?_ _) | (with_reducible refine Kd.C_drewN ?_ _) | (with_reducible refine Kd.C_drew ?_))); (case side2 => exact HC0.out); rintro e w5 ⟨rfl, hb⟩; refine ⟨_, rfl, ?_⟩; have n0_ := Aside0.mk (below_step (by repeat (first | (with_reducible first | exact HB.out | apply below_alloc | apply pw_below_drewN | apply below_drew1) | exact HB.out)) hb); clear HB; have HB := n0_; clear n0_; (try clear hb); (try clear hb2); (try clear hk); (try clear hi)) | ((with_reducible refine gate_callee (f := 36) rfl ?_); refine goesL_ (some 11) rfl rfl Try.func36 (by kernel_rfl) rfl #[.slice A0 l0.length c0] rfl (by (try simp only [List.map_toArray, List.map_cons, List.map_nil]); first | done | rfl | (simp only [List.length_drop, List.length_take]; rfl)) ?_; (with_reducible refine (variorumref06_sums.calls k _ _ l0 t107 t108 t109 _ ?side1 ?side2 A4.out).mono ?_); (case side1 => repeat (first | exact (Kd.C_below HR0.out HB.out) | (with_reducible refine Kd.C_alloc ?_ _) | (with_reducible refine Kd.C_drewN ?_ _) | (with_reducible refine Kd.C_drew ?_))); (case side2 => exact HC0.out); rintro e w6 ⟨rfl, hb⟩; refine ⟨_, rfl, ?_⟩; have n0_ := Aside0.mk (below_step (by repeat (first | (with_reducible first | exact HB.out | apply below_alloc | apply pw_below_drewN | apply below_drew1) | exact HB.out)) hb); clear HB; have HB := n0_; clear n0_; (try clear hb); (try clear hb2); (try clear hk); (try clear hi)))
    go_ret
    exact ⟨by first | rfl | (simp [errW_none, errW_some] <;> rfl) | (simp [*, errW_none, errW_some] <;> rfl), by repeat (first | (with_reducible first | exact HB.out | apply below_alloc | apply pw_below_drewN | apply below_drew1) | exact HB.out)⟩
  · replace c3 := Bool.eq_false_iff.mpr c3
    subst c3
    have H1 : (some 0) = some r := by rw [if_neg (show ¬ (false = true) by decide)] at H; exact H
    clear H
    have H := H1
    clear H1
    obtain rfl := Option.some.inj H
    go_enter Try.func21, Try.ntmps21
    go_wp2_with (first | ((with_reducible refine gate_callee (f := 20) rfl ?_); refine goesL_ (some 7) rfl rfl Try.func20 (by kernel_rfl) rfl #[.slice A0 l0.length c0] rfl (by (try simp only [List.map_toArray, List.map_cons, List.map_nil]); first | done | rfl | (simp only [List.length_drop, List.length_take]; rfl)) ?_; (with_reducible refine (variorumref06_Good.calls _ _ l0 false _ ?side1 ?side2 A2.out).mono ?_); (case side1 => repeat (first | exact HR0.out | (with_reducible refine Kd.C_alloc ?_ _) | (with_reducible refine Kd.C_drewN ?_ _) | (with_reducible refine Kd.C_drew ?_))); (case side2 => exact HC0.out); rintro e w7 ⟨rfl, hb⟩; refine ⟨_, rfl, ?_⟩; have n0_ := Aside0.mk (below_step (by repeat (first | (with_reducible first | exact HB.out | apply below_alloc | apply pw_below_drewN | apply below_drew1) | exact HB.out)) hb); clear HB; have HB := n0_; clear n0_; (try clear hb); (try clear hb2); (try clear hk); (try clear hi)))
    go_ret
    exact ⟨by first | rfl | (simp [errW_none, errW_some] <;> rfl) | (simp [*, errW_none, errW_some] <;> rfl), by repeat (first | (with_reducible first | exact HB.out | apply below_alloc | apply pw_below_drewN | apply below_drew1) | exact HB.out)⟩

end Go.Proofs.Ytbfdplmgefcogaa.P
end
-- MERGED YtbfdplmgefcogaaPvariorumref06Out
section
-- Written by wip/myprint.py of this session, over the kit's print.py: a Lean function for each Go function, and the proof that the code comes to it.
namespace Go.Proofs.Ytbfdplmgefcogaa.P
open Go.RowKit Go.Proofs.YtbfdplmgefcogaaW.PrintWords Go.Proofs.YtbfdplmgefcogaaW.PrintLast Go.Proofs.YtbfdplmgefcogaaW.PrintMore
attribute [local go_sem] max2_int min2_int max_two min_two max_three min_three max_four min_four   -- for this text's walks alone
set_option linter.unusedVariables false
set_option linter.unusedSimpArgs false

/-! ### variorumref06_Out: function 22 -/
def variorumref06_Out.f (k : Nat) (l0 : List (S43)) : Option (Int) := (variorumref06_Good.f l0).bind fun t110 => (if t110 = true then ((variorumref06_sums.f k l0).bind fun bt111 => (some bt111.2.1)) else (some 0))
theorem variorumref06_Out.mono : ∀ a0 k, LeO (variorumref06_Out.f k a0) (variorumref06_Out.f (k + 1) a0) := by
  intro a0 k
  unfold variorumref06_Out.f
  repeat' first
      | (with_reducible exact variorumref06_sums.mono _ _)
      | (with_reducible exact LeO.refl _)
      | (with_reducible exact LeO.none _)
      | (with_reducible refine LeO.ite ?_ ?_)
      | (with_reducible refine LeO.bind ?_ (fun _ => ?_))
      | exact variorumref06_sums.mono _ _
      | exact LeO.none _
      | refine LeO.ite ?_ ?_
      | refine LeO.bind ?_ (fun _ => ?_)
set_option maxHeartbeats 8000000 in
set_option maxRecDepth 100000 in
theorem variorumref06_Out.calls (k : Nat) (A0 : Option Addr) (c0 : Nat) (l0 : List (S43)) (r : Int) (w : World) (hr0 : Kd.C k43 w A0 l0.length l0) (hc0 : l0.length ≤ c0) (h : variorumref06_Out.f k l0 = some r) :
    Calls Try.prog 22 #[.slice A0 l0.length c0] w fun e w' => e = .returned (.int .i64 r) ∧ Below w.heap.size w w' := by
  have HR0 := Aside0.mk hr0
  have HC0 := Aside0.mk hc0
  clear hr0 hc0
  have HB := Aside0.mk (Below.refl w.heap.size w)
  have H : ((variorumref06_Good.f l0).bind fun t110 => (if t110 = true then ((variorumref06_sums.f k l0).bind fun bt111 => (some bt111.2.1)) else (some 0))) = some r := h
  clear h
  replace H := Option.bind_eq_some_iff.mp H
  obtain ⟨t110, A20, H⟩ := H
  replace H : (if t110 = true then ((variorumref06_sums.f k l0).bind fun bt111 => (some bt111.2.1)) else (some 0)) = some r := H
  have A2 := Aside0.mk A20
  clear A20
  by_cases c3 : t110 = true
  · subst c3
    have H1 : ((variorumref06_sums.f k l0).bind fun bt111 => (some bt111.2.1)) = some r := by rw [if_pos rfl] at H; exact H
    clear H
    have H := H1
    clear H1
    replace H := Option.bind_eq_some_iff.mp H
    obtain ⟨⟨t111, t112, t113⟩, A40, H⟩ := H
    replace H : (some t112) = some r := H
    have A4 := Aside0.mk A40
    clear A40
    obtain rfl := Option.some.inj H
    go_enter Try.func22, Try.ntmps22
    go_wp2_with (first | ((with_reducible refine gate_callee (f := 20) rfl ?_); refine goesL_ (some 7) rfl rfl Try.func20 (by kernel_rfl) rfl #[.slice A0 l0.length c0] rfl (by (try simp only [List.map_toArray, List.map_cons, List.map_nil]); first | done | rfl | (simp only [List.length_drop, List.length_take]; rfl)) ?_; (with_reducible refine (variorumref06_Good.calls _ _ l0 true _ ?side1 ?side2 A2.out).mono ?_); (case side1 => repeat (first | exact HR0.out | (with_reducible refine Kd.C_alloc ?_ _) | (with_reducible refine Kd.C_drewN ?_ _) | (with_reducible refine Kd.C_drew ?_))); (case side2 => exact HC0.out); rintro e w5 ⟨rfl, hb⟩; refine ⟨_, rfl, ?_⟩; have n0_ := Aside0.mk (below_step (by repeat (first | (with_reducible first | exact HB.out | apply below_alloc | apply pw_below_drewN | apply below_drew1) | exact HB.out)) hb); clear HB; have HB := n0_; clear n0_; (try clear hb); (try clear hb2); (try clear hk); (try clear hi)) | ((with_reducible refine gate_callee (f := 36) rfl ?_); refine goesL_ (some 11) rfl rfl Try.func36 (by kernel_rfl) rfl #[.slice A0 l0.length c0] rfl (by (try simp only [List.map_toArray, List.map_cons, List.map_nil]); first | done | rfl | (simp only [List.length_drop, List.length_take]; rfl)) ?_; (with_reducible refine (variorumref06_sums.calls k _ _ l0 t111 t112 t113 _ ?side1 ?side2 A4.out).mono ?_); (case side1 => repeat (first | exact (Kd.C_below HR0.out HB.out) | (with_reducible refine Kd.C_alloc ?_ _) | (with_reducible refine Kd.C_drewN ?_ _) | (with_reducible refine Kd.C_drew ?_))); (case side2 => exact HC0.out); rintro e w6 ⟨rfl, hb⟩; refine ⟨_, rfl, ?_⟩; have n0_ := Aside0.mk (below_step (by repeat (first | (with_reducible first | exact HB.out | apply below_alloc | apply pw_below_drewN | apply below_drew1) | exact HB.out)) hb); clear HB; have HB := n0_; clear n0_; (try clear hb); (try clear hb2); (try clear hk); (try clear hi)))
    go_ret
    exact ⟨by first | rfl | (simp [errW_none, errW_some] <;> rfl) | (simp [*, errW_none, errW_some] <;> rfl), by repeat (first | (with_reducible first | exact HB.out | apply below_alloc | apply pw_below_drewN | apply below_drew1) | exact HB.out)⟩
  · replace c3 := Bool.eq_false_iff.mpr c3
    subst c3
    have H1 : (some 0) = some r := by rw [if_neg (show ¬ (false = true) by decide)] at H; exact H
    clear H
    have H := H1
    clear H1
    obtain rfl := Option.some.inj H
    go_enter Try.func22, Try.ntmps22
    go_wp2_with (first | ((with_reducible refine gate_callee (f := 20) rfl ?_); refine goesL_ (some 7) rfl rfl Try.func20 (by kernel_rfl) rfl #[.slice A0 l0.length c0] rfl (by (try simp only [List.map_toArray, List.map_cons, List.map_nil]); first | done | rfl | (simp only [List.length_drop, List.length_take]; rfl)) ?_; (with_reducible refine (variorumref06_Good.calls _ _ l0 false _ ?side1 ?side2 A2.out).mono ?_); (case side1 => repeat (first | exact HR0.out | (with_reducible refine Kd.C_alloc ?_ _) | (with_reducible refine Kd.C_drewN ?_ _) | (with_reducible refine Kd.C_drew ?_))); (case side2 => exact HC0.out); rintro e w7 ⟨rfl, hb⟩; refine ⟨_, rfl, ?_⟩; have n0_ := Aside0.mk (below_step (by repeat (first | (with_reducible first | exact HB.out | apply below_alloc | apply pw_below_drewN | apply below_drew1) | exact HB.out)) hb); clear HB; have HB := n0_; clear n0_; (try clear hb); (try clear hb2); (try clear hk); (try clear hi)))
    go_ret
    exact ⟨by first | rfl | (simp [errW_none, errW_some] <;> rfl) | (simp [*, errW_none, errW_some] <;> rfl), by repeat (first | (with_reducible first | exact HB.out | apply below_alloc | apply pw_below_drewN | apply below_drew1) | exact HB.out)⟩

end Go.Proofs.Ytbfdplmgefcogaa.P
end
-- MERGED YtbfdplmgefcogaaPvariorumref06Same
section
-- Written by wip/myprint.py of this session, over the kit's print.py: a Lean function for each Go function, and the proof that the code comes to it.
namespace Go.Proofs.Ytbfdplmgefcogaa.P
open Go.RowKit Go.Proofs.YtbfdplmgefcogaaW.PrintWords Go.Proofs.YtbfdplmgefcogaaW.PrintLast Go.Proofs.YtbfdplmgefcogaaW.PrintMore
attribute [local go_sem] max2_int min2_int max_two min_two max_three min_three max_four min_four   -- for this text's walks alone
set_option linter.unusedVariables false
set_option linter.unusedSimpArgs false

attribute [local go_sem high] eqA43
/-! ### variorumref06_Same: function 11 -/
def variorumref06_Same.l0 : Nat → List (S43) → List (S43) → Int → Option (Bool)
  | 0, _, _, _ => none
  | k + 1, x0, x1, x5 => if x5 < (x0.length : Int) then (if 0 ≤ x5 then (if x5 < (x1.length : Int) then (if (!(((rd_T43 x0 x5).f0) == ((rd_T43 x1 x5).f0)) || (!((((rd_T43 x0 x5).f1).toList) == (((rd_T43 x1 x5).f1).toList)) || (!(((rd_T43 x0 x5).f2) == ((rd_T43 x1 x5).f2))))) = true then (some false) else (variorumref06_Same.l0 k x0 x1 (wrap64 (x5 + 1)))) else (none)) else (none)) else (some true)
def variorumref06_Same.f (k : Nat) (l0 : List (S43)) (l1 : List (S43)) : Option (Bool) := if (l0.length : Int) = (l1.length : Int) then (variorumref06_Same.l0 k l0 l1 0) else (some false)
theorem variorumref06_Same.mono_l : ∀ k, (∀ y0 y1 y2, LeO (variorumref06_Same.l0 k y0 y1 y2) (variorumref06_Same.l0 (k + 1) y0 y1 y2))
  | 0 => fun _ _ _ r h => by simp [variorumref06_Same.l0] at h
  | k + 1 => by
    have ih0 := variorumref06_Same.mono_l k
    · intro y0 y1 y2
      unfold variorumref06_Same.l0
      repeat' first
      | (with_reducible exact ih0 _ _ _)
      | (with_reducible exact LeO.refl _)
      | (with_reducible exact LeO.none _)
      | (with_reducible refine LeO.ite ?_ ?_)
      | (with_reducible refine LeO.bind ?_ (fun _ => ?_))
      | exact ih0 _ _ _
      | exact LeO.none _
      | refine LeO.ite ?_ ?_
      | refine LeO.bind ?_ (fun _ => ?_)
theorem variorumref06_Same.mono : ∀ a0 a1 k, LeO (variorumref06_Same.f k a0 a1) (variorumref06_Same.f (k + 1) a0 a1) := by
  intro a0 a1 k
  have ih0 := variorumref06_Same.mono_l k
  unfold variorumref06_Same.f
  repeat' first
      | (with_reducible exact ih0 _ _ _)
      | (with_reducible exact LeO.refl _)
      | (with_reducible exact LeO.none _)
      | (with_reducible refine LeO.ite ?_ ?_)
      | (with_reducible refine LeO.bind ?_ (fun _ => ?_))
      | exact ih0 _ _ _
      | exact LeO.none _
      | refine LeO.ite ?_ ?_
      | refine LeO.bind ?_ (fun _ => ?_)
set_option maxHeartbeats 8000000 in
set_option maxRecDepth 100000 in
theorem variorumref06_Same.calls (k : Nat) (A0 : Option Addr) (c0 : Nat) (l0 : List (S43)) (A1 : Option Addr) (c1 : Nat) (l1 : List (S43)) (r : Bool) (w : World) (hr0 : Kd.C k43 w A0 l0.length l0) (hc0 : l0.length ≤ c0) (hr1 : Kd.C k43 w A1 l1.length l1) (hc1 : l1.length ≤ c1) (h : variorumref06_Same.f k l0 l1 = some r) :
    Calls Try.prog 11 #[.slice A0 l0.length c0, .slice A1 l1.length c1] w fun e w' => e = .returned (.bool r) ∧ Drawn0 w w' := by
  have hu43 := Try.underlying43
  have HR0 := Aside0.mk hr0
  have HC0 := Aside0.mk hc0
  clear hr0 hc0
  have HR1 := Aside0.mk hr1
  have HC1 := Aside0.mk hc1
  clear hr1 hc1
  have H : (if (l0.length : Int) = (l1.length : Int) then (variorumref06_Same.l0 k l0 l1 0) else (some false)) = some r := h
  clear h
  by_cases c3 : (l0.length : Int) = (l1.length : Int)
  · rw [if_pos c3] at H
    have c3b0 : ((l0.length : Int) == (l1.length : Int)) = true := beq_iff_eq.mpr c3
    have c3b1 : ((l0.length : Int) != (l1.length : Int)) = false := bne_eq_false_iff_eq.mpr c3
    have c3b2 : (l0.length == l1.length) = true := by first | simpa using c3 | (simp at c3 ⊢; omega)
    clear c3
    have H' := Aside0.mk H
    clear H
    go_enter Try.func11, Try.ntmps11
    go_wp2
    repeat (go_quiet (fail); try go_wp2)
    go_loopg [5] k (fun kq v5 w' => ∃ (x5_1 : Int), v5 = .int .i64 x5_1 ∧ Aside0 (variorumref06_Same.l0 kq l0 l1 x5_1 = some r) ∧ Aside0 (kq ≤ k) ∧ Drawn0 w w')
    case atStart => exact ⟨(0), (by first | rfl | (simp; done) | (simp [*]; done)), H', ⟨Nat.le_refl _⟩, by repeat (first | exact Drawn0.refl _ | apply Drawn0.step)⟩
    case round =>
      clear H'
      try clear c1
      try clear p2
      try clear c3
      try clear c3b0
      try clear c3b1
      try clear c3b2
      obtain ⟨x5_1, rfl, HA, HK1, ⟨m1, rfl⟩⟩ := hrel
      cases gk with
      | zero => exact absurd HA.out (by simp [variorumref06_Same.l0])
      | succ k1 =>
        have H := HA.out
        clear HA
        simp only [variorumref06_Same.l0] at H
        by_cases c4 : x5_1 < (l0.length : Int)
        · rw [if_pos c4] at H
          have c4b0 : decide (x5_1 < (l0.length : Int)) = true := decide_eq_true c4
          clear c4
          by_cases c5 : 0 ≤ x5_1
          · rw [if_pos c5] at H
            have c5b0 : decide (0 ≤ x5_1) = true := decide_eq_true c5
            clear c5
            by_cases c6 : x5_1 < (l1.length : Int)
            · rw [if_pos c6] at H
              have c6b0 : decide (x5_1 < (l1.length : Int)) = true := decide_eq_true c6
              clear c6
              by_cases c7 : (!(((rd_T43 l0 x5_1).f0) == ((rd_T43 l1 x5_1).f0)) || (!((((rd_T43 l0 x5_1).f1).toList) == (((rd_T43 l1 x5_1).f1).toList)) || (!(((rd_T43 l0 x5_1).f2) == ((rd_T43 l1 x5_1).f2))))) = true
              · rw [if_pos c7] at H
                have c7b0 : (!(((rd_T43 l0 x5_1).f0) == ((rd_T43 l1 x5_1).f0)) || (!((((rd_T43 l0 x5_1).f1).toList) == (((rd_T43 l1 x5_1).f1).toList)) || (!(((rd_T43 l0 x5_1).f2) == ((rd_T43 l1 x5_1).f2))))) = true := c7
                clear c7
                obtain rfl := Option.some.inj H
                have p135 : 0 ≤ (x5_1 : Int) := of_decide_eq_true (by first | (with_reducible assumption) | assumption)
                have q135 : x5_1 < (l0.length : Int) := of_decide_eq_true (by first | (with_reducible assumption) | assumption)
                obtain ⟨ad135, e135, hx135_0, hx135_1, hx135_2⟩ := at_T43 HR0.out x5_1 p135 q135
                cases e135
                replace p135 := eq_true p135
                replace q135 := eq_true q135
                have p136 : 0 ≤ (x5_1 : Int) := of_decide_eq_true (by first | (with_reducible assumption) | assumption)
                have q136 : x5_1 < (l1.length : Int) := of_decide_eq_true (by first | (with_reducible assumption) | assumption)
                obtain ⟨ad136, e136, hx136_0, hx136_1, hx136_2⟩ := at_T43 HR1.out x5_1 p136 q136
                cases e136
                replace p136 := eq_true p136
                replace q136 := eq_true q136
                go_wp2
                repeat (go_quiet (fail); try go_wp2)
                go_ret
                exact ⟨by first | rfl | (simp; done) | (simp [*]; done), by repeat (first | exact Drawn0.refl _ | apply Drawn0.step)⟩
              · rw [if_neg c7] at H
                have c7b0 : (!(((rd_T43 l0 x5_1).f0) == ((rd_T43 l1 x5_1).f0)) || (!((((rd_T43 l0 x5_1).f1).toList) == (((rd_T43 l1 x5_1).f1).toList)) || (!(((rd_T43 l0 x5_1).f2) == ((rd_T43 l1 x5_1).f2))))) = false := by simpa using c7
                clear c7
                have H' := Aside0.mk H
                clear H
                have p135 : 0 ≤ (x5_1 : Int) := of_decide_eq_true (by first | (with_reducible assumption) | assumption)
                have q135 : x5_1 < (l0.length : Int) := of_decide_eq_true (by first | (with_reducible assumption) | assumption)
                obtain ⟨ad135, e135, hx135_0, hx135_1, hx135_2⟩ := at_T43 HR0.out x5_1 p135 q135
                cases e135
                replace p135 := eq_true p135
                replace q135 := eq_true q135
                have p136 : 0 ≤ (x5_1 : Int) := of_decide_eq_true (by first | (with_reducible assumption) | assumption)
                have q136 : x5_1 < (l1.length : Int) := of_decide_eq_true (by first | (with_reducible assumption) | assumption)
                obtain ⟨ad136, e136, hx136_0, hx136_1, hx136_2⟩ := at_T43 HR1.out x5_1 p136 q136
                cases e136
                replace p136 := eq_true p136
                replace q136 := eq_true q136
                go_wp2
                repeat (go_quiet (fail); try go_wp2)
                go_roundg k1
                case measure => have := HK1.out; omega
                case rel => exact ⟨(wrap64 (x5_1 + 1)), (by first | rfl | (simp; done) | (simp [*]; done)), H', ⟨by have := HK1.out; omega⟩, by repeat (first | exact Drawn0.refl _ | apply Drawn0.step)⟩
            · rw [if_neg c6] at H
              exact absurd H (by simp)
          · rw [if_neg c5] at H
            exact absurd H (by simp)
        · rw [if_neg c4] at H
          have c4b0 : decide (x5_1 < (l0.length : Int)) = false := decide_eq_false c4
          clear c4
          obtain rfl := Option.some.inj H
          go_wp2
          repeat (go_quiet (fail); try go_wp2)
          go_ret
          exact ⟨by first | rfl | (simp; done) | (simp [*]; done), by repeat (first | exact Drawn0.refl _ | apply Drawn0.step)⟩
  · rw [if_neg c3] at H
    have c3b0 : ((l0.length : Int) == (l1.length : Int)) = false := beq_eq_false_iff_ne.mpr c3
    have c3b1 : ((l0.length : Int) != (l1.length : Int)) = true := bne_iff_ne.mpr c3
    have c3b2 : (l0.length == l1.length) = false := by first | simpa using c3 | (simp at c3 ⊢; omega)
    obtain rfl := Option.some.inj H
    go_enter Try.func11, Try.ntmps11
    go_wp2
    repeat (go_quiet (fail); try go_wp2)
    go_ret
    exact ⟨by first | rfl | (simp; done) | (simp [*]; done), by repeat (first | exact Drawn0.refl _ | apply Drawn0.step)⟩

end Go.Proofs.Ytbfdplmgefcogaa.P
end
-- MERGED YtbfdplmgefcogaaEditF
section
/- What the program's and the reference's functions of edits come to (their printed forms): whether runs are an edit, of how many bytes, to how many. -/
namespace Go.Proofs.Ytbfdplmgefcogaa.EditF
open Go.RowKit Go.Proofs.Ytbfdplmgefcogaa.P Go.Proofs.YtbfdplmgefcogaaW.PrintWords Go.Proofs.YtbfdplmgefcogaaW.PrintLast Go.Proofs.YtbfdplmgefcogaaW.PrintMore Go.Proofs.Ytbfdplmgefcogaa.EditL Go.Proofs.Ytbfdplmgefcogaa.EditK

theorem kind_f (r : Rn) : edit_kind.f r.f0 r.f1 r.f2 = some (knd r) := rfl
theorem sums_l (l0 : List Rn) (hb : l0.length ≤ 140737488351232) : ∀ (suf pre : List Rn) (k : Nat) (i o : Int), l0 = pre ++ suf → suf.length < k → (∀ r ∈ suf, knd r ≠ 0) → 0 ≤ i → i ≤ 16777216 → 0 ≤ o → o ≤ 16777216 →
    edit_sums.l0 k i o l0 (l0.length : Int) (pre.length : Int) = some (cond (fits suf i o) (i + inL suf, o + outL suf, true) (0, 0, false)) := by
  intro suf
  induction suf with
  | nil =>
    intro pre k i o hl hk _ _ _ _ _
    obtain ⟨k, rfl⟩ : ∃ m, k = m + 1 := ⟨k - 1, by simp at hk; omega⟩
    have : l0.length = pre.length := by rw [hl]; simp
    simp only [edit_sums.l0]
    rw [if_neg (by omega)]
    simp [fits, inL, outL]
  | cons r suf ih =>
    intro pre k i o hl hk hok hi0 hi ho0 ho
    obtain ⟨k, rfl⟩ : ∃ m, k = m + 1 := ⟨k - 1, by simp at hk; omega⟩
    obtain ⟨hl2, hn, hlt⟩ := snoc hl
    have hr := knd_cases r
    have h0 := hok r List.mem_cons_self
    simp only [edit_sums.l0]
    rw [if_pos hlt, if_pos (by omega), if_pos hlt, rd_at hl, w64 (x := 16777216 - i) (by omega) (by omega), w64 (x := 16777216 - o) (by omega) (by omega)]
    by_cases c1 : mx r.f0 r.f2 > 16777216 - i
    · rw [if_pos c1]
      have : ¬ (r.f0 ≤ 16777216 - i ∧ r.f2 ≤ 16777216 - i) := by
        unfold mx at c1
        split at c1 <;> omega
      have hf : fits (r :: suf) i o = false := by
        rw [Bool.eq_false_iff]
        simp only [fits, ne_eq, Bool.and_eq_true, decide_eq_true_eq]
        rintro ⟨⟨⟨⟨a1, a2⟩, _⟩, _⟩, _⟩
        exact this ⟨a1, a2⟩
      rw [hf]; rfl
    · rw [if_neg c1]
      have e1 : r.f0 ≤ 16777216 - i ∧ r.f2 ≤ 16777216 - i := by
        unfold mx at c1
        split at c1 <;> omega
      by_cases c2 : mx r.f0 (r.f1.size : Int) > 16777216 - o
      · rw [if_pos c2]
        have : ¬ (r.f0 ≤ 16777216 - o ∧ (r.f1.size : Int) ≤ 16777216 - o) := by
          unfold mx at c2
          split at c2 <;> omega
        have hf : fits (r :: suf) i o = false := by
          rw [Bool.eq_false_iff]
          simp only [fits, ne_eq, Bool.and_eq_true, decide_eq_true_eq]
          rintro ⟨⟨⟨_, a1⟩, a2⟩, _⟩
          exact this ⟨a1, a2⟩
        rw [hf]; rfl
      · rw [if_neg c2]
        have e2 : r.f0 ≤ 16777216 - o ∧ (r.f1.size : Int) ≤ 16777216 - o := by
          unfold mx at c2
          split at c2 <;> omega
        have hp := knd_pos h0
        simp only [fits, inL, outL]
        rw [decide_eq_true e1.1, decide_eq_true e1.2, decide_eq_true e2.1, decide_eq_true e2.2, Bool.true_and, Bool.true_and, Bool.true_and, Bool.true_and,
          w64 (x := r.f0 + r.f2) (by omega) (by omega), w64 (x := i + (r.f0 + r.f2)) (by omega) (by omega), w64 (x := r.f0 + (r.f1.size : Int)) (by omega) (by omega), w64 (x := o + (r.f0 + (r.f1.size : Int))) (by omega) (by omega), w64 (x := (pre.length : Int) + 1) (by omega) (by omega), ← hn]
        rw [ih (pre ++ [r]) k _ _ hl2 (by simp at hk; omega) (fun x hx => hok x (List.mem_cons_of_mem _ hx)) (by omega) (by rcases hr with h | h | h | h <;> omega) (by omega) (by rcases hr with h | h | h | h <;> omega)]
        cases fits suf (i + (r.f0 + r.f2)) (o + (r.f0 + (r.f1.size : Int))) with
        | false => rfl
        | true => simp only [cond_true, Option.some.injEq, Prod.mk.injEq, and_true]; omega
theorem sums_f {l : List Rn} (hb : l.length ≤ 140737488351232) (hok : ∀ r ∈ l, knd r ≠ 0) (k : Nat) (hk : l.length < k) : edit_sums.f k l = some (cond (fits l 0 0) (inL l, outL l, true) (0, 0, false)) := by
  unfold edit_sums.f
  have := sums_l l hb l [] k 0 0 rfl hk hok (by omega) (by omega) (by omega) (by omega)
  simp only [Int.zero_add] at this
  exact this
theorem right_l (l0 : List Rn) (hb : l0.length ≤ 140737488351232) : ∀ (suf pre : List Rn) (k : Nat) (last : Int), l0 = pre ++ suf → suf.length < k →
    edit_right.l0 k l0 last l0 (l0.length : Int) (pre.length : Int) = some (ord suf last && decide (l0.length ≤ 65536)) := by
  intro suf
  induction suf with
  | nil =>
    intro pre k last hl hk
    obtain ⟨k, rfl⟩ : ∃ m, k = m + 1 := ⟨k - 1, by simp at hk; omega⟩
    have : l0.length = pre.length := by rw [hl]; simp
    simp only [edit_right.l0]
    rw [if_neg (by omega)]
    simp only [ord, Bool.true_and, Option.some.injEq]
    by_cases h : l0.length ≤ 65536
    · rw [decide_eq_true h, decide_eq_true (by omega)]
    · rw [decide_eq_false h, decide_eq_false (by omega)]
  | cons r suf ih =>
    intro pre k last hl hk
    obtain ⟨k, rfl⟩ : ∃ m, k = m + 1 := ⟨k - 1, by simp at hk; omega⟩
    obtain ⟨hl2, hn, hlt⟩ := snoc hl
    have next := ih (pre ++ [r]) k (knd r) hl2 (by simp at hk; omega)
    rw [hn] at next
    simp only [edit_right.l0]
    rw [if_pos hlt, if_pos (by omega), if_pos hlt, rd_at hl, kind_f, Option.bind_some, w64 (x := (pre.length : Int) + 1) (by omega) (by omega), next]
    simp only [ord]
    by_cases c1 : knd r = 0
    · rw [if_pos c1, decide_eq_false (by omega)]; rfl
    · rw [if_neg c1, decide_eq_true c1]
      by_cases c2 : knd r = last
      · rw [if_pos c2, decide_eq_false (by omega)]; rfl
      · rw [if_neg c2, decide_eq_true c2]
        by_cases c3 : last = 3
        · rw [if_pos c3]
          by_cases c4 : knd r = 2
          · rw [if_pos c4, decide_eq_false (show ¬ ¬ (last = 3 ∧ knd r = 2) by omega)]; rfl
          · rw [if_neg c4, decide_eq_true (show ¬ (last = 3 ∧ knd r = 2) by omega)]; rfl
        · rw [if_neg c3, decide_eq_true (show ¬ (last = 3 ∧ knd r = 2) by omega)]; rfl
theorem good_f {l : List Rn} (hb : l.length ≤ 140737488351232) (k : Nat) (hk : l.length < k) : edit_Good.f k l = some (good l) := by
  unfold edit_Good.f edit_right.f good
  have := right_l l hb l [] k 0 rfl hk
  simp only [List.length_nil] at this
  rw [show ((0 : Nat) : Int) = 0 from rfl] at this
  rw [this, Option.bind_some]
  cases h : ord l 0 with
  | false => simp
  | true =>
    rw [sums_f hb (ord_ok h) k hk, Option.bind_some]
    by_cases h2 : l.length ≤ 65536
    · rw [decide_eq_true h2]
      cases fits l 0 0 <;> rfl
    · rw [decide_eq_false h2]; rfl
theorem in_f {l : List Rn} (hb : l.length ≤ 140737488351232) (k : Nat) (hk : l.length < k) : edit_In.f k l = some (if good l then inL l else 0) := by
  unfold edit_In.f
  rw [good_f hb k hk, Option.bind_some]
  cases h : good l with
  | false => rfl
  | true =>
    obtain ⟨_, _, h2, h3⟩ := good_ok h
    rw [if_pos rfl, sums_f hb h3 k hk, Option.bind_some, h2]; rfl
theorem out_f {l : List Rn} (hb : l.length ≤ 140737488351232) (k : Nat) (hk : l.length < k) : edit_Out.f k l = some (if good l then outL l else 0) := by
  unfold edit_Out.f
  rw [good_f hb k hk, Option.bind_some]
  cases h : good l with
  | false => rfl
  | true =>
    obtain ⟨_, _, h2, h3⟩ := good_ok h
    rw [if_pos rfl, sums_f hb h3 k hk, Option.bind_some, h2]; rfl
end Go.Proofs.Ytbfdplmgefcogaa.EditF
end
-- MERGED YtbfdplmgefcogaaEditN
section
/- The walk of Norm: the right runs, whether they fit, what they join to, whether that is an edit. -/
namespace Go.Proofs.Ytbfdplmgefcogaa.EditN
open Go.RowKit Go.Shelf Go.Proofs.Ytbfdplmgefcogaa.P Go.Proofs.YtbfdplmgefcogaaW.PrintWords Go.Proofs.YtbfdplmgefcogaaW.PrintLast Go.Proofs.YtbfdplmgefcogaaW.PrintMore Go.Proofs.Ytbfdplmgefcogaa.Own Go.Proofs.Ytbfdplmgefcogaa.EditL Go.Proofs.Ytbfdplmgefcogaa.EditK Go.Proofs.Ytbfdplmgefcogaa.RangeG Go.Proofs.Ytbfdplmgefcogaa.EditJ Go.Proofs.Ytbfdplmgefcogaa.EditI Go.Proofs.Ytbfdplmgefcogaa.EditR Go.Proofs.Ytbfdplmgefcogaa.EditF Go.Proofs.Ytbfdplmgefcogaa.VaryR
attribute [local go_sem] Oper.semAt_some
set_option linter.unusedSimpArgs false
set_option linter.unusedVariables false

theorem fine_take {l : List Rn} {i : Nat} (h : i < l.length) : fine (l.take (i + 1)) = if knd (l.getD i z43) ≠ 0 then fine (l.take i) ++ [l.getD i z43] else fine (l.take i) := by
  rw [List.take_succ_eq_append_getElem h, fine_append, show l.getD i z43 = l[i] from by rw [List.getD_eq_getElem?_getD, List.getElem?_eq_getElem h]; rfl, fine_cons]
  split
  · rfl
  · exact List.append_nil _
set_option maxHeartbeats 1000000 in
set_option maxRecDepth 100000 in
theorem joined_c (A : Option Addr) (n c : Nat) (w : World) : Calls Try.prog 43 #[.slice A n c] w fun e w' => e = .returned (.func (.func 46) #[] #[.pointer (some ⟨w.heap.size, 0, none⟩)]) ∧ w' = w.alloc (.cells #[.slice A n c] 22) := by
  go_enter Try.func43, Try.ntmps43
  go_wp2_with fail
  go_ret
  exact ⟨rfl, rfl⟩
theorem jn_len (l : List Rn) : ∀ k a d, (jn l k a d).length ≤ 3 * l.length + 3 := by
  have hfl : ∀ k a d, (fl k a d).length ≤ 3 := fun k a d => by unfold fl; simp only [List.length_append]; (repeat' split) <;> simp
  induction l with
  | nil => intro k a d; have := hfl k a d; simpa [jn] using this
  | cons r l ih =>
    intro k a d
    by_cases h : knd r = 1 ∧ (a.size ≠ 0 ∨ 0 < d)
    · rw [jn_flush h.1 h.2, List.length_append, List.length_cons]
      have := hfl k a d
      have := ih r.f0 r.f1 r.f2
      omega
    · rw [jn_on h, List.length_cons]
      have := ih (k + r.f0) (a ++ r.f1) (d + r.f2)
      omega
def NormPost (l0 : List Rn) (w : World) (e : Ending) (w' : World) : Prop := ∃ v0_ : Value, e = .returned (v0_) ∧ Kd.R k43 43 w' w.heap.size (fun _ => True) v0_ (norm l0) ∧ Below w.heap.size w w'
set_option maxHeartbeats 8000000 in
set_option maxRecDepth 100000 in
theorem norm_w (A0 : Option Addr) (c0 : Nat) (l0 : List Rn) (w : World) (hr0 : Kd.C k43 w A0 l0.length l0) (hc0 : l0.length ≤ c0) (hl : l0.length ≤ 4000000) :
    Calls Try.prog 25 #[.slice A0 l0.length c0] w (NormPost l0 w) := by
  refine (callsIn_wide (n := 12)).1 ?_
  have HR := Aside0.mk hr0
  have HC := Aside0.mk hc0
  have HL := Aside0.mk hl
  have hl' : (l0.length : Int) ≤ 4000000 := by omega
  clear hr0 hc0 hl
  refine callsIn_of_wp_marks Try.func25 rfl trivial ?_ rfl
  simp only [Try.ntmps25, List.size_toArray, List.length_cons, List.length_nil, Nat.reduceAdd, Nat.reduceSub, Array.replicate_succ, Array.replicate_zero, List.push_toArray, List.append_toArray, List.nil_append, List.cons_append]
  gi_wp2
  obtain ⟨w1, hw1⟩ : ∃ w1, w1 = w.alloc (.cells #[.slice none 0 0] 22) := ⟨_, rfl⟩
  have HB0 := Aside0.mk (show Below w.heap.size w w1 by rw [hw1]; exact below_alloc (Below.refl _ _) _)
  have HX0 := Aside0.mk (show Boxed w1 w.heap.size 22 (.slice none 0 0) by rw [hw1]; exact Boxed.new _ _ _)
  rw [← hw1]
  clear hw1
  gi_loopw [3, 12] (fun fv iv wr => ∃ i : Nat, i ≤ l0.length ∧ iv = .int .i64 (i : Int) ∧ RO wr w.heap.size fv (fine (l0.take i)) ∧ Below w.heap.size w wr ∧ Boxed wr w.heap.size 22 (.slice none 0 0)) (fun _ iv _ => l0.length - (intOf iv).toNat)
  case atStart => exact ⟨0, Nat.zero_le _, rfl, World.ownsRow_nil _ _ _ _, HB0.out, HX0.out⟩
  case round =>
    clear HB0 HX0
    obtain ⟨i, hi, rfl, hrow, hb, hx⟩ := hrel
    have HROW := Aside0.mk hrow
    have HB := Aside0.mk hb
    have HX := Aside0.mk hx
    clear hrow hb hx
    by_cases hlt : i < l0.length
    · obtain ⟨ad, rfl, x0, x1, x2⟩ := at_nat (Kd.C_below HR.out HB.out) i hlt
      have hft := fine_take hlt
      have hfl := fine_len (l0.take i)
      rw [List.length_take] at hfl
      obtain ⟨r, hr⟩ : ∃ r, r = l0.getD i z43 := ⟨_, rfl⟩
      rw [← hr] at x0 x1 x2 hft
      have HFL := Aside0.mk (show (fine (l0.take i)).length + 1 ≤ 4398046511104 by have := HL.out; omega)
      have HFT := Aside0.mk hft
      have hlt' : (i : Int) < (l0.length : Int) := by omega
      clear hr hft hfl
      gi_wp2
      refine ⟨trivial, ?_⟩
      refine (callsIn_wide.2 (kind_c r _)).mono ?_
      rintro e w2 ⟨rfl, hb2⟩
      have hbb := (below_alloc (Below.refl wr.heap.size wr) (.cells #[.int .i64 r.f0, .string r.f1, .int .i64 r.f2] 43)).trans (hb2.mono (by simp))
      have HB2 := Aside0.mk (HB.out.trans (hbb.mono HB.out.size))
      have HX2 := Aside0.mk (show Boxed w2 w.heap.size 22 (.slice none 0 0) from (hbb.block _ HX.out.lt).trans HX.out)
      have HROW2 := Aside0.mk (show RO w2 w.heap.size _ _ from RO.below HROW.out hbb)
      have hq : w2.heap[wr.heap.size]? = some (rcs r.f0 r.f1 r.f2) := (hb2.block _ (by simp)).trans (Own.heap_new _ _)
      obtain ⟨q0, q1, q2⟩ := blk_cells hq
      obtain ⟨t, ht⟩ : ∃ t, t = knd r := ⟨_, rfl⟩
      rw [← ht] at HFT ⊢
      clear x0 x1 x2 hb2 hbb hq HROW HB HX ht
      by_cases hk : t = 0
      · subst hk
        have HN := Aside0.mk (show fine (l0.take (i + 1)) = fine (l0.take i) by rw [HFT.out]; rfl)
        gi_wp2
        go_roundw
        case rel => exact ⟨i + 1, by omega, by go_num, by rw [HN.out]; exact HROW2.out, HB2.out, HX2.out⟩
        case measure => simp [intOf]; omega
      · have k1 : (t == 0) = false := by simpa using hk
        have k2 : (t != 0) = true := by simpa using hk
        have HN := Aside0.mk (show fine (l0.take (i + 1)) = fine (l0.take i) ++ [r] by rw [HFT.out, if_pos hk])
        clear hk
        gi_wp2_with (gi_at_builtin; refine wpListIn_run (by rfl) (by rfl) HB2.out.size (by rfl) HROW2.out r (by rfl) HFL.out ?_; intro v' w3 hg)
        have hg1 := hg.grown
        have HB3 := Aside0.mk (show Below w.heap.size w w3 from HB2.out.grown hg1 HB2.out.size (fun k e => own_base HROW2.out k e))
        have HX3 := Aside0.mk (show Boxed w3 w.heap.size 22 (.slice none 0 0) from HX2.out.kept hg1 (HX2.out.not_row (by decide) HROW2.out))
        have HO3 := Aside0.mk hg.own
        clear hg hg1
        gi_wp2
        go_roundw
        case rel => exact ⟨i + 1, by omega, by go_num, by rw [HN.out]; exact HO3.out, HB3.out, HX3.out⟩
        case measure => simp [intOf]; omega
    · have hil : i = l0.length := by omega
      have hge : ¬ ((i : Int) < (l0.length : Int)) := by omega
      obtain ⟨f, hf⟩ : ∃ f, f = fine l0 := ⟨_, rfl⟩
      have hrow2 := HROW.out
      rw [hil, List.take_length, ← hf] at hrow2
      have hfl := fine_len l0
      rw [← hf] at hfl
      have hok : ∀ r ∈ f, knd r ≠ 0 := by rw [hf]; exact fine_ok l0
      obtain ⟨A, c, rfl, hc, hC⟩ := Kd.R_reads hrow2.R
      have hsf := sums_f (show f.length ≤ 140737488351232 by have := HL.out; omega) hok (f.length + 1) (by omega)
      rw [show cond (fits f 0 0) (inL f, outL f, true) (0, 0, false) = ((cond (fits f 0 0) (inL f) 0, cond (fits f 0 0) (outL f) 0, fits f 0 0) : Int × Int × Bool) from by cases fits f 0 0 <;> rfl] at hsf
      have HS := Aside0.mk (edit_sums.calls (f.length + 1) A c f _ _ _ wr hC hc hsf)
      have HROW2 := Aside0.mk hrow2
      have HCc := Aside0.mk hc
      have HOK := Aside0.mk hok
      have HF := Aside0.mk hf
      have HFL := Aside0.mk hfl
      have HNM := Aside0.mk (show norm l0 = if fits f 0 0 then (if good (jn f 0 E 0) then jn f 0 E 0 else []) else [] by rw [hf]; rfl)
      clear hlt hil hrow2 hfl hok hC hsf hf hc HROW
      gi_wp2
      refine ⟨trivial, ?_⟩
      refine (callsIn_wide.2 HS.out).mono ?_
      rintro e w2 ⟨rfl, hb2⟩
      have HB2 := Aside0.mk (HB.out.trans (hb2.mono HB.out.size))
      have HX2 := Aside0.mk (show Boxed w2 w.heap.size 22 (.slice none 0 0) from (hb2.block _ HX.out.lt).trans HX.out)
      have HROW3 := Aside0.mk (show RO w2 w.heap.size _ _ from RO.below HROW2.out hb2)
      clear hb2 HB HX HROW2 HS
      cases hfit : fits f 0 0 with
      | false =>
        have HN2 := Aside0.mk (show norm l0 = [] by rw [HNM.out, hfit]; rfl)
        have cO := HX2.out.cell
        have fO := HX2.out.frozen
        clear hfit
        gi_wp2
        have hx3 := HX2.out.set (.slice none 0 0)
        refine ⟨.slice none 0 0, results_c1 rfl _ _ _ _ rfl Try.underlying22 hx3.cell, .slice none 0 0, rfl, ?_, HB2.out.setCell (Nat.le_refl _) _⟩
        rw [HN2.out]; exact Kd.R_nil _ _ _ _ _
      | true =>
        have HFT := Aside0.mk ((fits_iff HOK.out 0 0 (by decide) (by decide)).1 hfit)
        have HN2 := Aside0.mk (show norm l0 = if good (jn f 0 E 0) then jn f 0 E 0 else [] by rw [HNM.out, hfit]; rfl)
        clear hfit
        gi_wp2
        refine ⟨trivial, ?_⟩
        refine (callsIn_wide.2 (joined_c A _ c _)).mono ?_
        rintro e w3 ⟨rfl, hw3⟩
        have HB3 := Aside0.mk (show Below w.heap.size w w3 by rw [hw3]; exact HB2.out.trans (below_alloc (Below.refl _ _) _ |>.mono HB2.out.size))
        have hba : Below w2.heap.size w2 w3 := by rw [hw3]; exact below_alloc (Below.refl _ _) _
        have HX3 := Aside0.mk (show Boxed w3 w.heap.size 22 (.slice none 0 0) from (hba.block _ HX2.out.lt).trans HX2.out)
        have HCf := Aside0.mk (show Kd.C k43 w3 A f.length f from by
          obtain ⟨_, _, h2⟩ := Kd.R_reads' (show Kd.R k43 43 w2 w.heap.size (fun _ => True) (.slice A f.length c) f from HROW3.out.R)
          exact Kd.C_below h2 hba)
        have HT := Aside0.mk (show w3.heap[w2.heap.size]? = some (.cells #[.slice A f.length c] 22 (0, 0)) by rw [hw3]; exact Own.heap_new _ _)
        have HZ := Aside0.mk (show w.heap.size < w3.heap.size from HX3.out.lt)
        have HA := Aside0.mk (show ∀ k, (Value.slice A f.length c).ownBlock = some k → w.heap.size ≤ k ∧ k < w2.heap.size ∧ ∃ cells, w2.heap[k]? = some (.cells cells 43 (0, 0)) from fun k hk => ⟨own_base HROW3.out k hk, own_lt HROW3.out k hk, own_typed HROW3.out k hk⟩)
        have HZ3 := Aside0.mk (show w2.heap.size < w3.heap.size by rw [hw3]; simp)
        clear hba hw3
        gi_wp2
        refine range_g (n := 12) (w := w3) (by decide) (gf := 46) (lb := #[.pointer (some ⟨w2.heap.size, 0, none⟩)]) rfl (enters_of Try.func46 (by kernel_rfl) rfl) (fun r : Rn => #[.agg #[.int .i64 r.f0, .string r.f1, .int .i64 r.f2]]) (fun _ => rfl) (jn f 0 E 0) (Held A c w2.heap.size f)
          (joined_it A c _ f HCc.out HOK.out ⟨by decide, by decide, by have := HFT.out.1; omega, by have := HFT.out.2; rw [E_size]; omega⟩ (by have := HFL.out; have := HL.out; omega)) (Jc w3 w.heap.size) (jc_party HZ.out) ?hK (jc_own (Nat.le_refl _)) (fun _ _ _ => False) (fun _ _ _ _ _ h _ _ => h) ?h0
          (fun x a' W => ∃ Bx, W.heap[Bx]? = some (.cells #[.int .i64 x.f0, .string x.f1, .int .i64 x.f2] 43 (0, 0)) ∧ a' = { tmps := #[.slice A0 l0.length c0, undef, .pointer (some ⟨w.heap.size, 0, none⟩), .slice A f.length c, undef, u5, .int .i64 (inL f), .int .i64 (outL f), .bool true, .pointer (some ⟨Bx, 0, none⟩), .slice A0 l0.length c0, .int .i64 (l0.length : Int), .int .i64 (i : Int), .bool false, u14, u15, u16, u17, u18, u19, u20, u21, u22, u23, .tuple #[.int .i64 (inL f), .int .i64 (outL f), .bool true], .slice A f.length c, .tuple #[.int .i64 (inL f), .int .i64 (outL f), .bool true], .int .i64 (inL f), .int .i64 (outL f), .bool true, .bool true, .bool false, .slice A f.length c, .func (.func 46) #[] #[.pointer (some ⟨w2.heap.size, 0, none⟩)], .agg #[.int .i64 x.f0, .string x.f1, .int .i64 x.f2], undef, undef, undef, undef, undef, undef, undef, undef], defers := [] })
          (fun x a' s W W' row hs hg hr => by obtain ⟨Bx, h1, h2⟩ := hs; exact ⟨Bx, (hg.block Bx (Array.getElem?_eq_some_iff.1 h1).1 (fun e => by obtain ⟨_, q, h3, h4⟩ := hr Bx e.symm; rw [h1] at h3; cases h3; cases h4)).trans h1, h2⟩) ?assign ?body ?done ?stop
        case hK =>
          intro pre G W hj
          refine ⟨(hj.but.block _ HZ3.out (fun e => by injection e with e; have := HX2.out.lt; omega)).trans HT.out, C_same HCf.out fun ad e hp => ?_⟩
          subst e
          obtain ⟨h1, h2, cells, h3⟩ := HA.out ad.block rfl
          refine hj.but.block _ (by have := HZ3.out; omega) (fun e => ?_)
          injection e with e
          have h4 := HX2.out
          unfold Boxed at h4
          rw [← e, h3] at h4
          simp at h4
        case h0 =>
          exact ⟨⟨_, HX3.out, World.ownsRow_nil _ _ _ _, fun k hk => absurd rfl hk⟩, But.refl _ _, fun k o hk => by cases hk⟩
        case assign =>
          intro l pre G x W K hj hK
          gi_wp2
          exact hK _ _ ((KeepsOthers.alloc _ _).from _) ((jc_party HZ.out).below hj (below_alloc (Below.refl _ _) _)) ⟨W.heap.size, Own.heap_new _ _, rfl⟩
        case body =>
          rintro l pre x suf G a' W hLp hj ⟨Bx, hx, rfl⟩
          obtain ⟨o, hb, hrow, hn⟩ := hj.row
          have o0 := hb.cell
          have fo := hb.frozen
          obtain ⟨x0, x1, x2⟩ := blk_cells hx
          have hjl := jn_len f 0 E 0
          have hlen : pre.length + 1 ≤ 4398046511104 := by
            rw [hLp, List.length_append, List.length_cons] at hjl
            have := HFL.out; have := HL.out
            omega
          have HLEN := Aside0.mk hlen
          have HBX := Aside0.mk hb
          have HRW := Aside0.mk hrow
          have HN := Aside0.mk hn
          have HJ := Aside0.mk hj
          clear hx hb hrow hn hj hlen hjl hLp
          gi_wp2_with (gi_at_builtin; refine wpListIn_run (by rfl) (by rfl) HJ.out.but.size (by rfl) HRW.out x (by rfl) HLEN.out ?_; intro v' w8 hg; have hfm := hg.form; obtain ⟨g', cap', rfl⟩ := hfm; obtain ⟨hv1, hk2, hj2⟩ := jc_step HZ.out HBX.out HRW.out HN.out HJ.out.but HJ.out.priv hg; have hc1 := hv1.cell; have hf1 := hv1.frozen; have HK2 := Aside0.mk hk2; have HJ2 := Aside0.mk hj2; clear hg hv1 hk2 hj2)
          exact ⟨HK2.out.from _, HJ2.out⟩
        case done =>
          intro D G W hD hj hK
          obtain ⟨o, hb, hrow, hn⟩ := hj.row
          obtain ⟨L, hL⟩ : ∃ L, L = jn f 0 E 0 := ⟨_, rfl⟩
          have hjl := jn_len f 0 E 0
          rw [← hL] at hrow hjl
          obtain ⟨A2, c2, rfl, hc2, hC2⟩ := Kd.R_reads hrow.R
          have HG := Aside0.mk (edit_Good.calls (L.length + 1) A2 c2 L _ W hC2 hc2 (good_f (by have := HFL.out; have := HL.out; omega) _ (Nat.lt_succ_self _)))
          have HN3 := Aside0.mk (show norm l0 = if good L then L else [] by rw [HN2.out, hL])
          have o0 := hb.cell
          have HBX := Aside0.mk hb
          have HRW := Aside0.mk hrow
          have HBUT := Aside0.mk hj.but
          have HD := Aside0.mk hD
          have HKD := Aside0.mk hK
          clear hb hrow hn hj hD hK hC2 hc2 hjl hL
          gi_wp2
          refine ⟨trivial, ?_⟩
          refine (callsIn_wide.2 HG.out).mono ?_
          rintro e W2 ⟨rfl, hb2⟩
          have hx2 : Boxed W2 w.heap.size 22 (.slice A2 L.length c2) := (hb2.block _ HBX.out.lt).trans HBX.out
          have hrw2 : RO W2 w3.heap.size (.slice A2 L.length c2) L := RO.below HRW.out hb2
          have hk2 : W2.heap[D]? = some (.deferred (some [])) := (hb2.block _ (Array.getElem?_eq_some_iff.1 HKD.out).1).trans HKD.out
          have HX2 := Aside0.mk hx2
          have HRW2 := Aside0.mk hrw2
          have HK2 := Aside0.mk hk2
          have HBW := Aside0.mk (show Below w.heap.size w W2 from HB3.out.trans ⟨hb2.os.trans HBUT.out.os, hb2.tape.trans HBUT.out.tape, hb2.output.trans HBUT.out.output, Nat.le_trans HBUT.out.size hb2.size, fun k hk => (hb2.block k (by have := HBUT.out.size; have := HZ.out; omega)).trans (HBUT.out.block k (by have := HZ.out; omega) (fun e => by injection e with e; omega))⟩)
          have cO := hx2.cell
          have fO := hx2.frozen
          clear hb2 hx2 hrw2 hk2 o0
          have hDO : D ≠ w.heap.size := by have := HD.out; have := HZ.out; omega
          have HDO := Aside0.mk hDO
          clear hDO
          have fin : ∀ (tm : Array Value) (u : Value), tm.getD 2 undef = .pointer (some ⟨w.heap.size, 0, none⟩) → (results Try.f25 tm).run Try.prog ((W2.setCell ⟨w.heap.size, 0, none⟩ u).putObj D (.deferred none)) = .ok u ((W2.setCell ⟨w.heap.size, 0, none⟩ u).putObj D (.deferred none)) := fun tm u htm => by
            have hbx := (HX2.out.set u).kept (grownBy_putObj' _ D (.deferred none)) (fun e => by have := HDO.out; injection e with e; omega)
            exact results_c1 rfl _ _ _ _ htm Try.underlying22 hbx.cell
          have hbelow : ∀ u, Below w.heap.size w ((W2.setCell ⟨w.heap.size, 0, none⟩ u).putObj D (.deferred none)) := fun u =>
            (HBW.out.setCell (Nat.le_refl _) u).trans ⟨rfl, rfl, rfl, by simp, fun k hk => World.putObj_heap_other (by have := HD.out; have := HZ.out; omega)⟩
          have hkd : ∀ u, (W2.setCell ⟨w.heap.size, 0, none⟩ u).heap[D]? = some (.deferred (some [])) := fun u => (Below.heap_setCell _ _ _ _ HDO.out).trans HK2.out
          have FIN := Aside0.mk fin
          have HBE := Aside0.mk hbelow
          have HKE := Aside0.mk hkd
          clear fin hbelow hkd
          cases hgd : good L with
          | false =>
            have HN4 := Aside0.mk (show norm l0 = [] by rw [HN3.out, hgd]; rfl)
            clear hgd
            gi_wp2
            refine ⟨by simp, .inl ⟨_, _, rfl, run_takeDeferred (HKE.out _), ?_⟩⟩
            exact ⟨_, FIN.out _ _ rfl, _, rfl, by rw [HN4.out]; exact Kd.R_nil _ _ _ _ _, HBE.out _⟩
          | true =>
            have HN4 := Aside0.mk (show norm l0 = L by rw [HN3.out, hgd]; rfl)
            clear hgd
            gi_wp2
            refine ⟨by simp, .inl ⟨_, _, rfl, run_takeDeferred (HKE.out _), ?_⟩⟩
            refine ⟨_, FIN.out _ _ rfl, _, rfl, ?_, HBE.out _⟩
            rw [HN4.out]
            have h1 : RO (W2.setCell ⟨w.heap.size, 0, none⟩ (.slice A2 L.length c2)) w3.heap.size (.slice A2 L.length c2) L := HRW2.out.kept (grownBy_setCell' W2 _ _) (.inr (HX2.out.not_row (by decide) HRW2.out).symm)
            exact RO.R (World.ownsRow.mono (ownsRow_putObj h1 _ (HKE.out _) rfl) (Nat.le_of_lt HZ.out))
        case stop =>
          rintro D c s W _ h _
          exact h.elim
theorem norm_c (A0 : Option Addr) (c0 : Nat) (l0 : List Rn) (w : World) (hr0 : Kd.C k43 w A0 l0.length l0) (hc0 : l0.length ≤ c0) (hl : l0.length ≤ 4000000) :
    Calls Try.prog 25 #[.slice A0 l0.length c0] w fun e w' => ∃ v0_ : Value, e = .returned (v0_) ∧ Kd.R k43 43 w' w.heap.size (fun _ => True) v0_ (norm l0) ∧ Below w.heap.size w w' := norm_w A0 c0 l0 w hr0 hc0 hl
end Go.Proofs.Ytbfdplmgefcogaa.EditN
end

import Derived.Test.YthocalfgeaclgaaRows
import Derived.Test.YthocalfgeaclgaaYF
import Derived.Test.YthocalfgeaclgaaYE
import Derived.Test.YthocalfgeaclgaaYA
import Derived.Test.YthocalfgeaclgaaYD
import Derived.WalkKit
import Derived.ProofKit
import Derived.OpenShut
import Derived.ShutString
import Derived.ChangeOld
import Derived.Below
import Derived.SizedLaws
import Derived.Test.YthocalfgeaclgaaWSized
-- MERGED YthocalfgeaclgaaPplaceSpans
section

namespace Go.Proofs.Ythocalfgeaclgaa.P
open Go.RowKit Go.Proofs.YthocalfgeaclgaaW.PrintWords Go.Proofs.YthocalfgeaclgaaW.PrintLast Go.Proofs.YthocalfgeaclgaaW.PrintMore
attribute [local go_sem] max2_int min2_int max_two min_two max_three min_three max_four min_four
set_option linter.unusedVariables false
set_option linter.unusedSimpArgs false
def jj21.l0 : Nat → List (S37) → List (S24) → List (S24) → Int → Int → Option ((List (S24)) × Bool)
 | 0, _, _, _, _, _ => none
 | k + 1, x0, x4, x10, x11, x12 => if x12 < x11 then (if 0 ≤ x12 then (if x12 < (x10.length : Int) then ((jj20.f x0 ((rd_T24 x10 x12).f0) ((rd_T24 x10 x12).f1)).bind fun bt305 => (if bt305.2.2 = true then (if x4.length < 8796093022208 then (jj21.l0 k x0 (x4 ++ [(⟨bt305.1, bt305.2.1⟩ : S24)]) x10 x11 (wrap64 (x12 + 1))) else (none)) else (some (([] : List (S24)), false)))) else (none)) else (none)) else (some (x4, true))
def jj21.f (k : Nat) (l0 : List (S37)) (l1 : List (S24)) : Option ((List (S24)) × Bool) := jj21.l0 k l0 ([] : List (S24)) l1 (l1.length : Int) 0
theorem jj21.mono_l : ∀ k, (∀ y0 y1 y2 y3 y4, LeO (jj21.l0 k y0 y1 y2 y3 y4) (jj21.l0 (k + 1) y0 y1 y2 y3 y4))
 | 0 => fun _ _ _ _ _ r h => by simp [jj21.l0] at h
 | k + 1 => by
  have ih0 := jj21.mono_l k
  ·intro y0 y1 y2 y3 y4
   unfold jj21.l0
   repeat' first | (with_reducible exact ih0 _ _ _ _ _) | (with_reducible exact LeO.refl _) | (with_reducible refine LeO.ite ?_ ?_) | (with_reducible refine LeO.bind ?_ (fun _ => ?_))
theorem jj21.mono : ∀ a0 a1 k, LeO (jj21.f k a0 a1) (jj21.f (k + 1) a0 a1) := by
 intro a0 a1 k
 have ih0 := jj21.mono_l k
 unfold jj21.f
 repeat' (with_reducible exact ih0 _ _ _ _ _)
set_option maxHeartbeats 8000000 in
set_option maxRecDepth 100000 in
theorem jj21.calls (k : Nat) (A0 : Option Addr) (c0 : Nat) (l0 : List (S37)) (A1 : Option Addr) (c1 : Nat) (l1 : List (S24)) (r1 : List (S24)) (r2 : Bool) (w : World) (hr0 : Kd.C k37 w A0 l0.length l0) (hc0 : l0.length ≤ c0) (hr1 : Kd.C k24 w A1 l1.length l1) (hc1 : l1.length ≤ c1) (h : jj21.f k l0 l1 = some (r1, r2)) :
  Calls Try.prog 28 #[.slice A0 l0.length c0, .slice A1 l1.length c1] w fun e w' => ∃ v0_ : Value, e = .returned (.tuple #[v0_, .bool r2]) ∧ Kd.R k24 24 w' w.heap.size (fun _ => True) v0_ r1 ∧ Below w.heap.size w w' := by
 have hu24 := Try.underlying24
 have HR0 := Aside0.mk hr0
 have HC0 := Aside0.mk hc0
 clear hr0 hc0
 have HR1 := Aside0.mk hr1
 have HC1 := Aside0.mk hc1
 clear hr1 hc1
 have HB := Aside0.mk (Below.refl w.heap.size w)
 have H : (jj21.l0 k l0 ([] : List (S24)) l1 (l1.length : Int) 0) = some (r1, r2) := h
 clear h
 have H' := Aside0.mk H
 clear H
 go_enter Try.func28, Try.ntmps28
 go_wp2
 go_loopg [4, 12] k (fun kq v4 v12 w' => ∃ (x4_1 : List (S24)) (x12_1 : Int), v12 = .int .i64 x12_1 ∧ Aside0 (jj21.l0 kq l0 x4_1 l1 (l1.length : Int) x12_1 = some (r1, r2)) ∧ Aside0 (kq ≤ k) ∧ Aside0 (Kd.R k24 24 w' w.heap.size (fun _ => True) v4 x4_1) ∧ Aside0 (Below w.heap.size w w'))
 case atStart => exact ⟨(([] : List (S24))), (0), (by (rfl)), H', ⟨Nat.le_refl _⟩, ⟨by (exact Kd.R_nil _ _ _ _ _)⟩, ⟨by repeat ((with_reducible (exact HB.out)))⟩⟩
 case round =>
  clear H'
  try clear c1
  try clear c2
  try clear p2
  obtain ⟨x4_1, x12_1, rfl, HA, HK1, HO_4, HB⟩ := hrel
  cases gk with
  | zero => exact absurd HA.out (by simp [jj21.l0])
  | succ k1 =>
   have H := HA.out
   clear HA
   simp only [jj21.l0] at H
   by_cases c3 : x12_1 < (l1.length : Int)
   ·rw [if_pos c3] at H
    have c3b0 : decide (x12_1 < (l1.length : Int)) = true := decide_eq_true c3
    clear c3
    by_cases c4 : 0 ≤ x12_1
    ·rw [if_pos c4] at H
     have c4b0 : decide (0 ≤ x12_1) = true := decide_eq_true c4
     clear c4
     by_cases c5 : x12_1 < (l1.length : Int)
     ·rw [if_pos c5] at H
      have c5b0 : decide (x12_1 < (l1.length : Int)) = true := decide_eq_true c5
      clear c5
      replace H := Option.bind_eq_some_iff.mp H
      obtain ⟨⟨t305, t306, t307⟩, A60, H⟩ := H
      replace H : (if t307 = true then (if x4_1.length < 8796093022208 then (jj21.l0 k1 l0 (x4_1 ++ [(⟨t305, t306⟩ : S24)]) l1 (l1.length : Int) (wrap64 (x12_1 + 1))) else (none)) else (some (([] : List (S24)), false))) = some (r1, r2) := H
      have A6 := Aside0.mk A60
      clear A60
      by_cases c7 : t307 = true
      ·subst c7
       have H1 : (if x4_1.length < 8796093022208 then (jj21.l0 k1 l0 (x4_1 ++ [(⟨t305, t306⟩ : S24)]) l1 (l1.length : Int) (wrap64 (x12_1 + 1))) else (none)) = some (r1, r2) := by rw [if_pos rfl] at H; exact H
       clear H
       have H := H1
       clear H1
       by_cases c8 : x4_1.length < 8796093022208
       ·rw [if_pos c8] at H
        have LMc8 := Aside0.mk c8
        clear c8
        obtain ⟨y309, hy309⟩ : ∃ y_ : List (S24), y_ = (x4_1 ++ [(⟨t305, t306⟩ : S24)]) := ⟨_, rfl⟩
        replace H : (jj21.l0 k1 l0 y309 l1 (l1.length : Int) (wrap64 (x12_1 + 1))) = some (r1, r2) := by (rw [hy309]; with_reducible exact H)
        have Ny309 := Aside0.mk hy309
        clear hy309
        have H' := Aside0.mk H
        clear H
        have p303 : 0 ≤ (x12_1 : Int) := of_decide_eq_true (by (with_reducible assumption))
        have q303 : x12_1 < (l1.length : Int) := of_decide_eq_true (by (with_reducible assumption))
        obtain ⟨ad303, e303, hx303_0, hx303_1⟩ := at_T24 HR1.out x12_1 p303 q303
        cases e303
        replace hx303_0 := (HB.out.cell (World.block_lt_of_cell? w _ hx303_0)).trans hx303_0
        replace hx303_1 := (HB.out.cell (World.block_lt_of_cell? w _ hx303_1)).trans hx303_1
        replace p303 := eq_true p303
        replace q303 := eq_true q303
        go_wp2_with (first | ((with_reducible refine gate_dst (N := 7) rfl ?_); refine box_event ?hg (N := 7) ?hd (cs := #[.int .i64 0, .int .i64 0]) (t := 24) ?hr ?_; (case hd => rfl); (case hg => rfl); (case hr => (go_simp; done)); intro gb304 hg w9 hbox hb; have n0_ := Aside0.mk (Kd.R_below (Kd.R_elderB (by (with_reducible repeat ((apply Kd.R_drew))); exact HO_4.out) gb304 (Nat.le_of_eq hg.symm)) hb); have n1_ := Aside0.mk (below_step (by repeat ((with_reducible (exact HB.out)))) hb); have n2_ := Aside0.mk (hbox); have n3_ := Aside0.mk ((by rw [hg]; exact (below_size (by repeat ((with_reducible (exact HB.out))))) : w.heap.size ≤ gb304)); have n4_ := Aside0.mk ((by rw [hg]; exact (below_size (by repeat ((with_reducible (exact HB.out))))) : w.heap.size ≤ gb304)); clear HO_4; clear HB; have HO_4 := n0_; have HB := n1_; have BK304 := n2_; have GW304 := n3_; have GE304 := n4_; clear n0_ n1_ n2_ n3_ n4_; clear hb hbox hg; have hcz10_0 : w9.cell? ⟨gb304, 0, none⟩ = some (.int .i64 0) := (blk_cell BK304.out 0).trans rfl; have hcz10_1 : w9.cell? ⟨gb304, 1, none⟩ = some (.int .i64 0) := (blk_cell BK304.out 1).trans rfl; have hfz10_0 := blk_frozen BK304.out 0; have hfz10_1 := blk_frozen BK304.out 1) | ((with_reducible refine gate_callee (f := 16) rfl ?_); refine goesL_ (some 19) rfl rfl Try.func16 (by kernel_rfl) rfl #[.slice A0 l0.length c0, .agg #[.int .i64 ((rd_T24 l1 x12_1).f0), .int .i64 ((rd_T24 l1 x12_1).f1)]] rfl (by (try simp only [List.map_toArray, List.map_cons, List.map_nil]); (rfl)) ?_; (with_reducible refine (jj20.calls _ _ l0 ((rd_T24 l1 x12_1).f0) ((rd_T24 l1 x12_1).f1) t305 t306 true _ ?side1 ?side2 A6.out).mono ?_); (case side1 => exact Kd.C_below HR0.out (by repeat ((with_reducible first | exact HB.out | refine below_set ?_ GE304.out)))); (case side2 => exact HC0.out); rintro e w11 ⟨rfl, hb⟩; refine ⟨_, rfl, ?_⟩; have n0_ := Aside0.mk (Kd.R_below (by (with_reducible repeat ((apply Kd.R_drew))); exact (Kd.R_mono (Kd.R_far (p := ⟨gb304, 1, none⟩) (Kd.R_far (p := ⟨gb304, 0, none⟩) (Kd.R_mono HO_4.out (fun k_ hk => (⟨hk, hk.2⟩ : _ ∧ k_ ≠ gb304))) (fun _ hk => hk.2) (.int .i64 ((rd_T24 l1 x12_1).f0))) (fun _ hk => hk.2) (.int .i64 ((rd_T24 l1 x12_1).f1))) (fun _ h_ => h_.1))) hb); have n1_ := Aside0.mk (blk_below (g := gb304) (o := .cells #[.int .i64 ((rd_T24 l1 x12_1).f0), .int .i64 ((rd_T24 l1 x12_1).f1)] 24 (0, 0)) (by (with_reducible repeat ((refine blk_drew ?_))); refine blk_put (cs := #[.int .i64 ((rd_T24 l1 x12_1).f0), .int .i64 0]) ?_ 1 _ rfl; (with_reducible repeat ((refine blk_drew ?_))); refine blk_put (cs := #[.int .i64 0, .int .i64 0]) ?_ 0 _ rfl; (with_reducible repeat ((refine blk_drew ?_))); exact BK304.out) hb); have n2_ := Aside0.mk (below_step (by repeat ((with_reducible first | exact HB.out | refine below_set ?_ GE304.out))) hb); clear HO_4; clear BK304; clear HB; have HO_4 := n0_; have BK304 := n1_; have HB := n2_; clear n0_ n1_ n2_; (try clear hb); (try clear hb2); (try clear hk); (try clear hi)) | ((with_reducible refine gate_dst (N := 8) rfl ?_); refine box_event ?hg (N := 8) ?hd (cs := #[.int .i64 0, .int .i64 0]) (t := 24) ?hr ?_; (case hd => rfl); (case hg => rfl); (case hr => (go_simp; done)); intro gb308 hg w12 hbox hb; have n0_ := Aside0.mk (Kd.R_below (Kd.R_elderB (by (with_reducible repeat ((apply Kd.R_drew))); exact HO_4.out) gb308 (Nat.le_of_eq hg.symm)) hb); have n1_ := Aside0.mk (blk_below (g := gb304) (o := .cells #[.int .i64 ((rd_T24 l1 x12_1).f0), .int .i64 ((rd_T24 l1 x12_1).f1)] 24 (0, 0)) (by (with_reducible repeat ((refine blk_drew ?_))); exact BK304.out) hb); have n2_ := Aside0.mk (below_step (by repeat ((with_reducible (exact HB.out)))) hb); have n3_ := Aside0.mk (hbox); have n4_ := Aside0.mk ((by rw [hg]; exact (below_size (by repeat ((with_reducible (exact HB.out))))) : w.heap.size ≤ gb308)); have n5_ := Aside0.mk ((by rw [hg]; exact (below_size (by repeat ((with_reducible (exact HB.out))))) : w.heap.size ≤ gb308)); have n6_ := Aside0.mk ((by rw [hg]; exact Nat.ne_of_lt (blk_lt (g := gb304) (o := .cells #[.int .i64 ((rd_T24 l1 x12_1).f0), .int .i64 ((rd_T24 l1 x12_1).f1)] 24 (0, 0)) (by (with_reducible repeat ((refine blk_drew ?_))); exact BK304.out)) : gb304 ≠ gb308)); have n7_ := Aside0.mk ((by rw [hg]; exact Nat.ne_of_gt (blk_lt (g := gb304) (o := .cells #[.int .i64 ((rd_T24 l1 x12_1).f0), .int .i64 ((rd_T24 l1 x12_1).f1)] 24 (0, 0)) (by (with_reducible repeat ((refine blk_drew ?_))); exact BK304.out)) : gb308 ≠ gb304)); clear HO_4; clear BK304; clear HB; have HO_4 := n0_; have BK304 := n1_; have HB := n2_; have BK308 := n3_; have GW308 := n4_; have GE308 := n5_; have NB304_308 := n6_; have NB308_304 := n7_; clear n0_ n1_ n2_ n3_ n4_ n5_ n6_ n7_; clear hb hbox hg; have hnb13 := NB308_304.out; have hnc13 := NB304_308.out; have hcz14_0 : w12.cell? ⟨gb308, 0, none⟩ = some (.int .i64 0) := (blk_cell BK308.out 0).trans rfl; have hcz14_1 : w12.cell? ⟨gb308, 1, none⟩ = some (.int .i64 0) := (blk_cell BK308.out 1).trans rfl; have hfz14_0 := blk_frozen BK308.out 0; have hfz14_1 := blk_frozen BK308.out 1) | ((with_reducible refine gate_builtin (b := .append) (xs := #[.tmp 24, .tmp 26]) rfl ?_); at_builtin; refine Kd.R_append k24 (w0 := w) w.heap.size rfl (.tmp 24) (.tmp 26) 40 24 (.agg #[(.int .i64 0), (.int .i64 0)]) 16 rfl Try.underlying40 info24 rfl (by decide) (by omega) u4 x4_1 (⟨t305, t306⟩ : S24) [.int .i64 t305, .int .i64 t306] (fun k_ => k_ ≠ gb304 ∧ k_ ≠ gb308) (fun _ => False) rfl (by (go_simp; done)) ?aP (fun _ hk => hk.elim) ?aF ?aO ?aB ?aS ?aL ?_; (case aP => exact k24_mkM _ _ _ (⟨t305, t306⟩ : S24)); (case aB => exact (by repeat ((with_reducible first | exact HB.out | refine below_set ?_ GE308.out)))); (case aF => exact (fun k_ hk => ⟨Kd.freshB (g := gb304) (o := .cells #[.int .i64 ((rd_T24 l1 x12_1).f0), .int .i64 ((rd_T24 l1 x12_1).f1)] 24 (0, 0)) (by (with_reducible repeat ((refine blk_drew ?_))); refine blk_far ?_ NB304_308.out _; (with_reducible repeat ((refine blk_drew ?_))); refine blk_far ?_ NB304_308.out _; (with_reducible repeat ((refine blk_drew ?_))); exact BK304.out) k_ hk, Kd.freshB (g := gb308) (o := .cells #[.int .i64 t305, .int .i64 t306] 24 (0, 0)) (by (with_reducible repeat ((refine blk_drew ?_))); refine blk_put (cs := #[.int .i64 t305, .int .i64 0]) ?_ 1 _ rfl; (with_reducible repeat ((refine blk_drew ?_))); refine blk_put (cs := #[.int .i64 0, .int .i64 0]) ?_ 0 _ rfl; (with_reducible repeat ((refine blk_drew ?_))); exact BK308.out) k_ hk⟩)); (case aO => exact (by (with_reducible repeat ((apply Kd.R_drew))); exact Kd.R_mono (Kd.R_far (p := ⟨gb308, 1, none⟩) (Kd.R_far (p := ⟨gb308, 0, none⟩) (Kd.R_mono HO_4.out (fun k_ hk => (⟨hk, hk.2⟩ : _ ∧ k_ ≠ gb308))) (fun _ hk => hk.2) (.int .i64 t305)) (fun _ hk => hk.2) (.int .i64 t306)) (fun _ hk => ⟨hk.1.1.2, hk.1.2⟩))); (case aS => exact (below_size (by repeat ((with_reducible first | exact HB.out | refine below_set ?_ GE308.out))))); (case aL => have := LMc8.out; omega); intro v310 w15 ho hb hg hat; rw [← Ny309.out] at ho; have n0_ := Aside0.mk (blk_grown (g := gb304) (o := .cells #[.int .i64 ((rd_T24 l1 x12_1).f0), .int .i64 ((rd_T24 l1 x12_1).f1)] 24 (0, 0)) (by (with_reducible repeat ((refine blk_drew ?_))); refine blk_far ?_ NB304_308.out _; (with_reducible repeat ((refine blk_drew ?_))); refine blk_far ?_ NB304_308.out _; (with_reducible repeat ((refine blk_drew ?_))); exact BK304.out) hg (Kd.R_away HO_4.out (fun _ hk => hk.1.2))); have n1_ := Aside0.mk (blk_grown (g := gb308) (o := .cells #[.int .i64 t305, .int .i64 t306] 24 (0, 0)) (by (with_reducible repeat ((refine blk_drew ?_))); refine blk_put (cs := #[.int .i64 t305, .int .i64 0]) ?_ 1 _ rfl; (with_reducible repeat ((refine blk_drew ?_))); refine blk_put (cs := #[.int .i64 0, .int .i64 0]) ?_ 0 _ rfl; (with_reducible repeat ((refine blk_drew ?_))); exact BK308.out) hg (Kd.R_away HO_4.out (fun _ hk => hk.2))); have n2_ := Aside0.mk (hb); have n3_ := Aside0.mk (ho); clear BK304; clear BK308; clear HB; clear HO_4; have BK304 := n0_; have BK308 := n1_; have HB := n2_; have HO311 := n3_; clear n0_ n1_ n2_ n3_; clear ho hb hg hat))
        go_roundg k1
        case measure => have := HK1.out; omega
        case rel => exact ⟨(y309), (wrap64 (x12_1 + 1)), (by (rfl)), H', ⟨by have := HK1.out; omega⟩, ⟨by (with_reducible repeat ((apply Kd.R_drew))); exact Kd.R_mono HO311.out (fun _ hk => trivial)⟩, ⟨by repeat ((with_reducible (exact HB.out)))⟩⟩
       ·rw [if_neg c8] at H
        exact absurd H (by simp)
      ·replace c7 := Bool.eq_false_iff.mpr c7
       subst c7
       have H1 : (some (([] : List (S24)), false)) = some (r1, r2) := by rw [if_neg (show ¬ (false = true) by decide)] at H; exact H
       clear H
       have H := H1
       clear H1
       simp only [Option.some.injEq, Prod.mk.injEq] at H
       obtain ⟨rfl, rfl⟩ := H
       have p303 : 0 ≤ (x12_1 : Int) := of_decide_eq_true (by (with_reducible assumption))
       have q303 : x12_1 < (l1.length : Int) := of_decide_eq_true (by (with_reducible assumption))
       obtain ⟨ad303, e303, hx303_0, hx303_1⟩ := at_T24 HR1.out x12_1 p303 q303
       cases e303
       replace hx303_0 := (HB.out.cell (World.block_lt_of_cell? w _ hx303_0)).trans hx303_0
       replace hx303_1 := (HB.out.cell (World.block_lt_of_cell? w _ hx303_1)).trans hx303_1
       replace p303 := eq_true p303
       replace q303 := eq_true q303
       go_wp2_with (first | ((with_reducible refine gate_dst (N := 7) rfl ?_); refine box_event ?hg (N := 7) ?hd (cs := #[.int .i64 0, .int .i64 0]) (t := 24) ?hr ?_; (case hd => rfl); (case hg => rfl); (case hr => (go_simp; done)); intro gb304 hg w16 hbox hb; have n0_ := Aside0.mk (Kd.R_below (Kd.R_elderB (by (with_reducible repeat ((apply Kd.R_drew))); exact HO_4.out) gb304 (Nat.le_of_eq hg.symm)) hb); have n1_ := Aside0.mk (below_step (by repeat ((with_reducible (exact HB.out)))) hb); have n2_ := Aside0.mk (hbox); have n3_ := Aside0.mk ((by rw [hg]; exact (below_size (by repeat ((with_reducible (exact HB.out))))) : w.heap.size ≤ gb304)); have n4_ := Aside0.mk ((by rw [hg]; exact (below_size (by repeat ((with_reducible (exact HB.out))))) : w.heap.size ≤ gb304)); clear HO_4; clear HB; have HO_4 := n0_; have HB := n1_; have BK304 := n2_; have GW304 := n3_; have GE304 := n4_; clear n0_ n1_ n2_ n3_ n4_; clear hb hbox hg; have hcz17_0 : w16.cell? ⟨gb304, 0, none⟩ = some (.int .i64 0) := (blk_cell BK304.out 0).trans rfl; have hcz17_1 : w16.cell? ⟨gb304, 1, none⟩ = some (.int .i64 0) := (blk_cell BK304.out 1).trans rfl; have hfz17_0 := blk_frozen BK304.out 0; have hfz17_1 := blk_frozen BK304.out 1) | ((with_reducible refine gate_callee (f := 16) rfl ?_); refine goesL_ (some 19) rfl rfl Try.func16 (by kernel_rfl) rfl #[.slice A0 l0.length c0, .agg #[.int .i64 ((rd_T24 l1 x12_1).f0), .int .i64 ((rd_T24 l1 x12_1).f1)]] rfl (by (try simp only [List.map_toArray, List.map_cons, List.map_nil]); (rfl)) ?_; (with_reducible refine (jj20.calls _ _ l0 ((rd_T24 l1 x12_1).f0) ((rd_T24 l1 x12_1).f1) t305 t306 false _ ?side1 ?side2 A6.out).mono ?_); (case side1 => exact Kd.C_below HR0.out (by repeat ((with_reducible first | exact HB.out | refine below_set ?_ GE304.out)))); (case side2 => exact HC0.out); rintro e w18 ⟨rfl, hb⟩; refine ⟨_, rfl, ?_⟩; have n0_ := Aside0.mk (Kd.R_below (by (with_reducible repeat ((apply Kd.R_drew))); exact (Kd.R_mono (Kd.R_far (p := ⟨gb304, 1, none⟩) (Kd.R_far (p := ⟨gb304, 0, none⟩) (Kd.R_mono HO_4.out (fun k_ hk => (⟨hk, hk.2⟩ : _ ∧ k_ ≠ gb304))) (fun _ hk => hk.2) (.int .i64 ((rd_T24 l1 x12_1).f0))) (fun _ hk => hk.2) (.int .i64 ((rd_T24 l1 x12_1).f1))) (fun _ h_ => h_.1))) hb); have n1_ := Aside0.mk (blk_below (g := gb304) (o := .cells #[.int .i64 ((rd_T24 l1 x12_1).f0), .int .i64 ((rd_T24 l1 x12_1).f1)] 24 (0, 0)) (by (with_reducible repeat ((refine blk_drew ?_))); refine blk_put (cs := #[.int .i64 ((rd_T24 l1 x12_1).f0), .int .i64 0]) ?_ 1 _ rfl; (with_reducible repeat ((refine blk_drew ?_))); refine blk_put (cs := #[.int .i64 0, .int .i64 0]) ?_ 0 _ rfl; (with_reducible repeat ((refine blk_drew ?_))); exact BK304.out) hb); have n2_ := Aside0.mk (below_step (by repeat ((with_reducible first | exact HB.out | refine below_set ?_ GE304.out))) hb); clear HO_4; clear BK304; clear HB; have HO_4 := n0_; have BK304 := n1_; have HB := n2_; clear n0_ n1_ n2_; (try clear hb); (try clear hb2); (try clear hk); (try clear hi)) | ((with_reducible refine gate_dst (N := 8) rfl ?_); refine box_event ?hg (N := 8) ?hd (cs := #[.int .i64 0, .int .i64 0]) (t := 24) ?hr ?_; (case hd => rfl); (case hg => rfl); (case hr => (go_simp; done)); intro gb308 hg w19 hbox hb; have n0_ := Aside0.mk (Kd.R_below (Kd.R_elderB (by (with_reducible repeat ((apply Kd.R_drew))); exact HO_4.out) gb308 (Nat.le_of_eq hg.symm)) hb); have n1_ := Aside0.mk (blk_below (g := gb304) (o := .cells #[.int .i64 ((rd_T24 l1 x12_1).f0), .int .i64 ((rd_T24 l1 x12_1).f1)] 24 (0, 0)) (by (with_reducible repeat ((refine blk_drew ?_))); exact BK304.out) hb); have n2_ := Aside0.mk (below_step (by repeat ((with_reducible (exact HB.out)))) hb); have n3_ := Aside0.mk (hbox); have n4_ := Aside0.mk ((by rw [hg]; exact (below_size (by repeat ((with_reducible (exact HB.out))))) : w.heap.size ≤ gb308)); have n5_ := Aside0.mk ((by rw [hg]; exact (below_size (by repeat ((with_reducible (exact HB.out))))) : w.heap.size ≤ gb308)); have n6_ := Aside0.mk ((by rw [hg]; exact Nat.ne_of_lt (blk_lt (g := gb304) (o := .cells #[.int .i64 ((rd_T24 l1 x12_1).f0), .int .i64 ((rd_T24 l1 x12_1).f1)] 24 (0, 0)) (by (with_reducible repeat ((refine blk_drew ?_))); exact BK304.out)) : gb304 ≠ gb308)); have n7_ := Aside0.mk ((by rw [hg]; exact Nat.ne_of_gt (blk_lt (g := gb304) (o := .cells #[.int .i64 ((rd_T24 l1 x12_1).f0), .int .i64 ((rd_T24 l1 x12_1).f1)] 24 (0, 0)) (by (with_reducible repeat ((refine blk_drew ?_))); exact BK304.out)) : gb308 ≠ gb304)); clear HO_4; clear BK304; clear HB; have HO_4 := n0_; have BK304 := n1_; have HB := n2_; have BK308 := n3_; have GW308 := n4_; have GE308 := n5_; have NB304_308 := n6_; have NB308_304 := n7_; clear n0_ n1_ n2_ n3_ n4_ n5_ n6_ n7_; clear hb hbox hg; have hnb20 := NB308_304.out; have hnc20 := NB304_308.out; have hcz21_0 : w19.cell? ⟨gb308, 0, none⟩ = some (.int .i64 0) := (blk_cell BK308.out 0).trans rfl; have hcz21_1 : w19.cell? ⟨gb308, 1, none⟩ = some (.int .i64 0) := (blk_cell BK308.out 1).trans rfl; have hfz21_0 := blk_frozen BK308.out 0; have hfz21_1 := blk_frozen BK308.out 1))
       go_ret2
       exact ⟨_, by (rfl), by (exact Kd.R_nil _ _ _ _ _), by repeat ((with_reducible first | exact HB.out | refine below_set ?_ GE308.out))⟩
     ·rw [if_neg c5] at H
      exact absurd H (by simp)
    ·rw [if_neg c4] at H
     exact absurd H (by simp)
   ·rw [if_neg c3] at H
    have c3b0 : decide (x12_1 < (l1.length : Int)) = false := decide_eq_false c3
    clear c3
    simp only [Option.some.injEq, Prod.mk.injEq] at H
    obtain ⟨rfl, rfl⟩ := H
    go_wp2
    go_ret2
    exact ⟨_, by (rfl), by (with_reducible repeat ((apply Kd.R_drew))); exact HO_4.out, by repeat ((with_reducible (exact HB.out)))⟩
end Go.Proofs.Ythocalfgeaclgaa.P
end
-- MERGED YthocalfgeaclgaaPplaceOver
section

namespace Go.Proofs.Ythocalfgeaclgaa.P
open Go.RowKit Go.Proofs.YthocalfgeaclgaaW.PrintWords Go.Proofs.YthocalfgeaclgaaW.PrintLast Go.Proofs.YthocalfgeaclgaaW.PrintMore
attribute [local go_sem] max2_int min2_int max_two min_two max_three min_three max_four min_four
set_option linter.unusedVariables false
set_option linter.unusedSimpArgs false
def jj19.l0 : Nat → List (List (S37)) → Int → Int → Int → Int → Option (Int × Int × Bool)
 | 0, _, _, _, _, _ => none
 | k + 1, x10, x11, x12, x313000, x313001 => if x12 < x11 then (if 0 ≤ x12 then (if x12 < (x10.length : Int) then ((jj20.f (rd_L3 x10 x12) x313000 x313001).bind fun bt315 => (if bt315.2.2 = true then (jj19.l0 k x10 x11 (wrap64 (x12 + 1)) bt315.1 bt315.2.1) else (some (0, 0, false)))) else (none)) else (none)) else (some (x313000, x313001, true))
def jj19.f (k : Nat) (l0 : List (List (S37))) (a1_0 : Int) (a1_1 : Int) : Option (Int × Int × Bool) := jj19.l0 k l0 (l0.length : Int) 0 a1_0 a1_1
theorem jj19.mono_l : ∀ k, (∀ y0 y1 y2 y3 y4, LeO (jj19.l0 k y0 y1 y2 y3 y4) (jj19.l0 (k + 1) y0 y1 y2 y3 y4))
 | 0 => fun _ _ _ _ _ r h => by simp [jj19.l0] at h
 | k + 1 => by
  have ih0 := jj19.mono_l k
  ·intro y0 y1 y2 y3 y4
   unfold jj19.l0
   repeat' first | (with_reducible exact ih0 _ _ _ _ _) | (with_reducible exact LeO.refl _) | (with_reducible refine LeO.ite ?_ ?_) | (with_reducible refine LeO.bind ?_ (fun _ => ?_))
theorem jj19.mono : ∀ a0 a1 a2 k, LeO (jj19.f k a0 a1 a2) (jj19.f (k + 1) a0 a1 a2) := by
 intro a0 a1 a2 k
 have ih0 := jj19.mono_l k
 unfold jj19.f
 repeat' (with_reducible exact ih0 _ _ _ _ _)
set_option maxHeartbeats 8000000 in
set_option maxRecDepth 100000 in
theorem jj19.calls (k : Nat) (A0 : Option Addr) (c0 : Nat) (l0 : List (List (S37))) (a1_0 : Int) (a1_1 : Int) (r1 : Int) (r2 : Int) (r3 : Bool) (w : World) (hr0 : Kd.C (Kd.slice 37 k37) w A0 l0.length l0) (hc0 : l0.length ≤ c0) (h : jj19.f k l0 a1_0 a1_1 = some (r1, r2, r3)) :
  Calls Try.prog 29 #[.slice A0 l0.length c0, .agg #[.int .i64 a1_0, .int .i64 a1_1]] w fun e w' => e = .returned (.tuple #[.agg #[.int .i64 r1, .int .i64 r2], .bool r3]) ∧ Below w.heap.size w w' := by
 have hu24 := Try.underlying24
 have HR0 := Aside0.mk hr0
 have HC0 := Aside0.mk hc0
 clear hr0 hc0
 have HB := Aside0.mk (Below.refl w.heap.size w)
 have H : (jj19.l0 k l0 (l0.length : Int) 0 a1_0 a1_1) = some (r1, r2, r3) := h
 clear h
 have H' := Aside0.mk H
 clear H
 go_enter Try.func29, Try.ntmps29
 go_wp2_with (first | ((with_reducible refine gate_dst (N := 3) rfl ?_); refine box_event ?hg (N := 3) ?hd (cs := #[.int .i64 a1_0, .int .i64 a1_1]) (t := 24) ?hr ?_; (case hd => rfl); (case hg => rfl); (case hr => (go_simp; done)); intro gb312 hg w3 hbox hb; have n0_ := Aside0.mk (below_step (by repeat ((with_reducible (exact HB.out)))) hb); have n1_ := Aside0.mk (hbox); have n2_ := Aside0.mk ((by rw [hg]; exact (below_size (by repeat ((with_reducible (exact HB.out))))) : w.heap.size ≤ gb312)); have n3_ := Aside0.mk ((by rw [hg]; exact (below_size (by repeat ((with_reducible (exact HB.out))))) : w.heap.size ≤ gb312)); clear HB; have HB := n0_; have BK312 := n1_; have GW312 := n2_; have GE312 := n3_; clear n0_ n1_ n2_ n3_; clear hb hbox hg) | ((with_reducible refine gate_dst (N := 4) rfl ?_); refine box_event ?hg (N := 4) ?hd (cs := #[.int .i64 0, .int .i64 0]) (t := 24) ?hr ?_; (case hd => rfl); (case hg => rfl); (case hr => (go_simp; done)); intro gb313 hg w4 hbox hb; have n0_ := Aside0.mk (blk_below (g := gb312) (o := .cells #[.int .i64 a1_0, .int .i64 a1_1] 24 (0, 0)) (by (with_reducible repeat ((refine blk_drew ?_))); exact BK312.out) hb); have n1_ := Aside0.mk (below_step (by repeat ((with_reducible (exact HB.out)))) hb); have n2_ := Aside0.mk (hbox); have n3_ := Aside0.mk ((by rw [hg]; exact (below_size (by repeat ((with_reducible (exact HB.out))))) : w.heap.size ≤ gb313)); have n4_ := Aside0.mk ((by rw [hg]; exact (below_size (by repeat ((with_reducible (exact HB.out))))) : w.heap.size ≤ gb313)); have n5_ := Aside0.mk ((by rw [hg]; exact Nat.ne_of_lt (blk_lt (g := gb312) (o := .cells #[.int .i64 a1_0, .int .i64 a1_1] 24 (0, 0)) (by (with_reducible repeat ((refine blk_drew ?_))); exact BK312.out)) : gb312 ≠ gb313)); have n6_ := Aside0.mk ((by rw [hg]; exact Nat.ne_of_gt (blk_lt (g := gb312) (o := .cells #[.int .i64 a1_0, .int .i64 a1_1] 24 (0, 0)) (by (with_reducible repeat ((refine blk_drew ?_))); exact BK312.out)) : gb313 ≠ gb312)); clear BK312; clear HB; have BK312 := n0_; have HB := n1_; have BK313 := n2_; have GW313 := n3_; have GE313 := n4_; have NB312_313 := n5_; have NB313_312 := n6_; clear n0_ n1_ n2_ n3_ n4_ n5_ n6_; clear hb hbox hg))
 go_loopg [12] k (fun kq v12 w' => ∃ (x12_1 : Int) (x313000_1 : Int) (x313001_1 : Int) (x314000_1 : Int) (x314001_1 : Int), v12 = .int .i64 x12_1 ∧ Aside0 (jj19.l0 kq l0 (l0.length : Int) x12_1 x313000_1 x313001_1 = some (r1, r2, r3)) ∧ Aside0 (kq ≤ k) ∧ Aside0 (w'.heap[gb312]? = some (.cells #[.int .i64 x313000_1, .int .i64 x313001_1] 24 (0, 0))) ∧ Aside0 (w'.heap[gb313]? = some (.cells #[.int .i64 x314000_1, .int .i64 x314001_1] 24 (0, 0))) ∧ Aside0 (Below w.heap.size w w'))
 case atStart => exact ⟨(0), (a1_0), (a1_1), (0), (0), (by (rfl)), H', ⟨Nat.le_refl _⟩, ⟨by (with_reducible repeat ((refine blk_drew ?_))); exact BK312.out⟩, ⟨by (with_reducible repeat ((refine blk_drew ?_))); exact BK313.out⟩, ⟨by repeat ((with_reducible (exact HB.out)))⟩⟩
 case round =>
  clear H'
  try clear c2
  try clear p2
  obtain ⟨x12_1, x313000_1, x313001_1, x314000_1, x314001_1, rfl, HA, HK1, BK312, BK313, HB⟩ := hrel
  cases gk with
  | zero => exact absurd HA.out (by simp [jj19.l0])
  | succ k1 =>
   have H := HA.out
   clear HA
   simp only [jj19.l0] at H
   by_cases c5 : x12_1 < (l0.length : Int)
   ·rw [if_pos c5] at H
    have c5b0 : decide (x12_1 < (l0.length : Int)) = true := decide_eq_true c5
    clear c5
    by_cases c6 : 0 ≤ x12_1
    ·rw [if_pos c6] at H
     have c6b0 : decide (0 ≤ x12_1) = true := decide_eq_true c6
     clear c6
     by_cases c7 : x12_1 < (l0.length : Int)
     ·rw [if_pos c7] at H
      have c7b0 : decide (x12_1 < (l0.length : Int)) = true := decide_eq_true c7
      clear c7
      replace H := Option.bind_eq_some_iff.mp H
      obtain ⟨⟨t315, t316, t317⟩, A80, H⟩ := H
      replace H : (if t317 = true then (jj19.l0 k1 l0 (l0.length : Int) (wrap64 (x12_1 + 1)) t315 t316) else (some (0, 0, false))) = some (r1, r2, r3) := H
      have A8 := Aside0.mk A80
      clear A80
      by_cases c9 : t317 = true
      ·subst c9
       have H1 : (jj19.l0 k1 l0 (l0.length : Int) (wrap64 (x12_1 + 1)) t315 t316) = some (r1, r2, r3) := by rw [if_pos rfl] at H; exact H
       clear H
       have H := H1
       clear H1
       have H' := Aside0.mk H
       clear H
       have p314 : 0 ≤ (x12_1 : Int) := of_decide_eq_true (by (with_reducible assumption))
       have q314 : x12_1 < (l0.length : Int) := of_decide_eq_true (by (with_reducible assumption))
       obtain ⟨ad314, A314_0, c314_0, e314, hx314_0, hl314_0, hi314_0⟩ := at_L3 HR0.out x12_1 p314 q314
       cases e314
       replace hx314_0 := (HB.out.cell (World.block_lt_of_cell? w _ hx314_0)).trans hx314_0
       have HR314_0 := Aside0.mk hi314_0
       have HC314_0 := Aside0.mk hl314_0
       clear hi314_0 hl314_0
       replace p314 := eq_true p314
       replace q314 := eq_true q314
       have hnb10 := NB312_313.out
       have hnc10 := NB313_312.out
       have hcz11_0 : wr.cell? ⟨gb312, 0, none⟩ = some (.int .i64 x313000_1) := (blk_cell BK312.out 0).trans rfl
       have hcz11_1 : wr.cell? ⟨gb312, 1, none⟩ = some (.int .i64 x313001_1) := (blk_cell BK312.out 1).trans rfl
       have hfz11_0 := blk_frozen BK312.out 0
       have hfz11_1 := blk_frozen BK312.out 1
       go_wp2_with (first | ((with_reducible refine gate_callee (f := 16) rfl ?_); refine goesL_ (some 19) rfl rfl Try.func16 (by kernel_rfl) rfl #[.slice A314_0 (rd_L3 l0 x12_1).length c314_0, .agg #[.int .i64 x313000_1, .int .i64 x313001_1]] rfl (by (try simp only [List.map_toArray, List.map_cons, List.map_nil]); (rfl)) ?_; (with_reducible refine (jj20.calls _ _ (rd_L3 l0 x12_1) x313000_1 x313001_1 t315 t316 true _ ?side1 ?side2 A8.out).mono ?_); (case side1 => repeat ((exact (Kd.C_below HR314_0.out HB.out)))); (case side2 => exact HC314_0.out); rintro e w12 ⟨rfl, hb⟩; refine ⟨_, rfl, ?_⟩; have n0_ := Aside0.mk (blk_below (g := gb312) (o := .cells #[.int .i64 x313000_1, .int .i64 x313001_1] 24 (0, 0)) (by (with_reducible repeat ((refine blk_drew ?_))); exact BK312.out) hb); have n1_ := Aside0.mk (blk_below (g := gb313) (o := .cells #[.int .i64 x314000_1, .int .i64 x314001_1] 24 (0, 0)) (by (with_reducible repeat ((refine blk_drew ?_))); exact BK313.out) hb); have n2_ := Aside0.mk (below_step (by repeat ((with_reducible (exact HB.out)))) hb); clear BK312; clear BK313; clear HB; have BK312 := n0_; have BK313 := n1_; have HB := n2_; clear n0_ n1_ n2_; (try clear hb); (try clear hb2); (try clear hk); (try clear hi)) | ((with_reducible refine gate_dst (N := 8) rfl ?_); refine box_event ?hg (N := 8) ?hd (cs := #[.int .i64 0, .int .i64 0]) (t := 24) ?hr ?_; (case hd => rfl); (case hg => rfl); (case hr => (go_simp; done)); intro gb318 hg w13 hbox hb; have n0_ := Aside0.mk (blk_below (g := gb312) (o := .cells #[.int .i64 x313000_1, .int .i64 x313001_1] 24 (0, 0)) (by (with_reducible repeat ((refine blk_drew ?_))); exact BK312.out) hb); have n1_ := Aside0.mk (blk_below (g := gb313) (o := .cells #[.int .i64 x314000_1, .int .i64 x314001_1] 24 (0, 0)) (by (with_reducible repeat ((refine blk_drew ?_))); exact BK313.out) hb); have n2_ := Aside0.mk (below_step (by repeat ((with_reducible (exact HB.out)))) hb); have n3_ := Aside0.mk (hbox); have n4_ := Aside0.mk ((by rw [hg]; exact (below_size (by repeat ((with_reducible (exact HB.out))))) : w.heap.size ≤ gb318)); have n5_ := Aside0.mk ((by rw [hg]; exact (below_size (by repeat ((with_reducible (exact HB.out))))) : w.heap.size ≤ gb318)); have n6_ := Aside0.mk ((by rw [hg]; exact Nat.ne_of_lt (blk_lt (g := gb312) (o := .cells #[.int .i64 x313000_1, .int .i64 x313001_1] 24 (0, 0)) (by (with_reducible repeat ((refine blk_drew ?_))); exact BK312.out)) : gb312 ≠ gb318)); have n7_ := Aside0.mk ((by rw [hg]; exact Nat.ne_of_gt (blk_lt (g := gb312) (o := .cells #[.int .i64 x313000_1, .int .i64 x313001_1] 24 (0, 0)) (by (with_reducible repeat ((refine blk_drew ?_))); exact BK312.out)) : gb318 ≠ gb312)); have n8_ := Aside0.mk ((by rw [hg]; exact Nat.ne_of_lt (blk_lt (g := gb313) (o := .cells #[.int .i64 x314000_1, .int .i64 x314001_1] 24 (0, 0)) (by (with_reducible repeat ((refine blk_drew ?_))); exact BK313.out)) : gb313 ≠ gb318)); have n9_ := Aside0.mk ((by rw [hg]; exact Nat.ne_of_gt (blk_lt (g := gb313) (o := .cells #[.int .i64 x314000_1, .int .i64 x314001_1] 24 (0, 0)) (by (with_reducible repeat ((refine blk_drew ?_))); exact BK313.out)) : gb318 ≠ gb313)); clear BK312; clear BK313; clear HB; have BK312 := n0_; have BK313 := n1_; have HB := n2_; have BK318 := n3_; have GW318 := n4_; have GE318 := n5_; have NB312_318 := n6_; have NB318_312 := n7_; have NB313_318 := n8_; have NB318_313 := n9_; clear n0_ n1_ n2_ n3_ n4_ n5_ n6_ n7_ n8_ n9_; clear hb hbox hg; have hnb14 := NB318_312.out; have hnc14 := NB312_318.out; have hnb15 := NB318_313.out; have hnc15 := NB313_318.out; have hcz16_0 : w13.cell? ⟨gb318, 0, none⟩ = some (.int .i64 0) := (blk_cell BK318.out 0).trans rfl; have hcz16_1 : w13.cell? ⟨gb318, 1, none⟩ = some (.int .i64 0) := (blk_cell BK318.out 1).trans rfl; have hfz16_0 := blk_frozen BK318.out 0; have hfz16_1 := blk_frozen BK318.out 1; have hcz17_0 : w13.cell? ⟨gb312, 0, none⟩ = some (.int .i64 x313000_1) := (blk_cell BK312.out 0).trans rfl; have hcz17_1 : w13.cell? ⟨gb312, 1, none⟩ = some (.int .i64 x313001_1) := (blk_cell BK312.out 1).trans rfl; have hfz17_0 := blk_frozen BK312.out 0; have hfz17_1 := blk_frozen BK312.out 1))
       go_roundg k1
       case measure => have := HK1.out; omega
       case rel => exact ⟨(wrap64 (x12_1 + 1)), (t315), (t316), (x314000_1), (x314001_1), (by (rfl)), H', ⟨by have := HK1.out; omega⟩, ⟨by (with_reducible repeat ((refine blk_drew ?_))); refine blk_put (cs := #[.int .i64 t315, .int .i64 x313001_1]) ?_ 1 _ rfl; (with_reducible repeat ((refine blk_drew ?_))); refine blk_put (cs := #[.int .i64 x313000_1, .int .i64 x313001_1]) ?_ 0 _ rfl; (with_reducible repeat ((refine blk_drew ?_))); refine blk_far ?_ NB312_318.out _; (with_reducible repeat ((refine blk_drew ?_))); refine blk_far ?_ NB312_318.out _; (with_reducible repeat ((refine blk_drew ?_))); exact BK312.out⟩, ⟨by (with_reducible repeat ((refine blk_drew ?_))); refine blk_far ?_ NB313_312.out _; (with_reducible repeat ((refine blk_drew ?_))); refine blk_far ?_ NB313_312.out _; (with_reducible repeat ((refine blk_drew ?_))); refine blk_far ?_ NB313_318.out _; (with_reducible repeat ((refine blk_drew ?_))); refine blk_far ?_ NB313_318.out _; (with_reducible repeat ((refine blk_drew ?_))); exact BK313.out⟩, ⟨by repeat ((with_reducible first | exact HB.out | refine below_set ?_ GE312.out | refine below_set ?_ GE318.out))⟩⟩
      ·replace c9 := Bool.eq_false_iff.mpr c9
       subst c9
       have H1 : (some (0, 0, false)) = some (r1, r2, r3) := by rw [if_neg (show ¬ (false = true) by decide)] at H; exact H
       clear H
       have H := H1
       clear H1
       simp only [Option.some.injEq, Prod.mk.injEq] at H
       obtain ⟨rfl, rfl, rfl⟩ := H
       have p314 : 0 ≤ (x12_1 : Int) := of_decide_eq_true (by (with_reducible assumption))
       have q314 : x12_1 < (l0.length : Int) := of_decide_eq_true (by (with_reducible assumption))
       obtain ⟨ad314, A314_0, c314_0, e314, hx314_0, hl314_0, hi314_0⟩ := at_L3 HR0.out x12_1 p314 q314
       cases e314
       replace hx314_0 := (HB.out.cell (World.block_lt_of_cell? w _ hx314_0)).trans hx314_0
       have HR314_0 := Aside0.mk hi314_0
       have HC314_0 := Aside0.mk hl314_0
       clear hi314_0 hl314_0
       replace p314 := eq_true p314
       replace q314 := eq_true q314
       have hnb18 := NB312_313.out
       have hnc18 := NB313_312.out
       have hcz19_0 : wr.cell? ⟨gb312, 0, none⟩ = some (.int .i64 x313000_1) := (blk_cell BK312.out 0).trans rfl
       have hcz19_1 : wr.cell? ⟨gb312, 1, none⟩ = some (.int .i64 x313001_1) := (blk_cell BK312.out 1).trans rfl
       have hfz19_0 := blk_frozen BK312.out 0
       have hfz19_1 := blk_frozen BK312.out 1
       go_wp2_with (first | ((with_reducible refine gate_callee (f := 16) rfl ?_); refine goesL_ (some 19) rfl rfl Try.func16 (by kernel_rfl) rfl #[.slice A314_0 (rd_L3 l0 x12_1).length c314_0, .agg #[.int .i64 x313000_1, .int .i64 x313001_1]] rfl (by (try simp only [List.map_toArray, List.map_cons, List.map_nil]); (rfl)) ?_; (with_reducible refine (jj20.calls _ _ (rd_L3 l0 x12_1) x313000_1 x313001_1 t315 t316 false _ ?side1 ?side2 A8.out).mono ?_); (case side1 => repeat ((exact (Kd.C_below HR314_0.out HB.out)))); (case side2 => exact HC314_0.out); rintro e w20 ⟨rfl, hb⟩; refine ⟨_, rfl, ?_⟩; have n0_ := Aside0.mk (blk_below (g := gb312) (o := .cells #[.int .i64 x313000_1, .int .i64 x313001_1] 24 (0, 0)) (by (with_reducible repeat ((refine blk_drew ?_))); exact BK312.out) hb); have n1_ := Aside0.mk (blk_below (g := gb313) (o := .cells #[.int .i64 x314000_1, .int .i64 x314001_1] 24 (0, 0)) (by (with_reducible repeat ((refine blk_drew ?_))); exact BK313.out) hb); have n2_ := Aside0.mk (below_step (by repeat ((with_reducible (exact HB.out)))) hb); clear BK312; clear BK313; clear HB; have BK312 := n0_; have BK313 := n1_; have HB := n2_; clear n0_ n1_ n2_; (try clear hb); (try clear hb2); (try clear hk); (try clear hi)) | ((with_reducible refine gate_dst (N := 8) rfl ?_); refine box_event ?hg (N := 8) ?hd (cs := #[.int .i64 0, .int .i64 0]) (t := 24) ?hr ?_; (case hd => rfl); (case hg => rfl); (case hr => (go_simp; done)); intro gb318 hg w21 hbox hb; have n0_ := Aside0.mk (blk_below (g := gb312) (o := .cells #[.int .i64 x313000_1, .int .i64 x313001_1] 24 (0, 0)) (by (with_reducible repeat ((refine blk_drew ?_))); exact BK312.out) hb); have n1_ := Aside0.mk (blk_below (g := gb313) (o := .cells #[.int .i64 x314000_1, .int .i64 x314001_1] 24 (0, 0)) (by (with_reducible repeat ((refine blk_drew ?_))); exact BK313.out) hb); have n2_ := Aside0.mk (below_step (by repeat ((with_reducible (exact HB.out)))) hb); have n3_ := Aside0.mk (hbox); have n4_ := Aside0.mk ((by rw [hg]; exact (below_size (by repeat ((with_reducible (exact HB.out))))) : w.heap.size ≤ gb318)); have n5_ := Aside0.mk ((by rw [hg]; exact (below_size (by repeat ((with_reducible (exact HB.out))))) : w.heap.size ≤ gb318)); have n6_ := Aside0.mk ((by rw [hg]; exact Nat.ne_of_lt (blk_lt (g := gb312) (o := .cells #[.int .i64 x313000_1, .int .i64 x313001_1] 24 (0, 0)) (by (with_reducible repeat ((refine blk_drew ?_))); exact BK312.out)) : gb312 ≠ gb318)); have n7_ := Aside0.mk ((by rw [hg]; exact Nat.ne_of_gt (blk_lt (g := gb312) (o := .cells #[.int .i64 x313000_1, .int .i64 x313001_1] 24 (0, 0)) (by (with_reducible repeat ((refine blk_drew ?_))); exact BK312.out)) : gb318 ≠ gb312)); have n8_ := Aside0.mk ((by rw [hg]; exact Nat.ne_of_lt (blk_lt (g := gb313) (o := .cells #[.int .i64 x314000_1, .int .i64 x314001_1] 24 (0, 0)) (by (with_reducible repeat ((refine blk_drew ?_))); exact BK313.out)) : gb313 ≠ gb318)); have n9_ := Aside0.mk ((by rw [hg]; exact Nat.ne_of_gt (blk_lt (g := gb313) (o := .cells #[.int .i64 x314000_1, .int .i64 x314001_1] 24 (0, 0)) (by (with_reducible repeat ((refine blk_drew ?_))); exact BK313.out)) : gb318 ≠ gb313)); clear BK312; clear BK313; clear HB; have BK312 := n0_; have BK313 := n1_; have HB := n2_; have BK318 := n3_; have GW318 := n4_; have GE318 := n5_; have NB312_318 := n6_; have NB318_312 := n7_; have NB313_318 := n8_; have NB318_313 := n9_; clear n0_ n1_ n2_ n3_ n4_ n5_ n6_ n7_ n8_ n9_; clear hb hbox hg; have hnb22 := NB318_312.out; have hnc22 := NB312_318.out; have hnb23 := NB318_313.out; have hnc23 := NB313_318.out; have hcz24_0 : w21.cell? ⟨gb318, 0, none⟩ = some (.int .i64 0) := (blk_cell BK318.out 0).trans rfl; have hcz24_1 : w21.cell? ⟨gb318, 1, none⟩ = some (.int .i64 0) := (blk_cell BK318.out 1).trans rfl; have hfz24_0 := blk_frozen BK318.out 0; have hfz24_1 := blk_frozen BK318.out 1; have hcz25_0 : w21.cell? ⟨gb313, 0, none⟩ = some (.int .i64 x314000_1) := (blk_cell BK313.out 0).trans rfl; have hcz25_1 : w21.cell? ⟨gb313, 1, none⟩ = some (.int .i64 x314001_1) := (blk_cell BK313.out 1).trans rfl; have hfz25_0 := blk_frozen BK313.out 0; have hfz25_1 := blk_frozen BK313.out 1))
       refine bodyPost_ret (results_ct rfl _ _ gb313 24 #[.int .i64 0, .int .i64 0] (0, 0) _ rfl (by (with_reducible repeat ((refine blk_drew ?_))); refine blk_put (cs := #[.int .i64 0, .int .i64 x314001_1]) ?_ 1 _ rfl; (with_reducible repeat ((refine blk_drew ?_))); refine blk_put (cs := #[.int .i64 x314000_1, .int .i64 x314001_1]) ?_ 0 _ rfl; (with_reducible repeat ((refine blk_drew ?_))); refine blk_far ?_ NB313_318.out _; (with_reducible repeat ((refine blk_drew ?_))); refine blk_far ?_ NB313_318.out _; (with_reducible repeat ((refine blk_drew ?_))); exact BK313.out) Try.underlying24 rfl (by kernel_rfl)) rfl ?_
       exact ⟨by (rfl), by repeat ((with_reducible first | exact HB.out | refine below_set ?_ GE313.out | refine below_set ?_ GE318.out))⟩
     ·rw [if_neg c7] at H
      exact absurd H (by simp)
    ·rw [if_neg c6] at H
     exact absurd H (by simp)
   ·rw [if_neg c5] at H
    have c5b0 : decide (x12_1 < (l0.length : Int)) = false := decide_eq_false c5
    clear c5
    simp only [Option.some.injEq, Prod.mk.injEq] at H
    obtain ⟨rfl, rfl, rfl⟩ := H
    have hnb26 := NB312_313.out
    have hnc26 := NB313_312.out
    have hcz27_0 : wr.cell? ⟨gb312, 0, none⟩ = some (.int .i64 x313000_1) := (blk_cell BK312.out 0).trans rfl
    have hcz27_1 : wr.cell? ⟨gb312, 1, none⟩ = some (.int .i64 x313001_1) := (blk_cell BK312.out 1).trans rfl
    have hfz27_0 := blk_frozen BK312.out 0
    have hfz27_1 := blk_frozen BK312.out 1
    have hcz28_0 : wr.cell? ⟨gb313, 0, none⟩ = some (.int .i64 x314000_1) := (blk_cell BK313.out 0).trans rfl
    have hcz28_1 : wr.cell? ⟨gb313, 1, none⟩ = some (.int .i64 x314001_1) := (blk_cell BK313.out 1).trans rfl
    have hfz28_0 := blk_frozen BK313.out 0
    have hfz28_1 := blk_frozen BK313.out 1
    go_wp2
    refine bodyPost_ret (results_ct rfl _ _ gb313 24 #[.int .i64 x313000_1, .int .i64 x313001_1] (0, 0) _ rfl (by (with_reducible repeat ((refine blk_drew ?_))); refine blk_put (cs := #[.int .i64 x313000_1, .int .i64 x314001_1]) ?_ 1 _ rfl; (with_reducible repeat ((refine blk_drew ?_))); refine blk_put (cs := #[.int .i64 x314000_1, .int .i64 x314001_1]) ?_ 0 _ rfl; (with_reducible repeat ((refine blk_drew ?_))); exact BK313.out) Try.underlying24 rfl (by kernel_rfl)) rfl ?_
    exact ⟨by (rfl), by repeat ((with_reducible first | exact HB.out | refine below_set ?_ GE313.out))⟩
end Go.Proofs.Ythocalfgeaclgaa.P
end
-- MERGED YthocalfgeaclgaaPvariorumref10Over
section

namespace Go.Proofs.Ythocalfgeaclgaa.P
open Go.RowKit Go.Proofs.YthocalfgeaclgaaW.PrintWords Go.Proofs.YthocalfgeaclgaaW.PrintLast Go.Proofs.YthocalfgeaclgaaW.PrintMore
attribute [local go_sem] max2_int min2_int max_two min_two max_three min_three max_four min_four
set_option linter.unusedVariables false
set_option linter.unusedSimpArgs false
def jj41.l0 : Nat → List (List (S37)) → Int → Int → Int → Option (Int × Int × Bool)
 | 0, _, _, _, _ => none
 | k + 1, x0, x6, x320000, x320001 => if x6 < (x0.length : Int) then (if 0 ≤ x6 then ((jj43.f k (rd_L3 x0 x6) x320000 x320001).bind fun bt322 => (if bt322.2.2 = true then (jj41.l0 k x0 (wrap64 (x6 + 1)) bt322.1 bt322.2.1) else (some (0, 0, false)))) else (none)) else (some (x320000, x320001, true))
def jj41.f (k : Nat) (l0 : List (List (S37))) (a1_0 : Int) (a1_1 : Int) : Option (Int × Int × Bool) := jj41.l0 k l0 0 a1_0 a1_1
theorem jj41.mono_l : ∀ k, (∀ y0 y1 y2 y3, LeO (jj41.l0 k y0 y1 y2 y3) (jj41.l0 (k + 1) y0 y1 y2 y3))
 | 0 => fun _ _ _ _ r h => by simp [jj41.l0] at h
 | k + 1 => by
  have ih0 := jj41.mono_l k
  ·intro y0 y1 y2 y3
   unfold jj41.l0
   repeat' first | (with_reducible exact ih0 _ _ _ _) | (with_reducible exact jj43.mono _ _ _ _) | (with_reducible exact LeO.refl _) | (with_reducible refine LeO.ite ?_ ?_) | (with_reducible refine LeO.bind ?_ (fun _ => ?_))
theorem jj41.mono : ∀ a0 a1 a2 k, LeO (jj41.f k a0 a1 a2) (jj41.f (k + 1) a0 a1 a2) := by
 intro a0 a1 a2 k
 have ih0 := jj41.mono_l k
 unfold jj41.f
 repeat' (with_reducible exact ih0 _ _ _ _)
def jj41.T4 : Bool × List (List Nat × List Nat) := (true, [([], []), ([], []), ([0, 1], [0, 1]), ([2], [2]), ([], []), ([3, 4], [3, 4]), ([5], [5]), ([6], [6]), ([6], [6]), ([], []), ([9, 7, 5, 0, 1, 2, 3, 4, 5, 6, 7, 9], [7, 9]), ([8, 10, 0, 1, 2, 3, 4, 5, 6, 7, 8, 9, 10], [8])])
def jj41.B4 : List Nat := [0, 0, 3, 7, 0, 31, 63, 127, 127, 0, 767, 2047]
theorem jj41.tab4 : rtab .any (opsOf Try.f30 4) = jj41.T4 := by kernel_rfl
theorem jj41.bits4 : waitsOk jj41.T4.2 jj41.B4 = true := by kernel_rfl
set_option maxHeartbeats 8000000 in
set_option maxRecDepth 100000 in
theorem jj41.calls (k : Nat) (A0 : Option Addr) (c0 : Nat) (l0 : List (List (S37))) (a1_0 : Int) (a1_1 : Int) (r1 : Int) (r2 : Int) (r3 : Bool) (w : World) (hr0 : Kd.C (Kd.slice 37 k37) w A0 l0.length l0) (hc0 : l0.length ≤ c0) (h : jj41.f k l0 a1_0 a1_1 = some (r1, r2, r3)) :
  Calls Try.prog 30 #[.slice A0 l0.length c0, .agg #[.int .i64 a1_0, .int .i64 a1_1]] w fun e w' => e = .returned (.tuple #[.agg #[.int .i64 r1, .int .i64 r2], .bool r3]) ∧ Below w.heap.size w w' := by
 have hu24 := Try.underlying24
 have HR0 := Aside0.mk hr0
 have HC0 := Aside0.mk hc0
 clear hr0 hc0
 have HB := Aside0.mk (Below.refl w.heap.size w)
 have H : (jj41.l0 k l0 0 a1_0 a1_1) = some (r1, r2, r3) := h
 clear h
 have H' := Aside0.mk H
 clear H
 go_enter Try.func30, Try.ntmps30
 go_wp2_with (first | ((with_reducible refine gate_dst (N := 3) rfl ?_); refine box_event ?hg (N := 3) ?hd (cs := #[.int .i64 a1_0, .int .i64 a1_1]) (t := 24) ?hr ?_; (case hd => rfl); (case hg => rfl); (case hr => (go_simp; done)); intro gb319 hg w3 hbox hb; have n0_ := Aside0.mk (below_step (by repeat ((with_reducible (exact HB.out)))) hb); have n1_ := Aside0.mk (hbox); have n2_ := Aside0.mk ((by rw [hg]; exact (below_size (by repeat ((with_reducible (exact HB.out))))) : w.heap.size ≤ gb319)); have n3_ := Aside0.mk ((by rw [hg]; exact (below_size (by repeat ((with_reducible (exact HB.out))))) : w.heap.size ≤ gb319)); clear HB; have HB := n0_; have BK319 := n1_; have GW319 := n2_; have GE319 := n3_; clear n0_ n1_ n2_ n3_; clear hb hbox hg) | ((with_reducible refine gate_dst (N := 4) rfl ?_); refine box_event ?hg (N := 4) ?hd (cs := #[.int .i64 0, .int .i64 0]) (t := 24) ?hr ?_; (case hd => rfl); (case hg => rfl); (case hr => (go_simp; done)); intro gb320 hg w4 hbox hb; have n0_ := Aside0.mk (blk_below (g := gb319) (o := .cells #[.int .i64 a1_0, .int .i64 a1_1] 24 (0, 0)) (by (with_reducible repeat ((refine blk_drew ?_))); exact BK319.out) hb); have n1_ := Aside0.mk (below_step (by repeat ((with_reducible (exact HB.out)))) hb); have n2_ := Aside0.mk (hbox); have n3_ := Aside0.mk ((by rw [hg]; exact (below_size (by repeat ((with_reducible (exact HB.out))))) : w.heap.size ≤ gb320)); have n4_ := Aside0.mk ((by rw [hg]; exact (below_size (by repeat ((with_reducible (exact HB.out))))) : w.heap.size ≤ gb320)); have n5_ := Aside0.mk ((by rw [hg]; exact Nat.ne_of_lt (blk_lt (g := gb319) (o := .cells #[.int .i64 a1_0, .int .i64 a1_1] 24 (0, 0)) (by (with_reducible repeat ((refine blk_drew ?_))); exact BK319.out)) : gb319 ≠ gb320)); have n6_ := Aside0.mk ((by rw [hg]; exact Nat.ne_of_gt (blk_lt (g := gb319) (o := .cells #[.int .i64 a1_0, .int .i64 a1_1] 24 (0, 0)) (by (with_reducible repeat ((refine blk_drew ?_))); exact BK319.out)) : gb320 ≠ gb319)); clear BK319; clear HB; have BK319 := n0_; have HB := n1_; have BK320 := n2_; have GW320 := n3_; have GE320 := n4_; have NB319_320 := n5_; have NB320_319 := n6_; clear n0_ n1_ n2_ n3_ n4_ n5_ n6_; clear hb hbox hg))
 go_loopg [6] k (fun kq v6 w' => ∃ (x6_1 : Int) (x320000_1 : Int) (x320001_1 : Int) (x321000_1 : Int) (x321001_1 : Int), v6 = .int .i64 x6_1 ∧ Aside0 (jj41.l0 kq l0 x6_1 x320000_1 x320001_1 = some (r1, r2, r3)) ∧ Aside0 (kq ≤ k) ∧ Aside0 (w'.heap[gb319]? = some (.cells #[.int .i64 x320000_1, .int .i64 x320001_1] 24 (0, 0))) ∧ Aside0 (w'.heap[gb320]? = some (.cells #[.int .i64 x321000_1, .int .i64 x321001_1] 24 (0, 0))) ∧ Aside0 (Below w.heap.size w w'))
 case atStart => exact ⟨(0), (a1_0), (a1_1), (0), (0), (by (rfl)), H', ⟨Nat.le_refl _⟩, ⟨by (with_reducible repeat ((refine blk_drew ?_))); exact BK319.out⟩, ⟨by (with_reducible repeat ((refine blk_drew ?_))); exact BK320.out⟩, ⟨by repeat ((with_reducible (exact HB.out)))⟩⟩
 case round =>
  clear H'
  try clear p2
  try clear c3
  obtain ⟨x6_1, x320000_1, x320001_1, x321000_1, x321001_1, rfl, HA, HK1, BK319, BK320, HB⟩ := hrel
  cases gk with
  | zero => exact absurd HA.out (by simp [jj41.l0])
  | succ k1 =>
   have H := HA.out
   clear HA
   simp only [jj41.l0] at H
   by_cases c5 : x6_1 < (l0.length : Int)
   ·rw [if_pos c5] at H
    have c5b0 : decide (x6_1 < (l0.length : Int)) = true := decide_eq_true c5
    clear c5
    by_cases c6 : 0 ≤ x6_1
    ·rw [if_pos c6] at H
     have c6b0 : decide (0 ≤ x6_1) = true := decide_eq_true c6
     clear c6
     replace H := Option.bind_eq_some_iff.mp H
     obtain ⟨⟨t322, t323, t324⟩, A70, H⟩ := H
     replace H : (if t324 = true then (jj41.l0 k1 l0 (wrap64 (x6_1 + 1)) t322 t323) else (some (0, 0, false))) = some (r1, r2, r3) := H
     have A7 := Aside0.mk A70
     clear A70
     by_cases c8 : t324 = true
     ·subst c8
      have H1 : (jj41.l0 k1 l0 (wrap64 (x6_1 + 1)) t322 t323) = some (r1, r2, r3) := by rw [if_pos rfl] at H; exact H
      clear H
      have H := H1
      clear H1
      have H' := Aside0.mk H
      clear H
      try go_wp2
      have n0_ := Aside0.mk (blk_drew BK319.out)
      have n1_ := Aside0.mk (blk_drew BK320.out)
      have n2_ := Aside0.mk (below_drew1 HB.out)
      clear BK319
      clear BK320
      clear HB
      have BK319 := n0_
      have BK320 := n1_
      have HB := n2_
      clear n0_ n1_ n2_
      have p321 : 0 ≤ (x6_1 : Int) := of_decide_eq_true (by (with_reducible assumption))
      have q321 : x6_1 < (l0.length : Int) := of_decide_eq_true (by (with_reducible assumption))
      obtain ⟨ad321, A321_0, c321_0, e321, hx321_0, hl321_0, hi321_0⟩ := at_L3 HR0.out x6_1 p321 q321
      have hw321_0 := hx321_0
      cases e321
      replace hx321_0 := (HB.out.cell (World.block_lt_of_cell? w _ hx321_0)).trans hx321_0
      have HR321_0 := Aside0.mk hi321_0
      have HC321_0 := Aside0.mk hl321_0
      clear hi321_0 hl321_0
      replace p321 := eq_true p321
      replace q321 := eq_true q321
      refine start_ (n := 12) (S := fun w' => w'.cell? ⟨gb319, 0, none⟩ = some (.int .i64 x320000_1) ∧ w'.cell? ⟨gb319, 1, none⟩ = some (.int .i64 x320001_1) ∧ w'.cell? (ad321.add (x6_1).toNat) = some (.slice A321_0 (rd_L3 l0 x6_1).length c321_0)) (ds := []) #[false, false, false, false, false, false, false, false, false, false, false, false] (by kernel_rfl) rfl rfl ⟨(blk_cell BK319.out 0).trans rfl, (blk_cell BK319.out 1).trans rfl, ((HB.out.cell (World.block_lt_of_cell? w _ hw321_0)).trans hw321_0)⟩ (fun hHeld => ?_); refine with_tabW jj41.tab4 jj41.bits4 (fun HT_ HW_ => ?_)
      generalize wr.drew = w9 at BK319 BK320 HB HR321_0 hx321_0 hHeld ⊢
      refine pure_ (i := 0) (N := some 16) (v := ?_) (a' := ?_) #[true, false, false, false, false, false, false, false, false, false, false, false] rfl rfl (any_of HT_.out (by kernel_rfl)) (fun _ _ _ h => h) (Or.inl ⟨by rfl, ?_⟩) ?_ ?_
      rotate_left
      ·intro w'
       go_simp
       with_reducible rfl
      rotate_left
      ·simp only [Act.put, List.setIfInBounds_toArray, List.set_cons_zero, List.set_cons_succ, i64_w, i32_w]
       rfl
      refine pure_ (i := 1) (N := some 17) (v := ?_) (a' := ?_) #[true, true, false, false, false, false, false, false, false, false, false, false] rfl rfl (any_of HT_.out (by kernel_rfl)) (fun _ _ _ h => h) (Or.inl ⟨by rfl, ?_⟩) ?_ ?_
      rotate_left
      ·intro w'
       go_simp
       with_reducible rfl
      rotate_left
      ·simp only [Act.put, List.setIfInBounds_toArray, List.set_cons_zero, List.set_cons_succ, i64_w, i32_w]
       rfl
      refine pure_ (i := 2) (N := some 18) (v := ?_) (a' := ?_) #[true, true, true, false, false, false, false, false, false, false, false, false] rfl rfl (any_of HT_.out (by kernel_rfl)) (fun _ _ _ h => h) (Or.inl ⟨by rfl, ?_⟩) ?_ ?_
      rotate_left
      ·intro w'
       go_simp
       with_reducible rfl
      rotate_left
      ·simp only [Act.put, List.setIfInBounds_toArray, List.set_cons_zero, List.set_cons_succ, i64_w, i32_w]
       rfl
      refine take_ (i := 3) (N := some 19) (v := ?_) (a' := ?_) #[true, true, true, true, false, false, false, false, false, false, false, false] rfl rfl (take_ofW HT_.out HW_.out (by kernel_rfl)) (fun _ _ _ h => h) (Or.inl ⟨by rfl, ?_⟩) hHeld ?_ ?_
      rotate_left
      ·rintro w' ⟨s0, s1, s2⟩
       go_simp
       with_reducible rfl
      rotate_left
      ·simp only [Act.put, List.setIfInBounds_toArray, List.set_cons_zero, List.set_cons_succ, i64_w, i32_w]
       rfl
      refine take_ (i := 4) (N := some 20) (v := ?_) (a' := ?_) #[true, true, true, true, true, false, false, false, false, false, false, false] rfl rfl (take_ofW HT_.out HW_.out (by kernel_rfl)) (fun _ _ _ h => h) (Or.inl ⟨by rfl, ?_⟩) hHeld ?_ ?_
      rotate_left
      ·rintro w' ⟨s0, s1, s2⟩
       go_simp
       with_reducible rfl
      rotate_left
      ·simp only [Act.put, List.setIfInBounds_toArray, List.set_cons_zero, List.set_cons_succ, i64_w, i32_w]
       rfl
      refine join_ (σ := Nat) 2 #[true, true, true, true, true, true, true, true, true, true, false, false] (fun s_ => [(21, .tuple #[.agg #[.int .i64 t322, .int .i64 t323], .bool true]), (7, .pointer (some ⟨s_, 0, none⟩)), (15, .tuple #[.agg #[.int .i64 t322, .int .i64 t323], .bool true]), (22, .agg #[.int .i64 t322, .int .i64 t323]), (23, .bool true)]) (fun s_ w' => (w'.cell? ⟨gb319, 0, none⟩ = some (.int .i64 x320000_1) ∧ w'.cell? ⟨gb319, 1, none⟩ = some (.int .i64 x320001_1) ∧ w'.cell? (ad321.add (x6_1).toNat) = some (.slice A321_0 (rd_L3 l0 x6_1).length c321_0)) ∧ (w'.heap[gb319]? = some (.cells #[.int .i64 x320000_1, .int .i64 x320001_1] 24 (0, 0))) ∧ (w'.heap[gb320]? = some (.cells #[.int .i64 x321000_1, .int .i64 x321001_1] 24 (0, 0))) ∧ (w'.heap[s_]? = some (.cells #[.int .i64 0, .int .i64 0] 24 (0, 0))) ∧ (w.heap.size ≤ s_) ∧ (w.heap.size ≤ s_) ∧ (gb319 ≠ s_) ∧ (s_ ≠ gb319) ∧ (gb320 ≠ s_) ∧ (s_ ≠ gb320) ∧ (Below w.heap.size w w')) ?_ ?_
      rotate_left
      ·intro hCont
       refine two_ (i := 5) (j := 9) (Ni := some 21) (Nj := some 7) #[true, true, true, true, true, true, false, false, false, false, false, false] #[true, true, true, true, true, false, false, false, false, true, false, false] rfl rfl rfl rfl (two_of HT_.out (by kernel_rfl)) (by decide) (by decide) (fun K hK => ?_) (fun K hK => ?_)
       ·skip
        refine goes_ Try.func17 (by kernel_rfl) rfl #[.slice A321_0 (rd_L3 l0 x6_1).length c321_0, .agg #[.int .i64 x320000_1, .int .i64 x320001_1]] (by rfl) rfl rfl (by (try simp only [List.map_toArray, List.map_cons, List.map_nil]); (rfl)) ?_
        with_reducible refine (jj43.calls k1 _ _ (rd_L3 l0 x6_1) x320000_1 x320001_1 t322 t323 true _ ?side1 ?side2 A7.out).mono ?_
        (case side1 => repeat ((exact (Kd.C_below HR321_0.out HB.out))))
        (case side2 => exact HC321_0.out)
        rintro e w10 ⟨rfl, hb⟩
        refine ⟨_, rfl, ?_⟩
        have n0_ := Aside0.mk (blk_below (g := gb319) (o := .cells #[.int .i64 x320000_1, .int .i64 x320001_1] 24 (0, 0)) (by (with_reducible repeat ((refine blk_drew ?_))); exact BK319.out) hb)
        have n1_ := Aside0.mk (blk_below (g := gb320) (o := .cells #[.int .i64 x321000_1, .int .i64 x321001_1] 24 (0, 0)) (by (with_reducible repeat ((refine blk_drew ?_))); exact BK320.out) hb)
        have n2_ := Aside0.mk (below_step (by repeat ((with_reducible (exact HB.out)))) hb)
        clear BK319
        clear BK320
        clear HB
        have BK319 := n0_
        have BK320 := n1_
        have HB := n2_
        clear n0_ n1_ n2_
        (try clear hb)
        (try clear hb2)
        (try clear hk)
        (try clear hi)
        refine hK.out _ _ ⟨(blk_cell BK319.out 0).trans rfl, (blk_cell BK319.out 1).trans rfl, ((HB.out.cell (World.block_lt_of_cell? w _ hw321_0)).trans hw321_0)⟩ (fun hHeld => ?_)
        clear hK K
        refine norm_ (a' := ?_) ?_ ?_
        rotate_left
        ·show Act.put _ (some 21) _ = _
         simp only [Act.put, List.setIfInBounds_toArray, List.set_cons_zero, List.set_cons_succ, i64_w, i32_w]
         rfl
        refine pure_ (i := 6) (N := some 15) (v := ?_) (a' := ?_) #[true, true, true, true, true, true, true, false, false, false, false, false] rfl rfl (any_of HT_.out (by kernel_rfl)) (fun _ _ _ h => h) (Or.inl ⟨by rfl, ?_⟩) ?_ ?_
        rotate_left
        ·intro w'
         go_simp
         with_reducible rfl
        rotate_left
        ·simp only [Act.put, List.setIfInBounds_toArray, List.set_cons_zero, List.set_cons_succ, i64_w, i32_w]
         rfl
        refine pure_ (i := 7) (N := some 22) (v := ?_) (a' := ?_) #[true, true, true, true, true, true, true, true, false, false, false, false] rfl rfl (any_of HT_.out (by kernel_rfl)) (fun _ _ _ h => h) (Or.inl ⟨by rfl, ?_⟩) ?_ ?_
        rotate_left
        ·intro w'
         go_simp
         with_reducible rfl
        rotate_left
        ·simp only [Act.put, List.setIfInBounds_toArray, List.set_cons_zero, List.set_cons_succ, i64_w, i32_w]
         rfl
        refine pure_ (i := 8) (N := some 23) (v := ?_) (a' := ?_) #[true, true, true, true, true, true, true, true, true, false, false, false] rfl rfl (any_of HT_.out (by kernel_rfl)) (fun _ _ _ h => h) (Or.inl ⟨by rfl, ?_⟩) ?_ ?_
        rotate_left
        ·intro w'
         go_simp
         with_reducible rfl
        rotate_left
        ·simp only [Act.put, List.setIfInBounds_toArray, List.set_cons_zero, List.set_cons_succ, i64_w, i32_w]
         rfl
        refine one_ (i := 9) (N := some 7) #[true, true, true, true, true, true, true, true, true, true, false, false] rfl rfl (one_of HT_.out (by kernel_rfl)) (by decide) (fun K hK => ?_)
        refine box_step ?hg (N := 7) ?hd (cs := #[.int .i64 0, .int .i64 0]) (t := 24) ?hr ?_; (case hd => rfl); (case hg => rfl); (case hr => (go_simp; done))
        intro gb325 hg w11 hbox hb
        have n0_ := Aside0.mk (blk_below (g := gb319) (o := .cells #[.int .i64 x320000_1, .int .i64 x320001_1] 24 (0, 0)) (by (with_reducible repeat ((refine blk_drew ?_))); exact BK319.out) hb)
        have n1_ := Aside0.mk (blk_below (g := gb320) (o := .cells #[.int .i64 x321000_1, .int .i64 x321001_1] 24 (0, 0)) (by (with_reducible repeat ((refine blk_drew ?_))); exact BK320.out) hb)
        have n2_ := Aside0.mk (below_step (by repeat ((with_reducible (exact HB.out)))) hb)
        have n3_ := Aside0.mk (hbox)
        have n4_ := Aside0.mk ((by rw [hg]; exact (below_size (by repeat ((with_reducible (exact HB.out))))) : w.heap.size ≤ gb325))
        have n5_ := Aside0.mk ((by rw [hg]; exact (below_size (by repeat ((with_reducible (exact HB.out))))) : w.heap.size ≤ gb325))
        have n6_ := Aside0.mk ((by rw [hg]; exact Nat.ne_of_lt (blk_lt (g := gb319) (o := .cells #[.int .i64 x320000_1, .int .i64 x320001_1] 24 (0, 0)) (by (with_reducible repeat ((refine blk_drew ?_))); exact BK319.out)) : gb319 ≠ gb325))
        have n7_ := Aside0.mk ((by rw [hg]; exact Nat.ne_of_gt (blk_lt (g := gb319) (o := .cells #[.int .i64 x320000_1, .int .i64 x320001_1] 24 (0, 0)) (by (with_reducible repeat ((refine blk_drew ?_))); exact BK319.out)) : gb325 ≠ gb319))
        have n8_ := Aside0.mk ((by rw [hg]; exact Nat.ne_of_lt (blk_lt (g := gb320) (o := .cells #[.int .i64 x321000_1, .int .i64 x321001_1] 24 (0, 0)) (by (with_reducible repeat ((refine blk_drew ?_))); exact BK320.out)) : gb320 ≠ gb325))
        have n9_ := Aside0.mk ((by rw [hg]; exact Nat.ne_of_gt (blk_lt (g := gb320) (o := .cells #[.int .i64 x321000_1, .int .i64 x321001_1] 24 (0, 0)) (by (with_reducible repeat ((refine blk_drew ?_))); exact BK320.out)) : gb325 ≠ gb320))
        clear BK319
        clear BK320
        clear HB
        have BK319 := n0_
        have BK320 := n1_
        have HB := n2_
        have BK325 := n3_
        have GW325 := n4_
        have GE325 := n5_
        have NB319_325 := n6_
        have NB325_319 := n7_
        have NB320_325 := n8_
        have NB325_320 := n9_
        clear n0_ n1_ n2_ n3_ n4_ n5_ n6_ n7_ n8_ n9_
        clear hb hbox hg
        refine hK.out _ _ ⟨(blk_cell BK319.out 0).trans rfl, (blk_cell BK319.out 1).trans rfl, ((HB.out.cell (World.block_lt_of_cell? w _ hw321_0)).trans hw321_0)⟩ (fun hHeld => ?_)
        clear hK K
        refine norm_ (a' := ?_) ?_ ?_
        rotate_left
        ·show Act.put _ (some 7) _ = _
         simp only [Act.put, List.setIfInBounds_toArray, List.set_cons_zero, List.set_cons_succ, i64_w, i32_w]
         rfl
        exact norm_ (by simp only [putAll, Act.put, List.setIfInBounds_toArray, List.set_cons_zero, List.set_cons_succ]) (hCont (gb325) _ ⟨hHeld, (by (with_reducible repeat ((refine blk_drew ?_))); exact BK319.out), (by (with_reducible repeat ((refine blk_drew ?_))); exact BK320.out), (by (with_reducible repeat ((refine blk_drew ?_))); exact BK325.out), GW325.out, GE325.out, NB319_325.out, NB325_319.out, NB320_325.out, NB325_320.out, (by repeat ((with_reducible (exact HB.out))))⟩)
       ·skip
        refine box_step ?hg (N := 7) ?hd (cs := #[.int .i64 0, .int .i64 0]) (t := 24) ?hr ?_; (case hd => rfl); (case hg => rfl); (case hr => (go_simp; done))
        intro gb325 hg w10 hbox hb
        have n0_ := Aside0.mk (blk_below (g := gb319) (o := .cells #[.int .i64 x320000_1, .int .i64 x320001_1] 24 (0, 0)) (by (with_reducible repeat ((refine blk_drew ?_))); exact BK319.out) hb)
        have n1_ := Aside0.mk (blk_below (g := gb320) (o := .cells #[.int .i64 x321000_1, .int .i64 x321001_1] 24 (0, 0)) (by (with_reducible repeat ((refine blk_drew ?_))); exact BK320.out) hb)
        have n2_ := Aside0.mk (below_step (by repeat ((with_reducible (exact HB.out)))) hb)
        have n3_ := Aside0.mk (hbox)
        have n4_ := Aside0.mk ((by rw [hg]; exact (below_size (by repeat ((with_reducible (exact HB.out))))) : w.heap.size ≤ gb325))
        have n5_ := Aside0.mk ((by rw [hg]; exact (below_size (by repeat ((with_reducible (exact HB.out))))) : w.heap.size ≤ gb325))
        have n6_ := Aside0.mk ((by rw [hg]; exact Nat.ne_of_lt (blk_lt (g := gb319) (o := .cells #[.int .i64 x320000_1, .int .i64 x320001_1] 24 (0, 0)) (by (with_reducible repeat ((refine blk_drew ?_))); exact BK319.out)) : gb319 ≠ gb325))
        have n7_ := Aside0.mk ((by rw [hg]; exact Nat.ne_of_gt (blk_lt (g := gb319) (o := .cells #[.int .i64 x320000_1, .int .i64 x320001_1] 24 (0, 0)) (by (with_reducible repeat ((refine blk_drew ?_))); exact BK319.out)) : gb325 ≠ gb319))
        have n8_ := Aside0.mk ((by rw [hg]; exact Nat.ne_of_lt (blk_lt (g := gb320) (o := .cells #[.int .i64 x321000_1, .int .i64 x321001_1] 24 (0, 0)) (by (with_reducible repeat ((refine blk_drew ?_))); exact BK320.out)) : gb320 ≠ gb325))
        have n9_ := Aside0.mk ((by rw [hg]; exact Nat.ne_of_gt (blk_lt (g := gb320) (o := .cells #[.int .i64 x321000_1, .int .i64 x321001_1] 24 (0, 0)) (by (with_reducible repeat ((refine blk_drew ?_))); exact BK320.out)) : gb325 ≠ gb320))
        clear BK319
        clear BK320
        clear HB
        have BK319 := n0_
        have BK320 := n1_
        have HB := n2_
        have BK325 := n3_
        have GW325 := n4_
        have GE325 := n5_
        have NB319_325 := n6_
        have NB325_319 := n7_
        have NB320_325 := n8_
        have NB325_320 := n9_
        clear n0_ n1_ n2_ n3_ n4_ n5_ n6_ n7_ n8_ n9_
        clear hb hbox hg
        refine hK.out _ _ ⟨(blk_cell BK319.out 0).trans rfl, (blk_cell BK319.out 1).trans rfl, ((HB.out.cell (World.block_lt_of_cell? w _ hw321_0)).trans hw321_0)⟩ (fun hHeld => ?_)
        clear hK K
        refine norm_ (a' := ?_) ?_ ?_
        rotate_left
        ·show Act.put _ (some 7) _ = _
         simp only [Act.put, List.setIfInBounds_toArray, List.set_cons_zero, List.set_cons_succ, i64_w, i32_w]
         rfl
        refine one_ (i := 5) (N := some 21) #[true, true, true, true, true, true, false, false, false, true, false, false] rfl rfl (one_of HT_.out (by kernel_rfl)) (by decide) (fun K hK => ?_)
        refine goes_ Try.func17 (by kernel_rfl) rfl #[.slice A321_0 (rd_L3 l0 x6_1).length c321_0, .agg #[.int .i64 x320000_1, .int .i64 x320001_1]] (by rfl) rfl rfl (by (try simp only [List.map_toArray, List.map_cons, List.map_nil]); (rfl)) ?_
        with_reducible refine (jj43.calls k1 _ _ (rd_L3 l0 x6_1) x320000_1 x320001_1 t322 t323 true _ ?side1 ?side2 A7.out).mono ?_
        (case side1 => repeat ((exact (Kd.C_below HR321_0.out HB.out))))
        (case side2 => exact HC321_0.out)
        rintro e w11 ⟨rfl, hb⟩
        refine ⟨_, rfl, ?_⟩
        have n0_ := Aside0.mk (blk_below (g := gb319) (o := .cells #[.int .i64 x320000_1, .int .i64 x320001_1] 24 (0, 0)) (by (with_reducible repeat ((refine blk_drew ?_))); exact BK319.out) hb)
        have n1_ := Aside0.mk (blk_below (g := gb320) (o := .cells #[.int .i64 x321000_1, .int .i64 x321001_1] 24 (0, 0)) (by (with_reducible repeat ((refine blk_drew ?_))); exact BK320.out) hb)
        have n2_ := Aside0.mk (blk_below (g := gb325) (o := .cells #[.int .i64 0, .int .i64 0] 24 (0, 0)) (by (with_reducible repeat ((refine blk_drew ?_))); exact BK325.out) hb)
        have n3_ := Aside0.mk (below_step (by repeat ((with_reducible (exact HB.out)))) hb)
        clear BK319
        clear BK320
        clear BK325
        clear HB
        have BK319 := n0_
        have BK320 := n1_
        have BK325 := n2_
        have HB := n3_
        clear n0_ n1_ n2_ n3_
        (try clear hb)
        (try clear hb2)
        (try clear hk)
        (try clear hi)
        refine hK.out _ _ ⟨(blk_cell BK319.out 0).trans rfl, (blk_cell BK319.out 1).trans rfl, ((HB.out.cell (World.block_lt_of_cell? w _ hw321_0)).trans hw321_0)⟩ (fun hHeld => ?_)
        clear hK K
        refine norm_ (a' := ?_) ?_ ?_
        rotate_left
        ·show Act.put _ (some 21) _ = _
         simp only [Act.put, List.setIfInBounds_toArray, List.set_cons_zero, List.set_cons_succ, i64_w, i32_w]
         rfl
        refine pure_ (i := 6) (N := some 15) (v := ?_) (a' := ?_) #[true, true, true, true, true, true, true, false, false, true, false, false] rfl rfl (any_of HT_.out (by kernel_rfl)) (fun _ _ _ h => h) (Or.inl ⟨by rfl, ?_⟩) ?_ ?_
        rotate_left
        ·intro w'
         go_simp
         with_reducible rfl
        rotate_left
        ·simp only [Act.put, List.setIfInBounds_toArray, List.set_cons_zero, List.set_cons_succ, i64_w, i32_w]
         rfl
        refine pure_ (i := 7) (N := some 22) (v := ?_) (a' := ?_) #[true, true, true, true, true, true, true, true, false, true, false, false] rfl rfl (any_of HT_.out (by kernel_rfl)) (fun _ _ _ h => h) (Or.inl ⟨by rfl, ?_⟩) ?_ ?_
        rotate_left
        ·intro w'
         go_simp
         with_reducible rfl
        rotate_left
        ·simp only [Act.put, List.setIfInBounds_toArray, List.set_cons_zero, List.set_cons_succ, i64_w, i32_w]
         rfl
        refine pure_ (i := 8) (N := some 23) (v := ?_) (a' := ?_) #[true, true, true, true, true, true, true, true, true, true, false, false] rfl rfl (any_of HT_.out (by kernel_rfl)) (fun _ _ _ h => h) (Or.inl ⟨by rfl, ?_⟩) ?_ ?_
        rotate_left
        ·intro w'
         go_simp
         with_reducible rfl
        rotate_left
        ·simp only [Act.put, List.setIfInBounds_toArray, List.set_cons_zero, List.set_cons_succ, i64_w, i32_w]
         rfl
        exact norm_ (by simp only [putAll, Act.put, List.setIfInBounds_toArray, List.set_cons_zero, List.set_cons_succ]) (hCont (gb325) _ ⟨hHeld, (by (with_reducible repeat ((refine blk_drew ?_))); exact BK319.out), (by (with_reducible repeat ((refine blk_drew ?_))); exact BK320.out), (by (with_reducible repeat ((refine blk_drew ?_))); exact BK325.out), GW325.out, GE325.out, NB319_325.out, NB325_319.out, NB320_325.out, NB325_320.out, (by repeat ((with_reducible (exact HB.out))))⟩)
      rintro gb325 w12 ⟨hS_, h0_, h1_, h2_, h3_, h4_, h5_, h6_, h7_, h8_, h9_⟩
      have n0_ : Aside0 (w12.heap[gb319]? = some (.cells #[.int .i64 x320000_1, .int .i64 x320001_1] 24 (0, 0))) := ⟨h0_⟩
      have n1_ : Aside0 (w12.heap[gb320]? = some (.cells #[.int .i64 x321000_1, .int .i64 x321001_1] 24 (0, 0))) := ⟨h1_⟩
      have n2_ : Aside0 (w12.heap[gb325]? = some (.cells #[.int .i64 0, .int .i64 0] 24 (0, 0))) := ⟨h2_⟩
      have n3_ : Aside0 (w.heap.size ≤ gb325) := ⟨h3_⟩
      have n4_ : Aside0 (w.heap.size ≤ gb325) := ⟨h4_⟩
      have n5_ : Aside0 (gb319 ≠ gb325) := ⟨h5_⟩
      have n6_ : Aside0 (gb325 ≠ gb319) := ⟨h6_⟩
      have n7_ : Aside0 (gb320 ≠ gb325) := ⟨h7_⟩
      have n8_ : Aside0 (gb325 ≠ gb320) := ⟨h8_⟩
      have n9_ : Aside0 (Below w.heap.size w w12) := ⟨h9_⟩
      clear BK319
      clear BK320
      clear HB
      clear h0_ h1_ h2_ h3_ h4_ h5_ h6_ h7_ h8_ h9_
      have BK319 := n0_
      have BK320 := n1_
      have BK325 := n2_
      have GW325 := n3_
      have GE325 := n4_
      have NB319_325 := n5_
      have NB325_319 := n6_
      have NB320_325 := n7_
      have NB325_320 := n8_
      have HB := n9_
      clear n0_ n1_ n2_ n3_ n4_ n5_ n6_ n7_ n8_ n9_
      have hHeld : w12.cell? ⟨gb319, 0, none⟩ = some (.int .i64 x320000_1) ∧ w12.cell? ⟨gb319, 1, none⟩ = some (.int .i64 x320001_1) ∧ w12.cell? (ad321.add (x6_1).toNat) = some (.slice A321_0 (rd_L3 l0 x6_1).length c321_0) := hS_
      refine norm_ (a' := ?_) ?_ ?_
      rotate_left
      ·simp only [putAll, Act.put, List.setIfInBounds_toArray, List.set_cons_zero, List.set_cons_succ]
       rfl
      refine one_ (i := 10) (N := none) #[true, true, true, true, true, true, true, true, true, true, true, false] rfl rfl (one_of HT_.out (by kernel_rfl)) (by decide) (fun K hK => ?_)
      have hs13 : w12.cell? ⟨gb325, 0, none⟩ = some (.int .i64 0) := (blk_cell BK325.out 0).trans rfl
      have hfs13 := blk_frozen BK325.out 0
      have hns13_0 := NB319_325.out
      have hns13_1 := NB320_325.out
      have hms13_0 := NB325_319.out
      have hms13_1 := NB325_320.out
      have hs14 : w12.cell? ⟨gb325, 1, none⟩ = some (.int .i64 0) := (blk_cell BK325.out 1).trans rfl
      have hfs14 := blk_frozen BK325.out 1
      have hns14_0 := NB319_325.out
      have hns14_1 := NB320_325.out
      have hms14_0 := NB325_319.out
      have hms14_1 := NB325_320.out
      refine skip_ (w1 := ?_) (by rfl) rfl ?_ ?_
      rotate_left
      ·go_simp
       rfl
      refine hK.out _ _ ⟨((cell_far (p := ⟨gb325, _, none⟩) NB319_325.out _).trans (((cell_far (p := ⟨gb325, _, none⟩) NB319_325.out _).trans (hHeld.1)))), ((cell_far (p := ⟨gb325, _, none⟩) NB319_325.out _).trans (((cell_far (p := ⟨gb325, _, none⟩) NB319_325.out _).trans (hHeld.2.1)))), ((cell_far (p := ⟨gb325, _, none⟩) (by (exact Nat.ne_of_lt (Nat.lt_of_lt_of_le (by have := World.block_lt_of_cell? _ _ hw321_0; (exact this)) GW325.out))) _).trans (((cell_far (p := ⟨gb325, _, none⟩) (by (exact Nat.ne_of_lt (Nat.lt_of_lt_of_le (by have := World.block_lt_of_cell? _ _ hw321_0; (exact this)) GW325.out))) _).trans (hHeld.2.2))))⟩ (fun hHeld => ?_)
      clear hK K
      refine pure_ (i := 11) (N := some 8) (v := ?_) (a' := ?_) #[true, true, true, true, true, true, true, true, true, true, true, true] rfl rfl (any_of HT_.out (by kernel_rfl)) (fun _ _ _ h => h) (Or.inl ⟨by rfl, ?_⟩) ?_ ?_
      rotate_left
      ·intro w'
       go_simp
       with_reducible rfl
      rotate_left
      ·simp only [Act.put, List.setIfInBounds_toArray, List.set_cons_zero, List.set_cons_succ, i64_w, i32_w]
       rfl
      refine done_ (done_of HT_.out (by kernel_rfl)) ?_
      have hnb15 := NB325_319.out
      have hnc15 := NB319_325.out
      have hnb16 := NB325_320.out
      have hnc16 := NB320_325.out
      have hcz17_0 : w12.cell? ⟨gb325, 0, none⟩ = some (.int .i64 0) := (blk_cell BK325.out 0).trans rfl
      have hcz17_1 : w12.cell? ⟨gb325, 1, none⟩ = some (.int .i64 0) := (blk_cell BK325.out 1).trans rfl
      have hfz17_0 := blk_frozen BK325.out 0
      have hfz17_1 := blk_frozen BK325.out 1
      have hnb18 := NB319_320.out
      have hnc18 := NB320_319.out
      have hcz19_0 : w12.cell? ⟨gb319, 0, none⟩ = some (.int .i64 x320000_1) := (blk_cell BK319.out 0).trans rfl
      have hcz19_1 : w12.cell? ⟨gb319, 1, none⟩ = some (.int .i64 x320001_1) := (blk_cell BK319.out 1).trans rfl
      have hfz19_0 := blk_frozen BK319.out 0
      have hfz19_1 := blk_frozen BK319.out 1
      try go_wp2
      go_roundg k1
      case measure => have := HK1.out; omega
      case rel => exact ⟨(wrap64 (x6_1 + 1)), (t322), (t323), (x321000_1), (x321001_1), (by (rfl)), H', ⟨by have := HK1.out; omega⟩, ⟨by (with_reducible repeat ((refine blk_drew ?_))); refine blk_put (cs := #[.int .i64 t322, .int .i64 x320001_1]) ?_ 1 _ rfl; (with_reducible repeat ((refine blk_drew ?_))); refine blk_put (cs := #[.int .i64 x320000_1, .int .i64 x320001_1]) ?_ 0 _ rfl; (with_reducible repeat ((refine blk_drew ?_))); refine blk_far ?_ NB319_325.out _; (with_reducible repeat ((refine blk_drew ?_))); refine blk_far ?_ NB319_325.out _; (with_reducible repeat ((refine blk_drew ?_))); exact BK319.out⟩, ⟨by (with_reducible repeat ((refine blk_drew ?_))); refine blk_far ?_ NB320_319.out _; (with_reducible repeat ((refine blk_drew ?_))); refine blk_far ?_ NB320_319.out _; (with_reducible repeat ((refine blk_drew ?_))); refine blk_far ?_ NB320_325.out _; (with_reducible repeat ((refine blk_drew ?_))); refine blk_far ?_ NB320_325.out _; (with_reducible repeat ((refine blk_drew ?_))); exact BK320.out⟩, ⟨by repeat ((with_reducible first | exact HB.out | refine below_set ?_ GE319.out | refine below_set ?_ GE325.out))⟩⟩
     ·replace c8 := Bool.eq_false_iff.mpr c8
      subst c8
      have H1 : (some (0, 0, false)) = some (r1, r2, r3) := by rw [if_neg (show ¬ (false = true) by decide)] at H; exact H
      clear H
      have H := H1
      clear H1
      simp only [Option.some.injEq, Prod.mk.injEq] at H
      obtain ⟨rfl, rfl, rfl⟩ := H
      try go_wp2
      have n0_ := Aside0.mk (blk_drew BK319.out)
      have n1_ := Aside0.mk (blk_drew BK320.out)
      have n2_ := Aside0.mk (below_drew1 HB.out)
      clear BK319
      clear BK320
      clear HB
      have BK319 := n0_
      have BK320 := n1_
      have HB := n2_
      clear n0_ n1_ n2_
      have p321 : 0 ≤ (x6_1 : Int) := of_decide_eq_true (by (with_reducible assumption))
      have q321 : x6_1 < (l0.length : Int) := of_decide_eq_true (by (with_reducible assumption))
      obtain ⟨ad321, A321_0, c321_0, e321, hx321_0, hl321_0, hi321_0⟩ := at_L3 HR0.out x6_1 p321 q321
      have hw321_0 := hx321_0
      cases e321
      replace hx321_0 := (HB.out.cell (World.block_lt_of_cell? w _ hx321_0)).trans hx321_0
      have HR321_0 := Aside0.mk hi321_0
      have HC321_0 := Aside0.mk hl321_0
      clear hi321_0 hl321_0
      replace p321 := eq_true p321
      replace q321 := eq_true q321
      refine start_ (n := 12) (S := fun w' => w'.cell? ⟨gb319, 0, none⟩ = some (.int .i64 x320000_1) ∧ w'.cell? ⟨gb319, 1, none⟩ = some (.int .i64 x320001_1) ∧ w'.cell? (ad321.add (x6_1).toNat) = some (.slice A321_0 (rd_L3 l0 x6_1).length c321_0)) (ds := []) #[false, false, false, false, false, false, false, false, false, false, false, false] (by kernel_rfl) rfl rfl ⟨(blk_cell BK319.out 0).trans rfl, (blk_cell BK319.out 1).trans rfl, ((HB.out.cell (World.block_lt_of_cell? w _ hw321_0)).trans hw321_0)⟩ (fun hHeld => ?_); refine with_tabW jj41.tab4 jj41.bits4 (fun HT_ HW_ => ?_)
      generalize wr.drew = w20 at BK319 BK320 HB HR321_0 hx321_0 hHeld ⊢
      refine pure_ (i := 0) (N := some 16) (v := ?_) (a' := ?_) #[true, false, false, false, false, false, false, false, false, false, false, false] rfl rfl (any_of HT_.out (by kernel_rfl)) (fun _ _ _ h => h) (Or.inl ⟨by rfl, ?_⟩) ?_ ?_
      rotate_left
      ·intro w'
       go_simp
       with_reducible rfl
      rotate_left
      ·simp only [Act.put, List.setIfInBounds_toArray, List.set_cons_zero, List.set_cons_succ, i64_w, i32_w]
       rfl
      refine pure_ (i := 1) (N := some 17) (v := ?_) (a' := ?_) #[true, true, false, false, false, false, false, false, false, false, false, false] rfl rfl (any_of HT_.out (by kernel_rfl)) (fun _ _ _ h => h) (Or.inl ⟨by rfl, ?_⟩) ?_ ?_
      rotate_left
      ·intro w'
       go_simp
       with_reducible rfl
      rotate_left
      ·simp only [Act.put, List.setIfInBounds_toArray, List.set_cons_zero, List.set_cons_succ, i64_w, i32_w]
       rfl
      refine pure_ (i := 2) (N := some 18) (v := ?_) (a' := ?_) #[true, true, true, false, false, false, false, false, false, false, false, false] rfl rfl (any_of HT_.out (by kernel_rfl)) (fun _ _ _ h => h) (Or.inl ⟨by rfl, ?_⟩) ?_ ?_
      rotate_left
      ·intro w'
       go_simp
       with_reducible rfl
      rotate_left
      ·simp only [Act.put, List.setIfInBounds_toArray, List.set_cons_zero, List.set_cons_succ, i64_w, i32_w]
       rfl
      refine take_ (i := 3) (N := some 19) (v := ?_) (a' := ?_) #[true, true, true, true, false, false, false, false, false, false, false, false] rfl rfl (take_ofW HT_.out HW_.out (by kernel_rfl)) (fun _ _ _ h => h) (Or.inl ⟨by rfl, ?_⟩) hHeld ?_ ?_
      rotate_left
      ·rintro w' ⟨s0, s1, s2⟩
       go_simp
       with_reducible rfl
      rotate_left
      ·simp only [Act.put, List.setIfInBounds_toArray, List.set_cons_zero, List.set_cons_succ, i64_w, i32_w]
       rfl
      refine take_ (i := 4) (N := some 20) (v := ?_) (a' := ?_) #[true, true, true, true, true, false, false, false, false, false, false, false] rfl rfl (take_ofW HT_.out HW_.out (by kernel_rfl)) (fun _ _ _ h => h) (Or.inl ⟨by rfl, ?_⟩) hHeld ?_ ?_
      rotate_left
      ·rintro w' ⟨s0, s1, s2⟩
       go_simp
       with_reducible rfl
      rotate_left
      ·simp only [Act.put, List.setIfInBounds_toArray, List.set_cons_zero, List.set_cons_succ, i64_w, i32_w]
       rfl
      refine join_ (σ := Nat) 2 #[true, true, true, true, true, true, true, true, true, true, false, false] (fun s_ => [(21, .tuple #[.agg #[.int .i64 t322, .int .i64 t323], .bool false]), (7, .pointer (some ⟨s_, 0, none⟩)), (15, .tuple #[.agg #[.int .i64 t322, .int .i64 t323], .bool false]), (22, .agg #[.int .i64 t322, .int .i64 t323]), (23, .bool false)]) (fun s_ w' => (w'.cell? ⟨gb319, 0, none⟩ = some (.int .i64 x320000_1) ∧ w'.cell? ⟨gb319, 1, none⟩ = some (.int .i64 x320001_1) ∧ w'.cell? (ad321.add (x6_1).toNat) = some (.slice A321_0 (rd_L3 l0 x6_1).length c321_0)) ∧ (w'.heap[gb319]? = some (.cells #[.int .i64 x320000_1, .int .i64 x320001_1] 24 (0, 0))) ∧ (w'.heap[gb320]? = some (.cells #[.int .i64 x321000_1, .int .i64 x321001_1] 24 (0, 0))) ∧ (w'.heap[s_]? = some (.cells #[.int .i64 0, .int .i64 0] 24 (0, 0))) ∧ (w.heap.size ≤ s_) ∧ (w.heap.size ≤ s_) ∧ (gb319 ≠ s_) ∧ (s_ ≠ gb319) ∧ (gb320 ≠ s_) ∧ (s_ ≠ gb320) ∧ (Below w.heap.size w w')) ?_ ?_
      rotate_left
      ·intro hCont
       refine two_ (i := 5) (j := 9) (Ni := some 21) (Nj := some 7) #[true, true, true, true, true, true, false, false, false, false, false, false] #[true, true, true, true, true, false, false, false, false, true, false, false] rfl rfl rfl rfl (two_of HT_.out (by kernel_rfl)) (by decide) (by decide) (fun K hK => ?_) (fun K hK => ?_)
       ·skip
        refine goes_ Try.func17 (by kernel_rfl) rfl #[.slice A321_0 (rd_L3 l0 x6_1).length c321_0, .agg #[.int .i64 x320000_1, .int .i64 x320001_1]] (by rfl) rfl rfl (by (try simp only [List.map_toArray, List.map_cons, List.map_nil]); (rfl)) ?_
        with_reducible refine (jj43.calls k1 _ _ (rd_L3 l0 x6_1) x320000_1 x320001_1 t322 t323 false _ ?side1 ?side2 A7.out).mono ?_
        (case side1 => repeat ((exact (Kd.C_below HR321_0.out HB.out))))
        (case side2 => exact HC321_0.out)
        rintro e w21 ⟨rfl, hb⟩
        refine ⟨_, rfl, ?_⟩
        have n0_ := Aside0.mk (blk_below (g := gb319) (o := .cells #[.int .i64 x320000_1, .int .i64 x320001_1] 24 (0, 0)) (by (with_reducible repeat ((refine blk_drew ?_))); exact BK319.out) hb)
        have n1_ := Aside0.mk (blk_below (g := gb320) (o := .cells #[.int .i64 x321000_1, .int .i64 x321001_1] 24 (0, 0)) (by (with_reducible repeat ((refine blk_drew ?_))); exact BK320.out) hb)
        have n2_ := Aside0.mk (below_step (by repeat ((with_reducible (exact HB.out)))) hb)
        clear BK319
        clear BK320
        clear HB
        have BK319 := n0_
        have BK320 := n1_
        have HB := n2_
        clear n0_ n1_ n2_
        (try clear hb)
        (try clear hb2)
        (try clear hk)
        (try clear hi)
        refine hK.out _ _ ⟨(blk_cell BK319.out 0).trans rfl, (blk_cell BK319.out 1).trans rfl, ((HB.out.cell (World.block_lt_of_cell? w _ hw321_0)).trans hw321_0)⟩ (fun hHeld => ?_)
        clear hK K
        refine norm_ (a' := ?_) ?_ ?_
        rotate_left
        ·show Act.put _ (some 21) _ = _
         simp only [Act.put, List.setIfInBounds_toArray, List.set_cons_zero, List.set_cons_succ, i64_w, i32_w]
         rfl
        refine pure_ (i := 6) (N := some 15) (v := ?_) (a' := ?_) #[true, true, true, true, true, true, true, false, false, false, false, false] rfl rfl (any_of HT_.out (by kernel_rfl)) (fun _ _ _ h => h) (Or.inl ⟨by rfl, ?_⟩) ?_ ?_
        rotate_left
        ·intro w'
         go_simp
         with_reducible rfl
        rotate_left
        ·simp only [Act.put, List.setIfInBounds_toArray, List.set_cons_zero, List.set_cons_succ, i64_w, i32_w]
         rfl
        refine pure_ (i := 7) (N := some 22) (v := ?_) (a' := ?_) #[true, true, true, true, true, true, true, true, false, false, false, false] rfl rfl (any_of HT_.out (by kernel_rfl)) (fun _ _ _ h => h) (Or.inl ⟨by rfl, ?_⟩) ?_ ?_
        rotate_left
        ·intro w'
         go_simp
         with_reducible rfl
        rotate_left
        ·simp only [Act.put, List.setIfInBounds_toArray, List.set_cons_zero, List.set_cons_succ, i64_w, i32_w]
         rfl
        refine pure_ (i := 8) (N := some 23) (v := ?_) (a' := ?_) #[true, true, true, true, true, true, true, true, true, false, false, false] rfl rfl (any_of HT_.out (by kernel_rfl)) (fun _ _ _ h => h) (Or.inl ⟨by rfl, ?_⟩) ?_ ?_
        rotate_left
        ·intro w'
         go_simp
         with_reducible rfl
        rotate_left
        ·simp only [Act.put, List.setIfInBounds_toArray, List.set_cons_zero, List.set_cons_succ, i64_w, i32_w]
         rfl
        refine one_ (i := 9) (N := some 7) #[true, true, true, true, true, true, true, true, true, true, false, false] rfl rfl (one_of HT_.out (by kernel_rfl)) (by decide) (fun K hK => ?_)
        refine box_step ?hg (N := 7) ?hd (cs := #[.int .i64 0, .int .i64 0]) (t := 24) ?hr ?_; (case hd => rfl); (case hg => rfl); (case hr => (go_simp; done))
        intro gb325 hg w22 hbox hb
        have n0_ := Aside0.mk (blk_below (g := gb319) (o := .cells #[.int .i64 x320000_1, .int .i64 x320001_1] 24 (0, 0)) (by (with_reducible repeat ((refine blk_drew ?_))); exact BK319.out) hb)
        have n1_ := Aside0.mk (blk_below (g := gb320) (o := .cells #[.int .i64 x321000_1, .int .i64 x321001_1] 24 (0, 0)) (by (with_reducible repeat ((refine blk_drew ?_))); exact BK320.out) hb)
        have n2_ := Aside0.mk (below_step (by repeat ((with_reducible (exact HB.out)))) hb)
        have n3_ := Aside0.mk (hbox)
        have n4_ := Aside0.mk ((by rw [hg]; exact (below_size (by repeat ((with_reducible (exact HB.out))))) : w.heap.size ≤ gb325))
        have n5_ := Aside0.mk ((by rw [hg]; exact (below_size (by repeat ((with_reducible (exact HB.out))))) : w.heap.size ≤ gb325))
        have n6_ := Aside0.mk ((by rw [hg]; exact Nat.ne_of_lt (blk_lt (g := gb319) (o := .cells #[.int .i64 x320000_1, .int .i64 x320001_1] 24 (0, 0)) (by (with_reducible repeat ((refine blk_drew ?_))); exact BK319.out)) : gb319 ≠ gb325))
        have n7_ := Aside0.mk ((by rw [hg]; exact Nat.ne_of_gt (blk_lt (g := gb319) (o := .cells #[.int .i64 x320000_1, .int .i64 x320001_1] 24 (0, 0)) (by (with_reducible repeat ((refine blk_drew ?_))); exact BK319.out)) : gb325 ≠ gb319))
        have n8_ := Aside0.mk ((by rw [hg]; exact Nat.ne_of_lt (blk_lt (g := gb320) (o := .cells #[.int .i64 x321000_1, .int .i64 x321001_1] 24 (0, 0)) (by (with_reducible repeat ((refine blk_drew ?_))); exact BK320.out)) : gb320 ≠ gb325))
        have n9_ := Aside0.mk ((by rw [hg]; exact Nat.ne_of_gt (blk_lt (g := gb320) (o := .cells #[.int .i64 x321000_1, .int .i64 x321001_1] 24 (0, 0)) (by (with_reducible repeat ((refine blk_drew ?_))); exact BK320.out)) : gb325 ≠ gb320))
        clear BK319
        clear BK320
        clear HB
        have BK319 := n0_
        have BK320 := n1_
        have HB := n2_
        have BK325 := n3_
        have GW325 := n4_
        have GE325 := n5_
        have NB319_325 := n6_
        have NB325_319 := n7_
        have NB320_325 := n8_
        have NB325_320 := n9_
        clear n0_ n1_ n2_ n3_ n4_ n5_ n6_ n7_ n8_ n9_
        clear hb hbox hg
        refine hK.out _ _ ⟨(blk_cell BK319.out 0).trans rfl, (blk_cell BK319.out 1).trans rfl, ((HB.out.cell (World.block_lt_of_cell? w _ hw321_0)).trans hw321_0)⟩ (fun hHeld => ?_)
        clear hK K
        refine norm_ (a' := ?_) ?_ ?_
        rotate_left
        ·show Act.put _ (some 7) _ = _
         simp only [Act.put, List.setIfInBounds_toArray, List.set_cons_zero, List.set_cons_succ, i64_w, i32_w]
         rfl
        exact norm_ (by simp only [putAll, Act.put, List.setIfInBounds_toArray, List.set_cons_zero, List.set_cons_succ]) (hCont (gb325) _ ⟨hHeld, (by (with_reducible repeat ((refine blk_drew ?_))); exact BK319.out), (by (with_reducible repeat ((refine blk_drew ?_))); exact BK320.out), (by (with_reducible repeat ((refine blk_drew ?_))); exact BK325.out), GW325.out, GE325.out, NB319_325.out, NB325_319.out, NB320_325.out, NB325_320.out, (by repeat ((with_reducible (exact HB.out))))⟩)
       ·skip
        refine box_step ?hg (N := 7) ?hd (cs := #[.int .i64 0, .int .i64 0]) (t := 24) ?hr ?_; (case hd => rfl); (case hg => rfl); (case hr => (go_simp; done))
        intro gb325 hg w21 hbox hb
        have n0_ := Aside0.mk (blk_below (g := gb319) (o := .cells #[.int .i64 x320000_1, .int .i64 x320001_1] 24 (0, 0)) (by (with_reducible repeat ((refine blk_drew ?_))); exact BK319.out) hb)
        have n1_ := Aside0.mk (blk_below (g := gb320) (o := .cells #[.int .i64 x321000_1, .int .i64 x321001_1] 24 (0, 0)) (by (with_reducible repeat ((refine blk_drew ?_))); exact BK320.out) hb)
        have n2_ := Aside0.mk (below_step (by repeat ((with_reducible (exact HB.out)))) hb)
        have n3_ := Aside0.mk (hbox)
        have n4_ := Aside0.mk ((by rw [hg]; exact (below_size (by repeat ((with_reducible (exact HB.out))))) : w.heap.size ≤ gb325))
        have n5_ := Aside0.mk ((by rw [hg]; exact (below_size (by repeat ((with_reducible (exact HB.out))))) : w.heap.size ≤ gb325))
        have n6_ := Aside0.mk ((by rw [hg]; exact Nat.ne_of_lt (blk_lt (g := gb319) (o := .cells #[.int .i64 x320000_1, .int .i64 x320001_1] 24 (0, 0)) (by (with_reducible repeat ((refine blk_drew ?_))); exact BK319.out)) : gb319 ≠ gb325))
        have n7_ := Aside0.mk ((by rw [hg]; exact Nat.ne_of_gt (blk_lt (g := gb319) (o := .cells #[.int .i64 x320000_1, .int .i64 x320001_1] 24 (0, 0)) (by (with_reducible repeat ((refine blk_drew ?_))); exact BK319.out)) : gb325 ≠ gb319))
        have n8_ := Aside0.mk ((by rw [hg]; exact Nat.ne_of_lt (blk_lt (g := gb320) (o := .cells #[.int .i64 x321000_1, .int .i64 x321001_1] 24 (0, 0)) (by (with_reducible repeat ((refine blk_drew ?_))); exact BK320.out)) : gb320 ≠ gb325))
        have n9_ := Aside0.mk ((by rw [hg]; exact Nat.ne_of_gt (blk_lt (g := gb320) (o := .cells #[.int .i64 x321000_1, .int .i64 x321001_1] 24 (0, 0)) (by (with_reducible repeat ((refine blk_drew ?_))); exact BK320.out)) : gb325 ≠ gb320))
        clear BK319
        clear BK320
        clear HB
        have BK319 := n0_
        have BK320 := n1_
        have HB := n2_
        have BK325 := n3_
        have GW325 := n4_
        have GE325 := n5_
        have NB319_325 := n6_
        have NB325_319 := n7_
        have NB320_325 := n8_
        have NB325_320 := n9_
        clear n0_ n1_ n2_ n3_ n4_ n5_ n6_ n7_ n8_ n9_
        clear hb hbox hg
        refine hK.out _ _ ⟨(blk_cell BK319.out 0).trans rfl, (blk_cell BK319.out 1).trans rfl, ((HB.out.cell (World.block_lt_of_cell? w _ hw321_0)).trans hw321_0)⟩ (fun hHeld => ?_)
        clear hK K
        refine norm_ (a' := ?_) ?_ ?_
        rotate_left
        ·show Act.put _ (some 7) _ = _
         simp only [Act.put, List.setIfInBounds_toArray, List.set_cons_zero, List.set_cons_succ, i64_w, i32_w]
         rfl
        refine one_ (i := 5) (N := some 21) #[true, true, true, true, true, true, false, false, false, true, false, false] rfl rfl (one_of HT_.out (by kernel_rfl)) (by decide) (fun K hK => ?_)
        refine goes_ Try.func17 (by kernel_rfl) rfl #[.slice A321_0 (rd_L3 l0 x6_1).length c321_0, .agg #[.int .i64 x320000_1, .int .i64 x320001_1]] (by rfl) rfl rfl (by (try simp only [List.map_toArray, List.map_cons, List.map_nil]); (rfl)) ?_
        with_reducible refine (jj43.calls k1 _ _ (rd_L3 l0 x6_1) x320000_1 x320001_1 t322 t323 false _ ?side1 ?side2 A7.out).mono ?_
        (case side1 => repeat ((exact (Kd.C_below HR321_0.out HB.out))))
        (case side2 => exact HC321_0.out)
        rintro e w22 ⟨rfl, hb⟩
        refine ⟨_, rfl, ?_⟩
        have n0_ := Aside0.mk (blk_below (g := gb319) (o := .cells #[.int .i64 x320000_1, .int .i64 x320001_1] 24 (0, 0)) (by (with_reducible repeat ((refine blk_drew ?_))); exact BK319.out) hb)
        have n1_ := Aside0.mk (blk_below (g := gb320) (o := .cells #[.int .i64 x321000_1, .int .i64 x321001_1] 24 (0, 0)) (by (with_reducible repeat ((refine blk_drew ?_))); exact BK320.out) hb)
        have n2_ := Aside0.mk (blk_below (g := gb325) (o := .cells #[.int .i64 0, .int .i64 0] 24 (0, 0)) (by (with_reducible repeat ((refine blk_drew ?_))); exact BK325.out) hb)
        have n3_ := Aside0.mk (below_step (by repeat ((with_reducible (exact HB.out)))) hb)
        clear BK319
        clear BK320
        clear BK325
        clear HB
        have BK319 := n0_
        have BK320 := n1_
        have BK325 := n2_
        have HB := n3_
        clear n0_ n1_ n2_ n3_
        (try clear hb)
        (try clear hb2)
        (try clear hk)
        (try clear hi)
        refine hK.out _ _ ⟨(blk_cell BK319.out 0).trans rfl, (blk_cell BK319.out 1).trans rfl, ((HB.out.cell (World.block_lt_of_cell? w _ hw321_0)).trans hw321_0)⟩ (fun hHeld => ?_)
        clear hK K
        refine norm_ (a' := ?_) ?_ ?_
        rotate_left
        ·show Act.put _ (some 21) _ = _
         simp only [Act.put, List.setIfInBounds_toArray, List.set_cons_zero, List.set_cons_succ, i64_w, i32_w]
         rfl
        refine pure_ (i := 6) (N := some 15) (v := ?_) (a' := ?_) #[true, true, true, true, true, true, true, false, false, true, false, false] rfl rfl (any_of HT_.out (by kernel_rfl)) (fun _ _ _ h => h) (Or.inl ⟨by rfl, ?_⟩) ?_ ?_
        rotate_left
        ·intro w'
         go_simp
         with_reducible rfl
        rotate_left
        ·simp only [Act.put, List.setIfInBounds_toArray, List.set_cons_zero, List.set_cons_succ, i64_w, i32_w]
         rfl
        refine pure_ (i := 7) (N := some 22) (v := ?_) (a' := ?_) #[true, true, true, true, true, true, true, true, false, true, false, false] rfl rfl (any_of HT_.out (by kernel_rfl)) (fun _ _ _ h => h) (Or.inl ⟨by rfl, ?_⟩) ?_ ?_
        rotate_left
        ·intro w'
         go_simp
         with_reducible rfl
        rotate_left
        ·simp only [Act.put, List.setIfInBounds_toArray, List.set_cons_zero, List.set_cons_succ, i64_w, i32_w]
         rfl
        refine pure_ (i := 8) (N := some 23) (v := ?_) (a' := ?_) #[true, true, true, true, true, true, true, true, true, true, false, false] rfl rfl (any_of HT_.out (by kernel_rfl)) (fun _ _ _ h => h) (Or.inl ⟨by rfl, ?_⟩) ?_ ?_
        rotate_left
        ·intro w'
         go_simp
         with_reducible rfl
        rotate_left
        ·simp only [Act.put, List.setIfInBounds_toArray, List.set_cons_zero, List.set_cons_succ, i64_w, i32_w]
         rfl
        exact norm_ (by simp only [putAll, Act.put, List.setIfInBounds_toArray, List.set_cons_zero, List.set_cons_succ]) (hCont (gb325) _ ⟨hHeld, (by (with_reducible repeat ((refine blk_drew ?_))); exact BK319.out), (by (with_reducible repeat ((refine blk_drew ?_))); exact BK320.out), (by (with_reducible repeat ((refine blk_drew ?_))); exact BK325.out), GW325.out, GE325.out, NB319_325.out, NB325_319.out, NB320_325.out, NB325_320.out, (by repeat ((with_reducible (exact HB.out))))⟩)
      rintro gb325 w23 ⟨hS_, h0_, h1_, h2_, h3_, h4_, h5_, h6_, h7_, h8_, h9_⟩
      have n0_ : Aside0 (w23.heap[gb319]? = some (.cells #[.int .i64 x320000_1, .int .i64 x320001_1] 24 (0, 0))) := ⟨h0_⟩
      have n1_ : Aside0 (w23.heap[gb320]? = some (.cells #[.int .i64 x321000_1, .int .i64 x321001_1] 24 (0, 0))) := ⟨h1_⟩
      have n2_ : Aside0 (w23.heap[gb325]? = some (.cells #[.int .i64 0, .int .i64 0] 24 (0, 0))) := ⟨h2_⟩
      have n3_ : Aside0 (w.heap.size ≤ gb325) := ⟨h3_⟩
      have n4_ : Aside0 (w.heap.size ≤ gb325) := ⟨h4_⟩
      have n5_ : Aside0 (gb319 ≠ gb325) := ⟨h5_⟩
      have n6_ : Aside0 (gb325 ≠ gb319) := ⟨h6_⟩
      have n7_ : Aside0 (gb320 ≠ gb325) := ⟨h7_⟩
      have n8_ : Aside0 (gb325 ≠ gb320) := ⟨h8_⟩
      have n9_ : Aside0 (Below w.heap.size w w23) := ⟨h9_⟩
      clear BK319
      clear BK320
      clear HB
      clear h0_ h1_ h2_ h3_ h4_ h5_ h6_ h7_ h8_ h9_
      have BK319 := n0_
      have BK320 := n1_
      have BK325 := n2_
      have GW325 := n3_
      have GE325 := n4_
      have NB319_325 := n5_
      have NB325_319 := n6_
      have NB320_325 := n7_
      have NB325_320 := n8_
      have HB := n9_
      clear n0_ n1_ n2_ n3_ n4_ n5_ n6_ n7_ n8_ n9_
      have hHeld : w23.cell? ⟨gb319, 0, none⟩ = some (.int .i64 x320000_1) ∧ w23.cell? ⟨gb319, 1, none⟩ = some (.int .i64 x320001_1) ∧ w23.cell? (ad321.add (x6_1).toNat) = some (.slice A321_0 (rd_L3 l0 x6_1).length c321_0) := hS_
      refine norm_ (a' := ?_) ?_ ?_
      rotate_left
      ·simp only [putAll, Act.put, List.setIfInBounds_toArray, List.set_cons_zero, List.set_cons_succ]
       rfl
      refine one_ (i := 10) (N := none) #[true, true, true, true, true, true, true, true, true, true, true, false] rfl rfl (one_of HT_.out (by kernel_rfl)) (by decide) (fun K hK => ?_)
      have hs24 : w23.cell? ⟨gb325, 0, none⟩ = some (.int .i64 0) := (blk_cell BK325.out 0).trans rfl
      have hfs24 := blk_frozen BK325.out 0
      have hns24_0 := NB319_325.out
      have hns24_1 := NB320_325.out
      have hms24_0 := NB325_319.out
      have hms24_1 := NB325_320.out
      have hs25 : w23.cell? ⟨gb325, 1, none⟩ = some (.int .i64 0) := (blk_cell BK325.out 1).trans rfl
      have hfs25 := blk_frozen BK325.out 1
      have hns25_0 := NB319_325.out
      have hns25_1 := NB320_325.out
      have hms25_0 := NB325_319.out
      have hms25_1 := NB325_320.out
      refine skip_ (w1 := ?_) (by rfl) rfl ?_ ?_
      rotate_left
      ·go_simp
       rfl
      refine hK.out _ _ ⟨((cell_far (p := ⟨gb325, _, none⟩) NB319_325.out _).trans (((cell_far (p := ⟨gb325, _, none⟩) NB319_325.out _).trans (hHeld.1)))), ((cell_far (p := ⟨gb325, _, none⟩) NB319_325.out _).trans (((cell_far (p := ⟨gb325, _, none⟩) NB319_325.out _).trans (hHeld.2.1)))), ((cell_far (p := ⟨gb325, _, none⟩) (by (exact Nat.ne_of_lt (Nat.lt_of_lt_of_le (by have := World.block_lt_of_cell? _ _ hw321_0; (exact this)) GW325.out))) _).trans (((cell_far (p := ⟨gb325, _, none⟩) (by (exact Nat.ne_of_lt (Nat.lt_of_lt_of_le (by have := World.block_lt_of_cell? _ _ hw321_0; (exact this)) GW325.out))) _).trans (hHeld.2.2))))⟩ (fun hHeld => ?_)
      clear hK K
      refine pure_ (i := 11) (N := some 8) (v := ?_) (a' := ?_) #[true, true, true, true, true, true, true, true, true, true, true, true] rfl rfl (any_of HT_.out (by kernel_rfl)) (fun _ _ _ h => h) (Or.inl ⟨by rfl, ?_⟩) ?_ ?_
      rotate_left
      ·intro w'
       go_simp
       with_reducible rfl
      rotate_left
      ·simp only [Act.put, List.setIfInBounds_toArray, List.set_cons_zero, List.set_cons_succ, i64_w, i32_w]
       rfl
      refine done_ (done_of HT_.out (by kernel_rfl)) ?_
      have hnb26 := NB320_319.out
      have hnc26 := NB319_320.out
      have hnb27 := NB320_325.out
      have hnc27 := NB325_320.out
      have hcz28_0 : w23.cell? ⟨gb320, 0, none⟩ = some (.int .i64 x321000_1) := (blk_cell BK320.out 0).trans rfl
      have hcz28_1 : w23.cell? ⟨gb320, 1, none⟩ = some (.int .i64 x321001_1) := (blk_cell BK320.out 1).trans rfl
      have hfz28_0 := blk_frozen BK320.out 0
      have hfz28_1 := blk_frozen BK320.out 1
      try go_wp2
      refine bodyPost_ret (results_ct rfl _ _ gb320 24 #[.int .i64 0, .int .i64 0] (0, 0) _ rfl (by (with_reducible repeat ((refine blk_drew ?_))); refine blk_put (cs := #[.int .i64 0, .int .i64 x321001_1]) ?_ 1 _ rfl; (with_reducible repeat ((refine blk_drew ?_))); refine blk_put (cs := #[.int .i64 x321000_1, .int .i64 x321001_1]) ?_ 0 _ rfl; (with_reducible repeat ((refine blk_drew ?_))); refine blk_far ?_ NB320_325.out _; (with_reducible repeat ((refine blk_drew ?_))); refine blk_far ?_ NB320_325.out _; (with_reducible repeat ((refine blk_drew ?_))); exact BK320.out) Try.underlying24 rfl (by kernel_rfl)) rfl ?_
      exact ⟨by (rfl), by repeat ((with_reducible first | exact HB.out | refine below_set ?_ GE320.out | refine below_set ?_ GE325.out))⟩
    ·rw [if_neg c6] at H
     exact absurd H (by simp)
   ·rw [if_neg c5] at H
    have c5b0 : decide (x6_1 < (l0.length : Int)) = false := decide_eq_false c5
    clear c5
    simp only [Option.some.injEq, Prod.mk.injEq] at H
    obtain ⟨rfl, rfl, rfl⟩ := H
    have hnb29 := NB319_320.out
    have hnc29 := NB320_319.out
    have hcz30_0 : wr.cell? ⟨gb319, 0, none⟩ = some (.int .i64 x320000_1) := (blk_cell BK319.out 0).trans rfl
    have hcz30_1 : wr.cell? ⟨gb319, 1, none⟩ = some (.int .i64 x320001_1) := (blk_cell BK319.out 1).trans rfl
    have hfz30_0 := blk_frozen BK319.out 0
    have hfz30_1 := blk_frozen BK319.out 1
    have hcz31_0 : wr.cell? ⟨gb320, 0, none⟩ = some (.int .i64 x321000_1) := (blk_cell BK320.out 0).trans rfl
    have hcz31_1 : wr.cell? ⟨gb320, 1, none⟩ = some (.int .i64 x321001_1) := (blk_cell BK320.out 1).trans rfl
    have hfz31_0 := blk_frozen BK320.out 0
    have hfz31_1 := blk_frozen BK320.out 1
    go_wp2
    refine bodyPost_ret (results_ct rfl _ _ gb320 24 #[.int .i64 x320000_1, .int .i64 x320001_1] (0, 0) _ rfl (by (with_reducible repeat ((refine blk_drew ?_))); refine blk_put (cs := #[.int .i64 x320000_1, .int .i64 x321001_1]) ?_ 1 _ rfl; (with_reducible repeat ((refine blk_drew ?_))); refine blk_put (cs := #[.int .i64 x321000_1, .int .i64 x321001_1]) ?_ 0 _ rfl; (with_reducible repeat ((refine blk_drew ?_))); exact BK320.out) Try.underlying24 rfl (by kernel_rfl)) rfl ?_
    exact ⟨by (rfl), by repeat ((with_reducible first | exact HB.out | refine below_set ?_ GE320.out))⟩
end Go.Proofs.Ythocalfgeaclgaa.P
end
-- MERGED YthocalfgeaclgaaPvariorumref10Same
section

namespace Go.Proofs.Ythocalfgeaclgaa.P
open Go.RowKit Go.Proofs.YthocalfgeaclgaaW.PrintWords Go.Proofs.YthocalfgeaclgaaW.PrintLast Go.Proofs.YthocalfgeaclgaaW.PrintMore
attribute [local go_sem] max2_int min2_int max_two min_two max_three min_three max_four min_four
set_option linter.unusedVariables false
set_option linter.unusedSimpArgs false
attribute [local go_sem high] eqA24
def jj42.l0 : Nat → List (S24) → List (S24) → Int → Option (Bool)
 | 0, _, _, _ => none
 | k + 1, x0, x1, x5 => if x5 < (x0.length : Int) then (if 0 ≤ x5 then (if x5 < (x1.length : Int) then (if (!(((rd_T24 x0 x5).f0) == ((rd_T24 x1 x5).f0)) || (!(((rd_T24 x0 x5).f1) == ((rd_T24 x1 x5).f1)))) = true then (some false) else (jj42.l0 k x0 x1 (wrap64 (x5 + 1)))) else (none)) else (none)) else (some true)
def jj42.f (k : Nat) (l0 : List (S24)) (l1 : List (S24)) : Option (Bool) := if (l0.length : Int) = (l1.length : Int) then (jj42.l0 k l0 l1 0) else (some false)
theorem jj42.mono_l : ∀ k, (∀ y0 y1 y2, LeO (jj42.l0 k y0 y1 y2) (jj42.l0 (k + 1) y0 y1 y2))
 | 0 => fun _ _ _ r h => by simp [jj42.l0] at h
 | k + 1 => by
  have ih0 := jj42.mono_l k
  ·intro y0 y1 y2
   unfold jj42.l0
   repeat' first | (with_reducible exact ih0 _ _ _) | (with_reducible exact LeO.refl _) | (with_reducible refine LeO.ite ?_ ?_)
theorem jj42.mono : ∀ a0 a1 k, LeO (jj42.f k a0 a1) (jj42.f (k + 1) a0 a1) := by
 intro a0 a1 k
 have ih0 := jj42.mono_l k
 unfold jj42.f
 repeat' first | (with_reducible exact ih0 _ _ _) | (with_reducible exact LeO.refl _) | (with_reducible refine LeO.ite ?_ ?_)
set_option maxHeartbeats 8000000 in
set_option maxRecDepth 100000 in
theorem jj42.calls (k : Nat) (A0 : Option Addr) (c0 : Nat) (l0 : List (S24)) (A1 : Option Addr) (c1 : Nat) (l1 : List (S24)) (r : Bool) (w : World) (hr0 : Kd.C k24 w A0 l0.length l0) (hc0 : l0.length ≤ c0) (hr1 : Kd.C k24 w A1 l1.length l1) (hc1 : l1.length ≤ c1) (h : jj42.f k l0 l1 = some r) :
  Calls Try.prog 31 #[.slice A0 l0.length c0, .slice A1 l1.length c1] w fun e w' => e = .returned (.bool r) ∧ Drawn0 w w' := by
 have hu24 := Try.underlying24
 have HR0 := Aside0.mk hr0
 have HC0 := Aside0.mk hc0
 clear hr0 hc0
 have HR1 := Aside0.mk hr1
 have HC1 := Aside0.mk hc1
 clear hr1 hc1
 have H : (if (l0.length : Int) = (l1.length : Int) then (jj42.l0 k l0 l1 0) else (some false)) = some r := h
 clear h
 by_cases c3 : (l0.length : Int) = (l1.length : Int)
 ·rw [if_pos c3] at H
  have c3b0 : ((l0.length : Int) == (l1.length : Int)) = true := beq_iff_eq.mpr c3
  have c3b1 : ((l0.length : Int) != (l1.length : Int)) = false := bne_eq_false_iff_eq.mpr c3
  have c3b2 : (l0.length == l1.length) = true := by (simp at c3 ⊢; omega)
  clear c3
  have H' := Aside0.mk H
  clear H
  go_enter Try.func31, Try.ntmps31
  go_wp2
  repeat (go_quiet (fail); try go_wp2)
  go_loopg [5] k (fun kq v5 w' => ∃ (x5_1 : Int), v5 = .int .i64 x5_1 ∧ Aside0 (jj42.l0 kq l0 l1 x5_1 = some r) ∧ Aside0 (kq ≤ k) ∧ Drawn0 w w')
  case atStart => exact ⟨(0), (by (rfl)), H', ⟨Nat.le_refl _⟩, by repeat ((exact Drawn0.refl _))⟩
  case round =>
   clear H'
   try clear c1
   try clear p2
   try clear c3
   try clear c3b0
   try clear c3b1
   try clear c3b2
   obtain ⟨x5_1, rfl, HA, HK1, ⟨m1, rfl⟩⟩ := hrel
   cases gk with
   | zero => exact absurd HA.out (by simp [jj42.l0])
   | succ k1 =>
    have H := HA.out
    clear HA
    simp only [jj42.l0] at H
    by_cases c4 : x5_1 < (l0.length : Int)
    ·rw [if_pos c4] at H
     have c4b0 : decide (x5_1 < (l0.length : Int)) = true := decide_eq_true c4
     clear c4
     by_cases c5 : 0 ≤ x5_1
     ·rw [if_pos c5] at H
      have c5b0 : decide (0 ≤ x5_1) = true := decide_eq_true c5
      clear c5
      by_cases c6 : x5_1 < (l1.length : Int)
      ·rw [if_pos c6] at H
       have c6b0 : decide (x5_1 < (l1.length : Int)) = true := decide_eq_true c6
       clear c6
       by_cases c7 : (!(((rd_T24 l0 x5_1).f0) == ((rd_T24 l1 x5_1).f0)) || (!(((rd_T24 l0 x5_1).f1) == ((rd_T24 l1 x5_1).f1)))) = true
       ·rw [if_pos c7] at H
        have c7b0 : (!(((rd_T24 l0 x5_1).f0) == ((rd_T24 l1 x5_1).f0)) || (!(((rd_T24 l0 x5_1).f1) == ((rd_T24 l1 x5_1).f1)))) = true := c7
        clear c7
        obtain rfl := Option.some.inj H
        have p326 : 0 ≤ (x5_1 : Int) := of_decide_eq_true (by (with_reducible assumption))
        have q326 : x5_1 < (l0.length : Int) := of_decide_eq_true (by (with_reducible assumption))
        obtain ⟨ad326, e326, hx326_0, hx326_1⟩ := at_T24 HR0.out x5_1 p326 q326
        cases e326
        replace p326 := eq_true p326
        replace q326 := eq_true q326
        have p327 : 0 ≤ (x5_1 : Int) := of_decide_eq_true (by (with_reducible assumption))
        have q327 : x5_1 < (l1.length : Int) := of_decide_eq_true (by (with_reducible assumption))
        obtain ⟨ad327, e327, hx327_0, hx327_1⟩ := at_T24 HR1.out x5_1 p327 q327
        cases e327
        replace p327 := eq_true p327
        replace q327 := eq_true q327
        go_wp2
        repeat (go_quiet (fail); try go_wp2)
        go_ret
        exact ⟨by (rfl), by repeat (first | exact Drawn0.refl _ | apply Drawn0.step)⟩
       ·rw [if_neg c7] at H
        have c7b0 : (!(((rd_T24 l0 x5_1).f0) == ((rd_T24 l1 x5_1).f0)) || (!(((rd_T24 l0 x5_1).f1) == ((rd_T24 l1 x5_1).f1)))) = false := by simpa using c7
        clear c7
        have H' := Aside0.mk H
        clear H
        have p326 : 0 ≤ (x5_1 : Int) := of_decide_eq_true (by (with_reducible assumption))
        have q326 : x5_1 < (l0.length : Int) := of_decide_eq_true (by (with_reducible assumption))
        obtain ⟨ad326, e326, hx326_0, hx326_1⟩ := at_T24 HR0.out x5_1 p326 q326
        cases e326
        replace p326 := eq_true p326
        replace q326 := eq_true q326
        have p327 : 0 ≤ (x5_1 : Int) := of_decide_eq_true (by (with_reducible assumption))
        have q327 : x5_1 < (l1.length : Int) := of_decide_eq_true (by (with_reducible assumption))
        obtain ⟨ad327, e327, hx327_0, hx327_1⟩ := at_T24 HR1.out x5_1 p327 q327
        cases e327
        replace p327 := eq_true p327
        replace q327 := eq_true q327
        go_wp2
        repeat (go_quiet (fail); try go_wp2)
        go_roundg k1
        case measure => have := HK1.out; omega
        case rel => exact ⟨(wrap64 (x5_1 + 1)), (by (rfl)), H', ⟨by have := HK1.out; omega⟩, by repeat (first | exact Drawn0.refl _ | apply Drawn0.step)⟩
      ·rw [if_neg c6] at H
       exact absurd H (by simp)
     ·rw [if_neg c5] at H
      exact absurd H (by simp)
    ·rw [if_neg c4] at H
     have c4b0 : decide (x5_1 < (l0.length : Int)) = false := decide_eq_false c4
     clear c4
     obtain rfl := Option.some.inj H
     go_wp2
     repeat (go_quiet (fail); try go_wp2)
     go_ret
     exact ⟨by (rfl), by repeat (first | exact Drawn0.refl _ | apply Drawn0.step)⟩
 ·rw [if_neg c3] at H
  have c3b0 : ((l0.length : Int) == (l1.length : Int)) = false := beq_eq_false_iff_ne.mpr c3
  have c3b1 : ((l0.length : Int) != (l1.length : Int)) = true := bne_iff_ne.mpr c3
  have c3b2 : (l0.length == l1.length) = false := by (simp at c3 ⊢; omega)
  obtain rfl := Option.some.inj H
  go_enter Try.func31, Try.ntmps31
  go_wp2
  repeat (go_quiet (fail); try go_wp2)
  go_ret
  exact ⟨by (rfl), by repeat ((exact Drawn0.refl _))⟩
end Go.Proofs.Ythocalfgeaclgaa.P
end
-- MERGED YthocalfgeaclgaaPvariorumlaw10PlaceMany
section

namespace Go.Proofs.Ythocalfgeaclgaa.P
open Go.RowKit Go.Proofs.YthocalfgeaclgaaW.PrintWords Go.Proofs.YthocalfgeaclgaaW.PrintLast Go.Proofs.YthocalfgeaclgaaW.PrintMore
attribute [local go_sem] max2_int min2_int max_two min_two max_three min_three max_four min_four
set_option linter.unusedVariables false
set_option linter.unusedSimpArgs false
attribute [local go_sem high] eqA24
mutual
def jj27.j0 : Nat → List (S37) → List (S24) → List (List (S37)) → Bool → Int → Int → Option (Bool)
 | 0, _, _, _, _, _, _ => none
 | k + 1, x0, x1, x2, x35, x329000, x329001 => if x35 = true then ((jj30.f).bind fun t330 => (some t330)) else (jj27.l0 k x0 x1 x2 x2 (x2.length : Int) 0 x329000 x329001)
def jj27.l0 : Nat → List (S37) → List (S24) → List (List (S37)) → List (List (S37)) → Int → Int → Int → Int → Option (Bool)
 | 0, _, _, _, _, _, _, _, _ => none
 | k + 1, x0, x1, x2, x37, x38, x39, x329000, x329001 => if x39 < x38 then (if 0 ≤ x39 then (if x39 < (x37.length : Int) then ((jj26.f k (rd_L3 x37 x39)).bind fun t332 => (if t332 = true then (jj27.l0 k x0 x1 x2 x37 x38 (wrap64 (x39 + 1)) x329000 x329001) else ((jj30.f).bind fun t333 => (some t333)))) else (none)) else (none)) else ((jj21.f k x0 x1).bind fun bt334 => (jj27.l1 k x0 x2 bt334.1 bt334.2 ([] : List (S24)) true x1 (x1.length : Int) 0 x329000 x329001))
def jj27.l1 : Nat → List (S37) → List (List (S37)) → List (S24) → Bool → List (S24) → Bool → List (S24) → Int → Int → Int → Int → Option (Bool)
 | 0, _, _, _, _, _, _, _, _, _, _, _ => none
 | k + 1, x0, x2, x11, x12, x13, x14, x54, x55, x56, x329000, x329001 => if x56 < x55 then (if 0 ≤ x56 then (if x56 < (x54.length : Int) then ((jj43.f k x0 ((rd_T24 x54 x56).f0) ((rd_T24 x54 x56).f1)).bind fun bt340 => (if x14 = true then (if x13.length < 8796093022208 then (jj27.l1 k x0 x2 x11 x12 (x13 ++ [(⟨bt340.1, bt340.2.1⟩ : S24)]) bt340.2.2 x54 x55 (wrap64 (x56 + 1)) x329000 x329001) else (none)) else (if x13.length < 8796093022208 then (jj27.l1 k x0 x2 x11 x12 (x13 ++ [(⟨bt340.1, bt340.2.1⟩ : S24)]) false x54 x55 (wrap64 (x56 + 1)) x329000 x329001) else (none)))) else (none)) else (none)) else (if x14 = true then (jj27.j3 k x2 x11 x12 x13 x14 x329000 x329001) else (jj27.j3 k x2 x11 x12 ([] : List (S24)) x14 x329000 x329001))
def jj27.j3 : Nat → List (List (S37)) → List (S24) → Bool → List (S24) → Bool → Int → Int → Option (Bool)
 | 0, _, _, _, _, _, _, _ => none
 | k + 1, x2, x11, x12, x13, x14, x329000, x329001 => (jj19.f k x2 x329000 x329001).bind fun bt350 => ((jj41.f k x2 x329000 x329001).bind fun bt354 => (if (x12 == x14) = true then ((jj42.f k x11 x13).bind fun t358 => (if t358 = true then (if (bt350.1 == bt354.1 && (bt350.2.1 == bt354.2.1)) = true then (if (bt350.2.2 == bt354.2.2) = true then ((jj30.f).bind fun t359 => (some t359)) else (some false)) else (some false)) else (some false))) else (some false)))
end
def jj27.f (k : Nat) (l0 : List (S37)) (l1 : List (S24)) (l2 : List (List (S37))) (a3_0 : Int) (a3_1 : Int) : Option (Bool) := (jj26.f k l0).bind fun t329 => (if t329 = true then (if (l1.length : Int) > 60 then (jj27.j0 k l0 l1 l2 true a3_0 a3_1) else (jj27.j0 k l0 l1 l2 (decide ((l2.length : Int) > 12)) a3_0 a3_1)) else (jj27.j0 k l0 l1 l2 true a3_0 a3_1))
theorem jj27.mono_l : ∀ k, (∀ y0 y1 y2 y3 y4 y5, LeO (jj27.j0 k y0 y1 y2 y3 y4 y5) (jj27.j0 (k + 1) y0 y1 y2 y3 y4 y5)) ∧ (∀ y0 y1 y2 y3 y4 y5 y6 y7, LeO (jj27.l0 k y0 y1 y2 y3 y4 y5 y6 y7) (jj27.l0 (k + 1) y0 y1 y2 y3 y4 y5 y6 y7)) ∧ (∀ y0 y1 y2 y3 y4 y5 y6 y7 y8 y9 y10, LeO (jj27.l1 k y0 y1 y2 y3 y4 y5 y6 y7 y8 y9 y10) (jj27.l1 (k + 1) y0 y1 y2 y3 y4 y5 y6 y7 y8 y9 y10)) ∧ (∀ y0 y1 y2 y3 y4 y5 y6, LeO (jj27.j3 k y0 y1 y2 y3 y4 y5 y6) (jj27.j3 (k + 1) y0 y1 y2 y3 y4 y5 y6))
 | 0 => ⟨fun _ _ _ _ _ _ r h => by simp [jj27.j0] at h, fun _ _ _ _ _ _ _ _ r h => by simp [jj27.l0] at h, fun _ _ _ _ _ _ _ _ _ _ _ r h => by simp [jj27.l1] at h, fun _ _ _ _ _ _ _ r h => by simp [jj27.j3] at h⟩
 | k + 1 => by
  obtain ⟨ih0, ih1, ih2, ih3⟩ := jj27.mono_l k
  refine ⟨?_, ?_, ?_, ?_⟩
  ·intro y0 y1 y2 y3 y4 y5
   unfold jj27.j0
   repeat' first | (with_reducible exact ih1 _ _ _ _ _ _ _ _) | (with_reducible exact LeO.refl _) | (with_reducible refine LeO.ite ?_ ?_)
  ·intro y0 y1 y2 y3 y4 y5 y6 y7
   unfold jj27.l0
   repeat' first | (with_reducible exact ih1 _ _ _ _ _ _ _ _) | (with_reducible exact ih2 _ _ _ _ _ _ _ _ _ _ _) | (with_reducible exact jj21.mono _ _ _) | (with_reducible exact jj26.mono _ _) | (with_reducible exact LeO.refl _) | (with_reducible refine LeO.ite ?_ ?_) | (with_reducible refine LeO.bind ?_ (fun _ => ?_))
  ·intro y0 y1 y2 y3 y4 y5 y6 y7 y8 y9 y10
   unfold jj27.l1
   repeat' first | (with_reducible exact ih2 _ _ _ _ _ _ _ _ _ _ _) | (with_reducible exact ih3 _ _ _ _ _ _ _) | (with_reducible exact jj43.mono _ _ _ _) | (with_reducible exact LeO.refl _) | (with_reducible refine LeO.ite ?_ ?_) | (with_reducible refine LeO.bind ?_ (fun _ => ?_))
  ·intro y0 y1 y2 y3 y4 y5 y6
   unfold jj27.j3
   repeat' first | (with_reducible exact jj19.mono _ _ _ _) | (with_reducible exact jj41.mono _ _ _ _) | (with_reducible exact jj42.mono _ _ _) | (with_reducible exact LeO.refl _) | (with_reducible refine LeO.ite ?_ ?_) | (with_reducible refine LeO.bind ?_ (fun _ => ?_))
theorem jj27.mono : ∀ a0 a1 a2 a3 a4 k, LeO (jj27.f k a0 a1 a2 a3 a4) (jj27.f (k + 1) a0 a1 a2 a3 a4) := by
 intro a0 a1 a2 a3 a4 k
 obtain ⟨ih0, ih1, ih2, ih3⟩ := jj27.mono_l k
 unfold jj27.f
 repeat' first | (with_reducible exact ih0 _ _ _ _ _ _) | (with_reducible exact jj26.mono _ _) | (with_reducible refine LeO.ite ?_ ?_) | (with_reducible refine LeO.bind ?_ (fun _ => ?_))
set_option maxHeartbeats 8000000 in
set_option maxRecDepth 100000 in
theorem jj27.calls (k : Nat) (A0 : Option Addr) (c0 : Nat) (l0 : List (S37)) (A1 : Option Addr) (c1 : Nat) (l1 : List (S24)) (A2 : Option Addr) (c2 : Nat) (l2 : List (List (S37))) (a3_0 : Int) (a3_1 : Int) (r : Bool) (w : World) (hr0 : Kd.C k37 w A0 l0.length l0) (hc0 : l0.length ≤ c0) (hr1 : Kd.C k24 w A1 l1.length l1) (hc1 : l1.length ≤ c1) (hr2 : Kd.C (Kd.slice 37 k37) w A2 l2.length l2) (hc2 : l2.length ≤ c2) (h : jj27.f k l0 l1 l2 a3_0 a3_1 = some r) (hr1_ : r = true) :
  Calls Try.prog 6 #[.slice A0 l0.length c0, .slice A1 l1.length c1, .slice A2 l2.length c2, .agg #[.int .i64 a3_0, .int .i64 a3_1]] w fun e w' => e = .returned (.bool r) ∧ Below w.heap.size w w' := by
 have HR1_ := Aside0.mk hr1_
 clear hr1_
 have hu24 := Try.underlying24
 have HR0 := Aside0.mk hr0
 have HC0 := Aside0.mk hc0
 clear hr0 hc0
 have HR1 := Aside0.mk hr1
 have HC1 := Aside0.mk hc1
 clear hr1 hc1
 have HR2 := Aside0.mk hr2
 have HC2 := Aside0.mk hc2
 clear hr2 hc2
 have HB := Aside0.mk (Below.refl w.heap.size w)
 have H : ((jj26.f k l0).bind fun t329 => (if t329 = true then (if (l1.length : Int) > 60 then (jj27.j0 k l0 l1 l2 true a3_0 a3_1) else (jj27.j0 k l0 l1 l2 (decide ((l2.length : Int) > 12)) a3_0 a3_1)) else (jj27.j0 k l0 l1 l2 true a3_0 a3_1))) = some r := h
 clear h
 have HC5 := Aside0.mk H
 clear H
 go_enter Try.func6, Try.ntmps6
 go_upto_region 1 with (first | ((with_reducible refine gate_dst (N := 7) rfl ?_); (try (refine gate_guard (by rfl) ?_; dsimp only)); refine box_event ?hg (N := 7) ?hd (cs := #[.int .i64 a3_0, .int .i64 a3_1]) (t := 24) ?hr ?_; (case hd => rfl); (case hg => rfl); (case hr => (go_simp; done)); intro gb328 hg w6 hbox hb; have n0_ := Aside0.mk (below_step (by repeat ((with_reducible (exact HB.out)))) hb); have n1_ := Aside0.mk (hbox); have n2_ := Aside0.mk ((by rw [hg]; exact (below_size (by repeat ((with_reducible (exact HB.out))))) : w.heap.size ≤ gb328)); have n3_ := Aside0.mk ((by rw [hg]; exact (below_size (by repeat ((with_reducible (exact HB.out))))) : w.heap.size ≤ gb328)); clear HB; have HB := n0_; have BK328 := n1_; have GW328 := n2_; have GE328 := n3_; clear n0_ n1_ n2_ n3_; clear hb hbox hg))
 (try simp only [Act.put, List.setIfInBounds_toArray, List.set_cons_zero, List.set_cons_succ])
 go_cut [35] (fun v35 wc => ∃ (kq : Nat) (x35_4 : Bool), v35 = .bool x35_4 ∧ Aside0 (jj27.j0 kq l0 l1 l2 x35_4 a3_0 a3_1 = some r) ∧ Aside0 (kq ≤ k) ∧ Aside0 (wc.heap[gb328]? = some (.cells #[.int .i64 a3_0, .int .i64 a3_1] 24 (0, 0))) ∧ Aside0 (Below w.heap.size w wc))
 case first =>
  have H := HC5.out
  clear HC5
  replace H := Option.bind_eq_some_iff.mp H
  obtain ⟨t329, A70, H⟩ := H
  replace H : (if t329 = true then (if (l1.length : Int) > 60 then (jj27.j0 k l0 l1 l2 true a3_0 a3_1) else (jj27.j0 k l0 l1 l2 (decide ((l2.length : Int) > 12)) a3_0 a3_1)) else (jj27.j0 k l0 l1 l2 true a3_0 a3_1)) = some r := H
  have A7 := Aside0.mk A70
  clear A70
  by_cases c8 : t329 = true
  ·subst c8
   have H1 : (if (l1.length : Int) > 60 then (jj27.j0 k l0 l1 l2 true a3_0 a3_1) else (jj27.j0 k l0 l1 l2 (decide ((l2.length : Int) > 12)) a3_0 a3_1)) = some r := by rw [if_pos rfl] at H; exact H
   clear H
   have H := H1
   clear H1
   by_cases c9 : (l1.length : Int) > 60
   ·rw [if_pos c9] at H
    have c9b0 : decide (60 < (l1.length : Int)) = true := decide_eq_true c9
    have c9b1 : decide (60 < l1.length) = true := decide_eq_true (by omega)
    clear c9
    ((skip))
    have H' := Aside0.mk H
    clear H
    go_wp2_with (first | ((with_reducible refine gate_callee (f := 12) rfl ?_); refine goesL_ (some 24) rfl rfl Try.func12 (by kernel_rfl) rfl #[.slice A0 l0.length c0] rfl (by (try simp only [List.map_toArray, List.map_cons, List.map_nil]); (rfl)) ?_; (with_reducible refine (jj26.calls k _ _ l0 true _ ?side1 ?side2 A7.out).mono ?_); (case side1 => repeat ((exact (Kd.C_below HR0.out HB.out)))); (case side2 => exact HC0.out); rintro e w10 ⟨rfl, hb⟩; refine ⟨_, rfl, ?_⟩; have n0_ := Aside0.mk (blk_below (g := gb328) (o := .cells #[.int .i64 a3_0, .int .i64 a3_1] 24 (0, 0)) (by (with_reducible repeat ((refine blk_drew ?_))); exact BK328.out) hb); have n1_ := Aside0.mk (below_step (by repeat ((with_reducible (exact HB.out)))) hb); clear BK328; clear HB; have BK328 := n0_; have HB := n1_; clear n0_ n1_; (try clear hb); (try clear hb2); (try clear hk); (try clear hi)))
    go_meet
    case rel => exact ⟨_, (true), (by (rfl)), H', ⟨by (omega)⟩, ⟨by (with_reducible repeat ((refine blk_drew ?_))); exact BK328.out⟩, ⟨by repeat ((with_reducible (exact HB.out)))⟩⟩
   ·rw [if_neg c9] at H
    have c9b0 : decide (60 < (l1.length : Int)) = false := decide_eq_false c9
    have c9b1 : decide (60 < l1.length) = false := decide_eq_false (by omega)
    clear c9
    ((skip))
    have H' := Aside0.mk H
    clear H
    go_wp2_with (first | ((with_reducible refine gate_callee (f := 12) rfl ?_); refine goesL_ (some 24) rfl rfl Try.func12 (by kernel_rfl) rfl #[.slice A0 l0.length c0] rfl (by (try simp only [List.map_toArray, List.map_cons, List.map_nil]); (rfl)) ?_; (with_reducible refine (jj26.calls k _ _ l0 true _ ?side1 ?side2 A7.out).mono ?_); (case side1 => repeat ((exact (Kd.C_below HR0.out HB.out)))); (case side2 => exact HC0.out); rintro e w11 ⟨rfl, hb⟩; refine ⟨_, rfl, ?_⟩; have n0_ := Aside0.mk (blk_below (g := gb328) (o := .cells #[.int .i64 a3_0, .int .i64 a3_1] 24 (0, 0)) (by (with_reducible repeat ((refine blk_drew ?_))); exact BK328.out) hb); have n1_ := Aside0.mk (below_step (by repeat ((with_reducible (exact HB.out)))) hb); clear BK328; clear HB; have BK328 := n0_; have HB := n1_; clear n0_ n1_; (try clear hb); (try clear hb2); (try clear hk); (try clear hi)))
    go_meet
    case rel => exact ⟨_, (decide ((l2.length : Int) > 12)), (by (rfl)), H', ⟨by (omega)⟩, ⟨by (with_reducible repeat ((refine blk_drew ?_))); exact BK328.out⟩, ⟨by repeat ((with_reducible (exact HB.out)))⟩⟩
  ·replace c8 := Bool.eq_false_iff.mpr c8
   subst c8
   have H1 : (jj27.j0 k l0 l1 l2 true a3_0 a3_1) = some r := by rw [if_neg (show ¬ (false = true) by decide)] at H; exact H
   clear H
   have H := H1
   clear H1
   have H' := Aside0.mk H
   clear H
   go_wp2_with (first | ((with_reducible refine gate_callee (f := 12) rfl ?_); refine goesL_ (some 24) rfl rfl Try.func12 (by kernel_rfl) rfl #[.slice A0 l0.length c0] rfl (by (try simp only [List.map_toArray, List.map_cons, List.map_nil]); (rfl)) ?_; (with_reducible refine (jj26.calls k _ _ l0 false _ ?side1 ?side2 A7.out).mono ?_); (case side1 => repeat ((exact (Kd.C_below HR0.out HB.out)))); (case side2 => exact HC0.out); rintro e w12 ⟨rfl, hb⟩; refine ⟨_, rfl, ?_⟩; have n0_ := Aside0.mk (blk_below (g := gb328) (o := .cells #[.int .i64 a3_0, .int .i64 a3_1] 24 (0, 0)) (by (with_reducible repeat ((refine blk_drew ?_))); exact BK328.out) hb); have n1_ := Aside0.mk (below_step (by repeat ((with_reducible (exact HB.out)))) hb); clear BK328; clear HB; have BK328 := n0_; have HB := n1_; clear n0_ n1_; (try clear hb); (try clear hb2); (try clear hk); (try clear hi)))
   go_meet
   case rel => exact ⟨_, (true), (by (rfl)), H', ⟨by (omega)⟩, ⟨by (with_reducible repeat ((refine blk_drew ?_))); exact BK328.out⟩, ⟨by repeat ((with_reducible (exact HB.out)))⟩⟩
 case rest =>
  clear HC5
  try clear c1
  try clear c2
  try clear p2
  try clear c6
  try clear c8
  try clear c9
  try clear c9b0
  try clear c9b1
  try clear c12
  obtain ⟨kq, x35_4, rfl, HA, HJ4, BK328, HB⟩ := hcut
  cases kq with
  | zero => exact absurd HA.out (by simp [jj27.j0])
  | succ kj4 =>
   have H := HA.out
   clear HA
   simp only [jj27.j0] at H
   by_cases c13 : x35_4 = true
   ·subst c13
    have H1 : ((jj30.f).bind fun t330 => (some t330)) = some r := by rw [if_pos rfl] at H; exact H
    clear H
    have H := H1
    clear H1
    replace H := Option.bind_eq_some_iff.mp H
    obtain ⟨t330, A140, H⟩ := H
    replace H : (some t330) = some r := H
    have A14 := Aside0.mk A140
    clear A140
    obtain rfl := Option.some.inj H
    go_wp2_with (first | ((with_reducible refine gate_callee (f := 13) rfl ?_); refine goesL_ (some 36) rfl rfl Try.func13 (by kernel_rfl) rfl #[] rfl (by (try simp only [List.map_toArray, List.map_cons, List.map_nil]); (done)) ?_; (with_reducible refine (jj30.calls  t330 _ A14.out).mono ?_); rintro e w15 ⟨rfl, hb⟩; refine ⟨_, rfl, ?_⟩; have n0_ := Aside0.mk (blk_below (g := gb328) (o := .cells #[.int .i64 a3_0, .int .i64 a3_1] 24 (0, 0)) (by (with_reducible repeat ((refine blk_drew ?_))); exact BK328.out) hb); have n1_ := Aside0.mk (below_step (by repeat ((with_reducible (exact HB.out)))) hb); clear BK328; clear HB; have BK328 := n0_; have HB := n1_; clear n0_ n1_; (try clear hb); (try clear hb2); (try clear hk); (try clear hi)))
    go_ret
    exact ⟨by (rfl), by repeat ((with_reducible (exact HB.out)))⟩
   ·replace c13 := Bool.eq_false_iff.mpr c13
    subst c13
    have H1 : (jj27.l0 kj4 l0 l1 l2 l2 (l2.length : Int) 0 a3_0 a3_1) = some r := by rw [if_neg (show ¬ (false = true) by decide)] at H; exact H
    clear H
    have H := H1
    clear H1
    have H' := Aside0.mk H
    clear H
    go_wp2
    go_loopg [39] kj4 (fun kq v39 w' => ∃ (x39_2 : Int), v39 = .int .i64 x39_2 ∧ Aside0 (jj27.l0 kq l0 l1 l2 l2 (l2.length : Int) x39_2 a3_0 a3_1 = some r) ∧ Aside0 (kq ≤ kj4) ∧ Aside0 (w'.heap[gb328]? = some (.cells #[.int .i64 a3_0, .int .i64 a3_1] 24 (0, 0))) ∧ Aside0 (Below w.heap.size w w'))
    case atStart => exact ⟨(0), (by (rfl)), H', ⟨Nat.le_refl _⟩, ⟨by (with_reducible repeat ((refine blk_drew ?_))); exact BK328.out⟩, ⟨by repeat ((with_reducible (exact HB.out)))⟩⟩
    case round =>
     clear H'
     try clear c1
     try clear c2
     try clear p2
     try clear c6
     try clear c8
     try clear c9
     try clear c9b0
     try clear c9b1
     try clear c12
     try clear c13
     try clear p2
     obtain ⟨x39_2, rfl, HA, HK2, BK328, HB⟩ := hrel
     cases gk with
     | zero => exact absurd HA.out (by simp [jj27.l0])
     | succ k2 =>
      have H := HA.out
      clear HA
      simp only [jj27.l0] at H
      by_cases c16 : x39_2 < (l2.length : Int)
      ·rw [if_pos c16] at H
       have c16b0 : decide (x39_2 < (l2.length : Int)) = true := decide_eq_true c16
       clear c16
       by_cases c17 : 0 ≤ x39_2
       ·rw [if_pos c17] at H
        have c17b0 : decide (0 ≤ x39_2) = true := decide_eq_true c17
        clear c17
        by_cases c18 : x39_2 < (l2.length : Int)
        ·rw [if_pos c18] at H
         have c18b0 : decide (x39_2 < (l2.length : Int)) = true := decide_eq_true c18
         clear c18
         replace H := Option.bind_eq_some_iff.mp H
         obtain ⟨t332, A190, H⟩ := H
         replace H : (if t332 = true then (jj27.l0 k2 l0 l1 l2 l2 (l2.length : Int) (wrap64 (x39_2 + 1)) a3_0 a3_1) else ((jj30.f).bind fun t333 => (some t333))) = some r := H
         have A19 := Aside0.mk A190
         clear A190
         by_cases c20 : t332 = true
         ·subst c20
          have H1 : (jj27.l0 k2 l0 l1 l2 l2 (l2.length : Int) (wrap64 (x39_2 + 1)) a3_0 a3_1) = some r := by rw [if_pos rfl] at H; exact H
          clear H
          have H := H1
          clear H1
          have H' := Aside0.mk H
          clear H
          have p331 : 0 ≤ (x39_2 : Int) := of_decide_eq_true (by (with_reducible assumption))
          have q331 : x39_2 < (l2.length : Int) := of_decide_eq_true (by (with_reducible assumption))
          obtain ⟨ad331, A331_0, c331_0, e331, hx331_0, hl331_0, hi331_0⟩ := at_L3 HR2.out x39_2 p331 q331
          cases e331
          replace hx331_0 := (HB.out.cell (World.block_lt_of_cell? w _ hx331_0)).trans hx331_0
          have HR331_0 := Aside0.mk hi331_0
          have HC331_0 := Aside0.mk hl331_0
          clear hi331_0 hl331_0
          replace p331 := eq_true p331
          replace q331 := eq_true q331
          go_wp2_with (first | ((with_reducible refine gate_callee (f := 12) rfl ?_); refine goesL_ (some 44) rfl rfl Try.func12 (by kernel_rfl) rfl #[.slice A331_0 (rd_L3 l2 x39_2).length c331_0] rfl (by (try simp only [List.map_toArray, List.map_cons, List.map_nil]); (rfl)) ?_; (with_reducible refine (jj26.calls k2 _ _ (rd_L3 l2 x39_2) true _ ?side1 ?side2 A19.out).mono ?_); (case side1 => repeat ((exact (Kd.C_below HR331_0.out HB.out)))); (case side2 => exact HC331_0.out); rintro e w21 ⟨rfl, hb⟩; refine ⟨_, rfl, ?_⟩; have n0_ := Aside0.mk (blk_below (g := gb328) (o := .cells #[.int .i64 a3_0, .int .i64 a3_1] 24 (0, 0)) (by (with_reducible repeat ((refine blk_drew ?_))); exact BK328.out) hb); have n1_ := Aside0.mk (below_step (by repeat ((with_reducible (exact HB.out)))) hb); clear BK328; clear HB; have BK328 := n0_; have HB := n1_; clear n0_ n1_; (try clear hb); (try clear hb2); (try clear hk); (try clear hi)))
          go_roundg k2
          case measure => have := HJ4.out; have := HK2.out; omega
          case rel => exact ⟨(wrap64 (x39_2 + 1)), (by (rfl)), H', ⟨by have := HJ4.out; have := HK2.out; omega⟩, ⟨by (with_reducible repeat ((refine blk_drew ?_))); exact BK328.out⟩, ⟨by repeat ((with_reducible (exact HB.out)))⟩⟩
         ·replace c20 := Bool.eq_false_iff.mpr c20
          subst c20
          have H1 : ((jj30.f).bind fun t333 => (some t333)) = some r := by rw [if_neg (show ¬ (false = true) by decide)] at H; exact H
          clear H
          have H := H1
          clear H1
          replace H := Option.bind_eq_some_iff.mp H
          obtain ⟨t333, A220, H⟩ := H
          replace H : (some t333) = some r := H
          have A22 := Aside0.mk A220
          clear A220
          obtain rfl := Option.some.inj H
          have p331 : 0 ≤ (x39_2 : Int) := of_decide_eq_true (by (with_reducible assumption))
          have q331 : x39_2 < (l2.length : Int) := of_decide_eq_true (by (with_reducible assumption))
          obtain ⟨ad331, A331_0, c331_0, e331, hx331_0, hl331_0, hi331_0⟩ := at_L3 HR2.out x39_2 p331 q331
          cases e331
          replace hx331_0 := (HB.out.cell (World.block_lt_of_cell? w _ hx331_0)).trans hx331_0
          have HR331_0 := Aside0.mk hi331_0
          have HC331_0 := Aside0.mk hl331_0
          clear hi331_0 hl331_0
          replace p331 := eq_true p331
          replace q331 := eq_true q331
          go_wp2_with (first | ((with_reducible refine gate_callee (f := 12) rfl ?_); refine goesL_ (some 44) rfl rfl Try.func12 (by kernel_rfl) rfl #[.slice A331_0 (rd_L3 l2 x39_2).length c331_0] rfl (by (try simp only [List.map_toArray, List.map_cons, List.map_nil]); (rfl)) ?_; (with_reducible refine (jj26.calls k2 _ _ (rd_L3 l2 x39_2) false _ ?side1 ?side2 A19.out).mono ?_); (case side1 => repeat ((exact (Kd.C_below HR331_0.out HB.out)))); (case side2 => exact HC331_0.out); rintro e w23 ⟨rfl, hb⟩; refine ⟨_, rfl, ?_⟩; have n0_ := Aside0.mk (blk_below (g := gb328) (o := .cells #[.int .i64 a3_0, .int .i64 a3_1] 24 (0, 0)) (by (with_reducible repeat ((refine blk_drew ?_))); exact BK328.out) hb); have n1_ := Aside0.mk (below_step (by repeat ((with_reducible (exact HB.out)))) hb); clear BK328; clear HB; have BK328 := n0_; have HB := n1_; clear n0_ n1_; (try clear hb); (try clear hb2); (try clear hk); (try clear hi)) | ((with_reducible refine gate_callee (f := 13) rfl ?_); refine goesL_ (some 46) rfl rfl Try.func13 (by kernel_rfl) rfl #[] rfl (by (try simp only [List.map_toArray, List.map_cons, List.map_nil]); (done)) ?_; (with_reducible refine (jj30.calls  t333 _ A22.out).mono ?_); rintro e w24 ⟨rfl, hb⟩; refine ⟨_, rfl, ?_⟩; have n0_ := Aside0.mk (blk_below (g := gb328) (o := .cells #[.int .i64 a3_0, .int .i64 a3_1] 24 (0, 0)) (by (with_reducible repeat ((refine blk_drew ?_))); exact BK328.out) hb); have n1_ := Aside0.mk (below_step (by repeat ((with_reducible (exact HB.out)))) hb); clear BK328; clear HB; have BK328 := n0_; have HB := n1_; clear n0_ n1_; (try clear hb); (try clear hb2); (try clear hk); (try clear hi)))
          go_ret
          exact ⟨by (rfl), by repeat ((with_reducible (exact HB.out)))⟩
        ·rw [if_neg c18] at H
         exact absurd H (by simp)
       ·rw [if_neg c17] at H
        exact absurd H (by simp)
      ·rw [if_neg c16] at H
       have c16b0 : decide (x39_2 < (l2.length : Int)) = false := decide_eq_false c16
       clear c16
       replace H := Option.bind_eq_some_iff.mp H
       obtain ⟨⟨t334, t335⟩, A250, H⟩ := H
       replace H : (jj27.l1 k2 l0 l2 t334 t335 ([] : List (S24)) true l1 (l1.length : Int) 0 a3_0 a3_1) = some r := H
       have A25 := Aside0.mk A250
       clear A250
       have H' := Aside0.mk H
       clear H
       go_wp2_with (first | ((with_reducible refine gate_callee (f := 28) rfl ?_); refine goesL_ (some 51) rfl rfl Try.func28 (by kernel_rfl) rfl #[.slice A0 l0.length c0, .slice A1 l1.length c1] rfl (by (try simp only [List.map_toArray, List.map_cons, List.map_nil]); (rfl)) ?_; (with_reducible refine (jj21.calls k2 _ _ l0 _ _ l1 t334 t335 _ ?side1 ?side2 ?side3 ?side4 A25.out).mono ?_); (case side1 => repeat ((exact (Kd.C_below HR0.out HB.out)))); (case side2 => exact HC0.out); (case side3 => repeat ((exact (Kd.C_below HR1.out HB.out)))); (case side4 => exact HC1.out); rintro e w26 ⟨v336, rfl, ho0, hb⟩; refine ⟨_, rfl, ?_⟩; have n0_ := Aside0.mk (Kd.R_lower (Kd.R_newB ho0 (g := gb328) (o := .cells #[.int .i64 a3_0, .int .i64 a3_1] 24 (0, 0)) (by (with_reducible repeat ((refine blk_drew ?_))); exact BK328.out)) (below_size (by repeat ((with_reducible (exact HB.out)))))); have n1_ := Aside0.mk (blk_below (g := gb328) (o := .cells #[.int .i64 a3_0, .int .i64 a3_1] 24 (0, 0)) (by (with_reducible repeat ((refine blk_drew ?_))); exact BK328.out) hb); have n2_ := Aside0.mk (below_step (by repeat ((with_reducible (exact HB.out)))) hb); clear BK328; clear HB; have HO337 := n0_; have BK328 := n1_; have HB := n2_; clear n0_ n1_ n2_; (try clear hb); (try clear hb2); (try clear hk); (try clear hi); (try clear ho0)))
       go_loopg [13, 14, 56] k2 (fun kq v13 v14 v56 w' => ∃ (x13_3 : List (S24)) (x14_3 : Bool) (x56_3 : Int), v14 = .bool x14_3 ∧ v56 = .int .i64 x56_3 ∧ Aside0 (jj27.l1 kq l0 l2 t334 t335 x13_3 x14_3 l1 (l1.length : Int) x56_3 a3_0 a3_1 = some r) ∧ Aside0 (kq ≤ k2) ∧ Aside0 (Kd.R k24 24 w' w.heap.size (fun k_ => some k_ ≠ (v13 : Value).ownBlock ∧ k_ ≠ gb328) v336 t334) ∧ Aside0 (Kd.R k24 24 w' w.heap.size (fun k_ => some k_ ≠ (v336 : Value).ownBlock ∧ k_ ≠ gb328) v13 x13_3) ∧ Aside0 (w'.heap[gb328]? = some (.cells #[.int .i64 a3_0, .int .i64 a3_1] 24 (0, 0))) ∧ Aside0 (Below w.heap.size w w'))
       case atStart => exact ⟨(([] : List (S24))), (true), (0), (by (rfl)), (by (rfl)), H', ⟨Nat.le_refl _⟩, ⟨by (with_reducible repeat ((apply Kd.R_drew))); exact Kd.R_mono HO337.out (fun _ hk => ⟨(by simp [Value.ownBlock]), hk.2⟩)⟩, ⟨by (exact Kd.R_nil _ _ _ _ _)⟩, ⟨by (with_reducible repeat ((refine blk_drew ?_))); exact BK328.out⟩, ⟨by repeat ((with_reducible (exact HB.out)))⟩⟩
       case round =>
        clear H'
        try clear c1
        try clear c2
        try clear p2
        try clear c3
        try clear p3
        try clear q3
        try clear hx3
        try clear c6
        try clear p6
        try clear c8
        try clear c9
        try clear c9b0
        try clear c9b1
        try clear c12
        try clear c13
        try clear c16
        try clear c16b0
        try clear c17
        try clear c17b0
        try clear c18
        try clear c18b0
        try clear c20
        try clear hx331_0
        try clear p2
        try clear p331
        try clear q331
        obtain ⟨x13_3, x14_3, x56_3, rfl, rfl, HA, HK3, HO_11, HO_13, BK328, HB⟩ := hrel
        cases gk with
        | zero => exact absurd HA.out (by simp [jj27.l1])
        | succ k3 =>
         have H := HA.out
         clear HA
         simp only [jj27.l1] at H
         by_cases c27 : x56_3 < (l1.length : Int)
         ·rw [if_pos c27] at H
          have c27b0 : decide (x56_3 < (l1.length : Int)) = true := decide_eq_true c27
          clear c27
          by_cases c28 : 0 ≤ x56_3
          ·rw [if_pos c28] at H
           have c28b0 : decide (0 ≤ x56_3) = true := decide_eq_true c28
           clear c28
           by_cases c29 : x56_3 < (l1.length : Int)
           ·rw [if_pos c29] at H
            have c29b0 : decide (x56_3 < (l1.length : Int)) = true := decide_eq_true c29
            clear c29
            replace H := Option.bind_eq_some_iff.mp H
            obtain ⟨⟨t340, t341, t342⟩, A300, H⟩ := H
            replace H : (if x14_3 = true then (if x13_3.length < 8796093022208 then (jj27.l1 k3 l0 l2 t334 t335 (x13_3 ++ [(⟨t340, t341⟩ : S24)]) t342 l1 (l1.length : Int) (wrap64 (x56_3 + 1)) a3_0 a3_1) else (none)) else (if x13_3.length < 8796093022208 then (jj27.l1 k3 l0 l2 t334 t335 (x13_3 ++ [(⟨t340, t341⟩ : S24)]) false l1 (l1.length : Int) (wrap64 (x56_3 + 1)) a3_0 a3_1) else (none))) = some r := H
            have A30 := Aside0.mk A300
            clear A300
            by_cases c31 : x14_3 = true
            ·subst c31
             have H1 : (if x13_3.length < 8796093022208 then (jj27.l1 k3 l0 l2 t334 t335 (x13_3 ++ [(⟨t340, t341⟩ : S24)]) t342 l1 (l1.length : Int) (wrap64 (x56_3 + 1)) a3_0 a3_1) else (none)) = some r := by rw [if_pos rfl] at H; exact H
             clear H
             have H := H1
             clear H1
             by_cases c32 : x13_3.length < 8796093022208
             ·rw [if_pos c32] at H
              have LMc32 := Aside0.mk c32
              clear c32
              obtain ⟨y344, hy344⟩ : ∃ y_ : List (S24), y_ = (x13_3 ++ [(⟨t340, t341⟩ : S24)]) := ⟨_, rfl⟩
              replace H : (jj27.l1 k3 l0 l2 t334 t335 y344 t342 l1 (l1.length : Int) (wrap64 (x56_3 + 1)) a3_0 a3_1) = some r := by (rw [hy344]; with_reducible exact H)
              have Ny344 := Aside0.mk hy344
              clear hy344
              have H' := Aside0.mk H
              clear H
              have p338 : 0 ≤ (x56_3 : Int) := of_decide_eq_true (by (with_reducible assumption))
              have q338 : x56_3 < (l1.length : Int) := of_decide_eq_true (by (with_reducible assumption))
              obtain ⟨ad338, e338, hx338_0, hx338_1⟩ := at_T24 HR1.out x56_3 p338 q338
              cases e338
              replace hx338_0 := (HB.out.cell (World.block_lt_of_cell? w _ hx338_0)).trans hx338_0
              replace hx338_1 := (HB.out.cell (World.block_lt_of_cell? w _ hx338_1)).trans hx338_1
              replace p338 := eq_true p338
              replace q338 := eq_true q338
              go_wp2_with (first | ((with_reducible refine gate_dst (N := 16) rfl ?_); (try (refine gate_guard (by rfl) ?_; dsimp only)); refine box_event ?hg (N := 16) ?hd (cs := #[.int .i64 0, .int .i64 0]) (t := 24) ?hr ?_; (case hd => rfl); (case hg => rfl); (case hr => (go_simp; done)); intro gb339 hg w33 hbox hb; have n0_ := Aside0.mk (Kd.R_below (Kd.R_elderB (by (with_reducible repeat ((apply Kd.R_drew))); exact HO_11.out) gb339 (Nat.le_of_eq hg.symm)) hb); have n1_ := Aside0.mk (Kd.R_below (Kd.R_elderB (by (with_reducible repeat ((apply Kd.R_drew))); exact HO_13.out) gb339 (Nat.le_of_eq hg.symm)) hb); have n2_ := Aside0.mk (blk_below (g := gb328) (o := .cells #[.int .i64 a3_0, .int .i64 a3_1] 24 (0, 0)) (by (with_reducible repeat ((refine blk_drew ?_))); exact BK328.out) hb); have n3_ := Aside0.mk (below_step (by repeat ((with_reducible (exact HB.out)))) hb); have n4_ := Aside0.mk (hbox); have n5_ := Aside0.mk ((by rw [hg]; exact (below_size (by repeat ((with_reducible (exact HB.out))))) : w.heap.size ≤ gb339)); have n6_ := Aside0.mk ((by rw [hg]; exact (below_size (by repeat ((with_reducible (exact HB.out))))) : w.heap.size ≤ gb339)); have n7_ := Aside0.mk ((by rw [hg]; exact Nat.ne_of_lt (blk_lt (g := gb328) (o := .cells #[.int .i64 a3_0, .int .i64 a3_1] 24 (0, 0)) (by (with_reducible repeat ((refine blk_drew ?_))); exact BK328.out)) : gb328 ≠ gb339)); have n8_ := Aside0.mk ((by rw [hg]; exact Nat.ne_of_gt (blk_lt (g := gb328) (o := .cells #[.int .i64 a3_0, .int .i64 a3_1] 24 (0, 0)) (by (with_reducible repeat ((refine blk_drew ?_))); exact BK328.out)) : gb339 ≠ gb328)); clear HO_11; clear HO_13; clear BK328; clear HB; have HO_11 := n0_; have HO_13 := n1_; have BK328 := n2_; have HB := n3_; have BK339 := n4_; have GW339 := n5_; have GE339 := n6_; have NB328_339 := n7_; have NB339_328 := n8_; clear n0_ n1_ n2_ n3_ n4_ n5_ n6_ n7_ n8_; clear hb hbox hg; have hnb34 := NB339_328.out; have hnc34 := NB328_339.out; have hcz35_0 : w33.cell? ⟨gb339, 0, none⟩ = some (.int .i64 0) := (blk_cell BK339.out 0).trans rfl; have hcz35_1 : w33.cell? ⟨gb339, 1, none⟩ = some (.int .i64 0) := (blk_cell BK339.out 1).trans rfl; have hfz35_0 := blk_frozen BK339.out 0; have hfz35_1 := blk_frozen BK339.out 1) | ((with_reducible refine gate_callee (f := 17) rfl ?_); refine goesL_ (some 63) rfl rfl Try.func17 (by kernel_rfl) rfl #[.slice A0 l0.length c0, .agg #[.int .i64 ((rd_T24 l1 x56_3).f0), .int .i64 ((rd_T24 l1 x56_3).f1)]] rfl (by (try simp only [List.map_toArray, List.map_cons, List.map_nil]); (rfl)) ?_; (with_reducible refine (jj43.calls k3 _ _ l0 ((rd_T24 l1 x56_3).f0) ((rd_T24 l1 x56_3).f1) t340 t341 t342 _ ?side1 ?side2 A30.out).mono ?_); (case side1 => exact Kd.C_below HR0.out (by repeat ((with_reducible first | exact HB.out | refine below_set ?_ GE339.out)))); (case side2 => exact HC0.out); rintro e w36 ⟨rfl, hb⟩; refine ⟨_, rfl, ?_⟩; have n0_ := Aside0.mk (Kd.R_below (by (with_reducible repeat ((apply Kd.R_drew))); exact (Kd.R_mono (Kd.R_far (p := ⟨gb339, 1, none⟩) (Kd.R_far (p := ⟨gb339, 0, none⟩) (Kd.R_mono HO_11.out (fun k_ hk => (⟨hk, hk.2⟩ : _ ∧ k_ ≠ gb339))) (fun _ hk => hk.2) (.int .i64 ((rd_T24 l1 x56_3).f0))) (fun _ hk => hk.2) (.int .i64 ((rd_T24 l1 x56_3).f1))) (fun _ h_ => h_.1))) hb); have n1_ := Aside0.mk (Kd.R_below (by (with_reducible repeat ((apply Kd.R_drew))); exact (Kd.R_mono (Kd.R_far (p := ⟨gb339, 1, none⟩) (Kd.R_far (p := ⟨gb339, 0, none⟩) (Kd.R_mono HO_13.out (fun k_ hk => (⟨hk, hk.2⟩ : _ ∧ k_ ≠ gb339))) (fun _ hk => hk.2) (.int .i64 ((rd_T24 l1 x56_3).f0))) (fun _ hk => hk.2) (.int .i64 ((rd_T24 l1 x56_3).f1))) (fun _ h_ => h_.1))) hb); have n2_ := Aside0.mk (blk_below (g := gb328) (o := .cells #[.int .i64 a3_0, .int .i64 a3_1] 24 (0, 0)) (by (with_reducible repeat ((refine blk_drew ?_))); refine blk_far ?_ NB328_339.out _; (with_reducible repeat ((refine blk_drew ?_))); refine blk_far ?_ NB328_339.out _; (with_reducible repeat ((refine blk_drew ?_))); exact BK328.out) hb); have n3_ := Aside0.mk (blk_below (g := gb339) (o := .cells #[.int .i64 ((rd_T24 l1 x56_3).f0), .int .i64 ((rd_T24 l1 x56_3).f1)] 24 (0, 0)) (by (with_reducible repeat ((refine blk_drew ?_))); refine blk_put (cs := #[.int .i64 ((rd_T24 l1 x56_3).f0), .int .i64 0]) ?_ 1 _ rfl; (with_reducible repeat ((refine blk_drew ?_))); refine blk_put (cs := #[.int .i64 0, .int .i64 0]) ?_ 0 _ rfl; (with_reducible repeat ((refine blk_drew ?_))); exact BK339.out) hb); have n4_ := Aside0.mk (below_step (by repeat ((with_reducible first | exact HB.out | refine below_set ?_ GE339.out))) hb); clear HO_11; clear HO_13; clear BK328; clear BK339; clear HB; have HO_11 := n0_; have HO_13 := n1_; have BK328 := n2_; have BK339 := n3_; have HB := n4_; clear n0_ n1_ n2_ n3_ n4_; (try clear hb); (try clear hb2); (try clear hk); (try clear hi)) | ((with_reducible refine gate_dst (N := 17) rfl ?_); (try (refine gate_guard (by rfl) ?_; dsimp only)); refine box_event ?hg (N := 17) ?hd (cs := #[.int .i64 0, .int .i64 0]) (t := 24) ?hr ?_; (case hd => rfl); (case hg => rfl); (case hr => (go_simp; done)); intro gb343 hg w37 hbox hb; have n0_ := Aside0.mk (Kd.R_below (Kd.R_elderB (by (with_reducible repeat ((apply Kd.R_drew))); exact HO_11.out) gb343 (Nat.le_of_eq hg.symm)) hb); have n1_ := Aside0.mk (Kd.R_below (Kd.R_elderB (by (with_reducible repeat ((apply Kd.R_drew))); exact HO_13.out) gb343 (Nat.le_of_eq hg.symm)) hb); have n2_ := Aside0.mk (blk_below (g := gb328) (o := .cells #[.int .i64 a3_0, .int .i64 a3_1] 24 (0, 0)) (by (with_reducible repeat ((refine blk_drew ?_))); exact BK328.out) hb); have n3_ := Aside0.mk (blk_below (g := gb339) (o := .cells #[.int .i64 ((rd_T24 l1 x56_3).f0), .int .i64 ((rd_T24 l1 x56_3).f1)] 24 (0, 0)) (by (with_reducible repeat ((refine blk_drew ?_))); exact BK339.out) hb); have n4_ := Aside0.mk (below_step (by repeat ((with_reducible (exact HB.out)))) hb); have n5_ := Aside0.mk (hbox); have n6_ := Aside0.mk ((by rw [hg]; exact (below_size (by repeat ((with_reducible (exact HB.out))))) : w.heap.size ≤ gb343)); have n7_ := Aside0.mk ((by rw [hg]; exact (below_size (by repeat ((with_reducible (exact HB.out))))) : w.heap.size ≤ gb343)); have n8_ := Aside0.mk ((by rw [hg]; exact Nat.ne_of_lt (blk_lt (g := gb328) (o := .cells #[.int .i64 a3_0, .int .i64 a3_1] 24 (0, 0)) (by (with_reducible repeat ((refine blk_drew ?_))); exact BK328.out)) : gb328 ≠ gb343)); have n9_ := Aside0.mk ((by rw [hg]; exact Nat.ne_of_gt (blk_lt (g := gb328) (o := .cells #[.int .i64 a3_0, .int .i64 a3_1] 24 (0, 0)) (by (with_reducible repeat ((refine blk_drew ?_))); exact BK328.out)) : gb343 ≠ gb328)); have n10_ := Aside0.mk ((by rw [hg]; exact Nat.ne_of_lt (blk_lt (g := gb339) (o := .cells #[.int .i64 ((rd_T24 l1 x56_3).f0), .int .i64 ((rd_T24 l1 x56_3).f1)] 24 (0, 0)) (by (with_reducible repeat ((refine blk_drew ?_))); exact BK339.out)) : gb339 ≠ gb343)); have n11_ := Aside0.mk ((by rw [hg]; exact Nat.ne_of_gt (blk_lt (g := gb339) (o := .cells #[.int .i64 ((rd_T24 l1 x56_3).f0), .int .i64 ((rd_T24 l1 x56_3).f1)] 24 (0, 0)) (by (with_reducible repeat ((refine blk_drew ?_))); exact BK339.out)) : gb343 ≠ gb339)); clear HO_11; clear HO_13; clear BK328; clear BK339; clear HB; have HO_11 := n0_; have HO_13 := n1_; have BK328 := n2_; have BK339 := n3_; have HB := n4_; have BK343 := n5_; have GW343 := n6_; have GE343 := n7_; have NB328_343 := n8_; have NB343_328 := n9_; have NB339_343 := n10_; have NB343_339 := n11_; clear n0_ n1_ n2_ n3_ n4_ n5_ n6_ n7_ n8_ n9_ n10_ n11_; clear hb hbox hg; have hnb38 := NB343_328.out; have hnc38 := NB328_343.out; have hnb39 := NB343_339.out; have hnc39 := NB339_343.out; have hcz40_0 : w37.cell? ⟨gb343, 0, none⟩ = some (.int .i64 0) := (blk_cell BK343.out 0).trans rfl; have hcz40_1 : w37.cell? ⟨gb343, 1, none⟩ = some (.int .i64 0) := (blk_cell BK343.out 1).trans rfl; have hfz40_0 := blk_frozen BK343.out 0; have hfz40_1 := blk_frozen BK343.out 1) | ((with_reducible refine gate_builtin (b := .append) (xs := #[.tmp 70, .tmp 72]) rfl ?_); (try (refine gate_guard (by rfl) ?_; dsimp only)); at_builtin; refine Kd.R_append k24 (w0 := w) w.heap.size rfl (.tmp 70) (.tmp 72) 40 24 (.agg #[(.int .i64 0), (.int .i64 0)]) 16 rfl Try.underlying40 info24 rfl (by decide) (by omega) u13 x13_3 (⟨t340, t341⟩ : S24) [.int .i64 t340, .int .i64 t341] (fun k_ => some k_ ≠ (v336 : Value).ownBlock ∧ k_ ≠ gb328 ∧ k_ ≠ gb339 ∧ k_ ≠ gb343) (fun _ => False) rfl (by (go_simp; done)) ?aP (fun _ hk => hk.elim) ?aF ?aO ?aB ?aS ?aL ?_; (case aP => exact k24_mkM _ _ _ (⟨t340, t341⟩ : S24)); (case aB => exact (by repeat ((with_reducible first | exact HB.out | refine below_set ?_ GE343.out)))); (case aF => exact (fun k_ hk => ⟨Kd.fresh' (Kd.R_lt (by (with_reducible repeat ((apply Kd.R_drew))); exact (Kd.R_mono (Kd.R_far (p := ⟨gb343, 1, none⟩) (Kd.R_far (p := ⟨gb343, 0, none⟩) (Kd.R_mono HO_11.out (fun k_ hk => (⟨hk, hk.2⟩ : _ ∧ k_ ≠ gb343))) (fun _ hk => hk.2) (.int .i64 t340)) (fun _ hk => hk.2) (.int .i64 t341)) (fun _ h_ => h_.1)))) k_ hk, Kd.freshB (g := gb328) (o := .cells #[.int .i64 a3_0, .int .i64 a3_1] 24 (0, 0)) (by (with_reducible repeat ((refine blk_drew ?_))); refine blk_far ?_ NB328_343.out _; (with_reducible repeat ((refine blk_drew ?_))); refine blk_far ?_ NB328_343.out _; (with_reducible repeat ((refine blk_drew ?_))); exact BK328.out) k_ hk, Kd.freshB (g := gb339) (o := .cells #[.int .i64 ((rd_T24 l1 x56_3).f0), .int .i64 ((rd_T24 l1 x56_3).f1)] 24 (0, 0)) (by (with_reducible repeat ((refine blk_drew ?_))); refine blk_far ?_ NB339_343.out _; (with_reducible repeat ((refine blk_drew ?_))); refine blk_far ?_ NB339_343.out _; (with_reducible repeat ((refine blk_drew ?_))); exact BK339.out) k_ hk, Kd.freshB (g := gb343) (o := .cells #[.int .i64 t340, .int .i64 t341] 24 (0, 0)) (by (with_reducible repeat ((refine blk_drew ?_))); refine blk_put (cs := #[.int .i64 t340, .int .i64 0]) ?_ 1 _ rfl; (with_reducible repeat ((refine blk_drew ?_))); refine blk_put (cs := #[.int .i64 0, .int .i64 0]) ?_ 0 _ rfl; (with_reducible repeat ((refine blk_drew ?_))); exact BK343.out) k_ hk⟩)); (case aO => exact (by (with_reducible repeat ((apply Kd.R_drew))); exact Kd.R_mono (Kd.R_far (p := ⟨gb343, 1, none⟩) (Kd.R_far (p := ⟨gb343, 0, none⟩) (Kd.R_mono HO_13.out (fun k_ hk => (⟨hk, hk.2⟩ : _ ∧ k_ ≠ gb343))) (fun _ hk => hk.2) (.int .i64 t340)) (fun _ hk => hk.2) (.int .i64 t341)) (fun _ hk => ⟨hk.1.1.1.1, ⟨hk.1.1.1.2, ⟨hk.1.1.2, hk.1.2⟩⟩⟩))); (case aS => exact (below_size (by repeat ((with_reducible first | exact HB.out | refine below_set ?_ GE343.out))))); (case aL => have := LMc32.out; omega); intro v345 w41 ho hb hg hat; rw [← Ny344.out] at ho; have n0_ := Aside0.mk (Kd.R_after (ok := (fun k_ => k_ ≠ gb328 ∧ k_ ≠ gb339 ∧ k_ ≠ gb343)) (by (with_reducible repeat ((apply Kd.R_drew))); exact Kd.R_mono (Kd.R_far (p := ⟨gb343, 1, none⟩) (Kd.R_far (p := ⟨gb343, 0, none⟩) (Kd.R_mono HO_11.out (fun k_ hk => (⟨hk, hk.2⟩ : _ ∧ k_ ≠ gb343))) (fun _ hk => hk.2) (.int .i64 t340)) (fun _ hk => hk.2) (.int .i64 t341)) (fun _ hk => ⟨⟨hk.1.1.1.2, ⟨hk.1.1.2, hk.1.2⟩⟩, hk.1.1.1.1⟩)) hg hat); have n1_ := Aside0.mk (blk_grown (g := gb328) (o := .cells #[.int .i64 a3_0, .int .i64 a3_1] 24 (0, 0)) (by (with_reducible repeat ((refine blk_drew ?_))); refine blk_far ?_ NB328_343.out _; (with_reducible repeat ((refine blk_drew ?_))); refine blk_far ?_ NB328_343.out _; (with_reducible repeat ((refine blk_drew ?_))); exact BK328.out) hg (Kd.R_away HO_13.out (fun _ hk => hk.1.1.2))); have n2_ := Aside0.mk (blk_grown (g := gb339) (o := .cells #[.int .i64 ((rd_T24 l1 x56_3).f0), .int .i64 ((rd_T24 l1 x56_3).f1)] 24 (0, 0)) (by (with_reducible repeat ((refine blk_drew ?_))); refine blk_far ?_ NB339_343.out _; (with_reducible repeat ((refine blk_drew ?_))); refine blk_far ?_ NB339_343.out _; (with_reducible repeat ((refine blk_drew ?_))); exact BK339.out) hg (Kd.R_away HO_13.out (fun _ hk => hk.1.2))); have n3_ := Aside0.mk (blk_grown (g := gb343) (o := .cells #[.int .i64 t340, .int .i64 t341] 24 (0, 0)) (by (with_reducible repeat ((refine blk_drew ?_))); refine blk_put (cs := #[.int .i64 t340, .int .i64 0]) ?_ 1 _ rfl; (with_reducible repeat ((refine blk_drew ?_))); refine blk_put (cs := #[.int .i64 0, .int .i64 0]) ?_ 0 _ rfl; (with_reducible repeat ((refine blk_drew ?_))); exact BK343.out) hg (Kd.R_away HO_13.out (fun _ hk => hk.2))); have n4_ := Aside0.mk (hb); have n5_ := Aside0.mk (ho); clear HO_11; clear BK328; clear BK339; clear BK343; clear HB; clear HO_13; have HO_11 := n0_; have BK328 := n1_; have BK339 := n2_; have BK343 := n3_; have HB := n4_; have HO346 := n5_; clear n0_ n1_ n2_ n3_ n4_ n5_; clear ho hb hg hat))
              go_roundg k3
              case measure => have := HJ4.out; have := HK2.out; have := HK3.out; omega
              case rel => exact ⟨(y344), (t342), (wrap64 (x56_3 + 1)), (by (rfl)), (by (rfl)), H', ⟨by have := HJ4.out; have := HK2.out; have := HK3.out; omega⟩, ⟨by (with_reducible repeat ((apply Kd.R_drew))); exact Kd.R_mono HO_11.out (fun _ hk => ⟨hk.2, hk.1.1⟩)⟩, ⟨by (with_reducible repeat ((apply Kd.R_drew))); exact Kd.R_mono HO346.out (fun _ hk => ⟨hk.1, hk.2.1⟩)⟩, ⟨by (with_reducible repeat ((refine blk_drew ?_))); exact BK328.out⟩, ⟨by repeat ((with_reducible (exact HB.out)))⟩⟩
             ·rw [if_neg c32] at H
              exact absurd H (by simp)
            ·replace c31 := Bool.eq_false_iff.mpr c31
             subst c31
             have H1 : (if x13_3.length < 8796093022208 then (jj27.l1 k3 l0 l2 t334 t335 (x13_3 ++ [(⟨t340, t341⟩ : S24)]) false l1 (l1.length : Int) (wrap64 (x56_3 + 1)) a3_0 a3_1) else (none)) = some r := by rw [if_neg (show ¬ (false = true) by decide)] at H; exact H
             clear H
             have H := H1
             clear H1
             by_cases c42 : x13_3.length < 8796093022208
             ·rw [if_pos c42] at H
              have LMc42 := Aside0.mk c42
              clear c42
              obtain ⟨y347, hy347⟩ : ∃ y_ : List (S24), y_ = (x13_3 ++ [(⟨t340, t341⟩ : S24)]) := ⟨_, rfl⟩
              replace H : (jj27.l1 k3 l0 l2 t334 t335 y347 false l1 (l1.length : Int) (wrap64 (x56_3 + 1)) a3_0 a3_1) = some r := by (rw [hy347]; with_reducible exact H)
              have Ny347 := Aside0.mk hy347
              clear hy347
              have H' := Aside0.mk H
              clear H
              have p338 : 0 ≤ (x56_3 : Int) := of_decide_eq_true (by (with_reducible assumption))
              have q338 : x56_3 < (l1.length : Int) := of_decide_eq_true (by (with_reducible assumption))
              obtain ⟨ad338, e338, hx338_0, hx338_1⟩ := at_T24 HR1.out x56_3 p338 q338
              cases e338
              replace hx338_0 := (HB.out.cell (World.block_lt_of_cell? w _ hx338_0)).trans hx338_0
              replace hx338_1 := (HB.out.cell (World.block_lt_of_cell? w _ hx338_1)).trans hx338_1
              replace p338 := eq_true p338
              replace q338 := eq_true q338
              go_wp2_with (first | ((with_reducible refine gate_dst (N := 16) rfl ?_); (try (refine gate_guard (by rfl) ?_; dsimp only)); refine box_event ?hg (N := 16) ?hd (cs := #[.int .i64 0, .int .i64 0]) (t := 24) ?hr ?_; (case hd => rfl); (case hg => rfl); (case hr => (go_simp; done)); intro gb339 hg w43 hbox hb; have n0_ := Aside0.mk (Kd.R_below (Kd.R_elderB (by (with_reducible repeat ((apply Kd.R_drew))); exact HO_11.out) gb339 (Nat.le_of_eq hg.symm)) hb); have n1_ := Aside0.mk (Kd.R_below (Kd.R_elderB (by (with_reducible repeat ((apply Kd.R_drew))); exact HO_13.out) gb339 (Nat.le_of_eq hg.symm)) hb); have n2_ := Aside0.mk (blk_below (g := gb328) (o := .cells #[.int .i64 a3_0, .int .i64 a3_1] 24 (0, 0)) (by (with_reducible repeat ((refine blk_drew ?_))); exact BK328.out) hb); have n3_ := Aside0.mk (below_step (by repeat ((with_reducible (exact HB.out)))) hb); have n4_ := Aside0.mk (hbox); have n5_ := Aside0.mk ((by rw [hg]; exact (below_size (by repeat ((with_reducible (exact HB.out))))) : w.heap.size ≤ gb339)); have n6_ := Aside0.mk ((by rw [hg]; exact (below_size (by repeat ((with_reducible (exact HB.out))))) : w.heap.size ≤ gb339)); have n7_ := Aside0.mk ((by rw [hg]; exact Nat.ne_of_lt (blk_lt (g := gb328) (o := .cells #[.int .i64 a3_0, .int .i64 a3_1] 24 (0, 0)) (by (with_reducible repeat ((refine blk_drew ?_))); exact BK328.out)) : gb328 ≠ gb339)); have n8_ := Aside0.mk ((by rw [hg]; exact Nat.ne_of_gt (blk_lt (g := gb328) (o := .cells #[.int .i64 a3_0, .int .i64 a3_1] 24 (0, 0)) (by (with_reducible repeat ((refine blk_drew ?_))); exact BK328.out)) : gb339 ≠ gb328)); clear HO_11; clear HO_13; clear BK328; clear HB; have HO_11 := n0_; have HO_13 := n1_; have BK328 := n2_; have HB := n3_; have BK339 := n4_; have GW339 := n5_; have GE339 := n6_; have NB328_339 := n7_; have NB339_328 := n8_; clear n0_ n1_ n2_ n3_ n4_ n5_ n6_ n7_ n8_; clear hb hbox hg; have hnb44 := NB339_328.out; have hnc44 := NB328_339.out; have hcz45_0 : w43.cell? ⟨gb339, 0, none⟩ = some (.int .i64 0) := (blk_cell BK339.out 0).trans rfl; have hcz45_1 : w43.cell? ⟨gb339, 1, none⟩ = some (.int .i64 0) := (blk_cell BK339.out 1).trans rfl; have hfz45_0 := blk_frozen BK339.out 0; have hfz45_1 := blk_frozen BK339.out 1) | ((with_reducible refine gate_callee (f := 17) rfl ?_); refine goesL_ (some 63) rfl rfl Try.func17 (by kernel_rfl) rfl #[.slice A0 l0.length c0, .agg #[.int .i64 ((rd_T24 l1 x56_3).f0), .int .i64 ((rd_T24 l1 x56_3).f1)]] rfl (by (try simp only [List.map_toArray, List.map_cons, List.map_nil]); (rfl)) ?_; (with_reducible refine (jj43.calls k3 _ _ l0 ((rd_T24 l1 x56_3).f0) ((rd_T24 l1 x56_3).f1) t340 t341 t342 _ ?side1 ?side2 A30.out).mono ?_); (case side1 => exact Kd.C_below HR0.out (by repeat ((with_reducible first | exact HB.out | refine below_set ?_ GE339.out)))); (case side2 => exact HC0.out); rintro e w46 ⟨rfl, hb⟩; refine ⟨_, rfl, ?_⟩; have n0_ := Aside0.mk (Kd.R_below (by (with_reducible repeat ((apply Kd.R_drew))); exact (Kd.R_mono (Kd.R_far (p := ⟨gb339, 1, none⟩) (Kd.R_far (p := ⟨gb339, 0, none⟩) (Kd.R_mono HO_11.out (fun k_ hk => (⟨hk, hk.2⟩ : _ ∧ k_ ≠ gb339))) (fun _ hk => hk.2) (.int .i64 ((rd_T24 l1 x56_3).f0))) (fun _ hk => hk.2) (.int .i64 ((rd_T24 l1 x56_3).f1))) (fun _ h_ => h_.1))) hb); have n1_ := Aside0.mk (Kd.R_below (by (with_reducible repeat ((apply Kd.R_drew))); exact (Kd.R_mono (Kd.R_far (p := ⟨gb339, 1, none⟩) (Kd.R_far (p := ⟨gb339, 0, none⟩) (Kd.R_mono HO_13.out (fun k_ hk => (⟨hk, hk.2⟩ : _ ∧ k_ ≠ gb339))) (fun _ hk => hk.2) (.int .i64 ((rd_T24 l1 x56_3).f0))) (fun _ hk => hk.2) (.int .i64 ((rd_T24 l1 x56_3).f1))) (fun _ h_ => h_.1))) hb); have n2_ := Aside0.mk (blk_below (g := gb328) (o := .cells #[.int .i64 a3_0, .int .i64 a3_1] 24 (0, 0)) (by (with_reducible repeat ((refine blk_drew ?_))); refine blk_far ?_ NB328_339.out _; (with_reducible repeat ((refine blk_drew ?_))); refine blk_far ?_ NB328_339.out _; (with_reducible repeat ((refine blk_drew ?_))); exact BK328.out) hb); have n3_ := Aside0.mk (blk_below (g := gb339) (o := .cells #[.int .i64 ((rd_T24 l1 x56_3).f0), .int .i64 ((rd_T24 l1 x56_3).f1)] 24 (0, 0)) (by (with_reducible repeat ((refine blk_drew ?_))); refine blk_put (cs := #[.int .i64 ((rd_T24 l1 x56_3).f0), .int .i64 0]) ?_ 1 _ rfl; (with_reducible repeat ((refine blk_drew ?_))); refine blk_put (cs := #[.int .i64 0, .int .i64 0]) ?_ 0 _ rfl; (with_reducible repeat ((refine blk_drew ?_))); exact BK339.out) hb); have n4_ := Aside0.mk (below_step (by repeat ((with_reducible first | exact HB.out | refine below_set ?_ GE339.out))) hb); clear HO_11; clear HO_13; clear BK328; clear BK339; clear HB; have HO_11 := n0_; have HO_13 := n1_; have BK328 := n2_; have BK339 := n3_; have HB := n4_; clear n0_ n1_ n2_ n3_ n4_; (try clear hb); (try clear hb2); (try clear hk); (try clear hi)) | ((with_reducible refine gate_dst (N := 17) rfl ?_); (try (refine gate_guard (by rfl) ?_; dsimp only)); refine box_event ?hg (N := 17) ?hd (cs := #[.int .i64 0, .int .i64 0]) (t := 24) ?hr ?_; (case hd => rfl); (case hg => rfl); (case hr => (go_simp; done)); intro gb343 hg w47 hbox hb; have n0_ := Aside0.mk (Kd.R_below (Kd.R_elderB (by (with_reducible repeat ((apply Kd.R_drew))); exact HO_11.out) gb343 (Nat.le_of_eq hg.symm)) hb); have n1_ := Aside0.mk (Kd.R_below (Kd.R_elderB (by (with_reducible repeat ((apply Kd.R_drew))); exact HO_13.out) gb343 (Nat.le_of_eq hg.symm)) hb); have n2_ := Aside0.mk (blk_below (g := gb328) (o := .cells #[.int .i64 a3_0, .int .i64 a3_1] 24 (0, 0)) (by (with_reducible repeat ((refine blk_drew ?_))); exact BK328.out) hb); have n3_ := Aside0.mk (blk_below (g := gb339) (o := .cells #[.int .i64 ((rd_T24 l1 x56_3).f0), .int .i64 ((rd_T24 l1 x56_3).f1)] 24 (0, 0)) (by (with_reducible repeat ((refine blk_drew ?_))); exact BK339.out) hb); have n4_ := Aside0.mk (below_step (by repeat ((with_reducible (exact HB.out)))) hb); have n5_ := Aside0.mk (hbox); have n6_ := Aside0.mk ((by rw [hg]; exact (below_size (by repeat ((with_reducible (exact HB.out))))) : w.heap.size ≤ gb343)); have n7_ := Aside0.mk ((by rw [hg]; exact (below_size (by repeat ((with_reducible (exact HB.out))))) : w.heap.size ≤ gb343)); have n8_ := Aside0.mk ((by rw [hg]; exact Nat.ne_of_lt (blk_lt (g := gb328) (o := .cells #[.int .i64 a3_0, .int .i64 a3_1] 24 (0, 0)) (by (with_reducible repeat ((refine blk_drew ?_))); exact BK328.out)) : gb328 ≠ gb343)); have n9_ := Aside0.mk ((by rw [hg]; exact Nat.ne_of_gt (blk_lt (g := gb328) (o := .cells #[.int .i64 a3_0, .int .i64 a3_1] 24 (0, 0)) (by (with_reducible repeat ((refine blk_drew ?_))); exact BK328.out)) : gb343 ≠ gb328)); have n10_ := Aside0.mk ((by rw [hg]; exact Nat.ne_of_lt (blk_lt (g := gb339) (o := .cells #[.int .i64 ((rd_T24 l1 x56_3).f0), .int .i64 ((rd_T24 l1 x56_3).f1)] 24 (0, 0)) (by (with_reducible repeat ((refine blk_drew ?_))); exact BK339.out)) : gb339 ≠ gb343)); have n11_ := Aside0.mk ((by rw [hg]; exact Nat.ne_of_gt (blk_lt (g := gb339) (o := .cells #[.int .i64 ((rd_T24 l1 x56_3).f0), .int .i64 ((rd_T24 l1 x56_3).f1)] 24 (0, 0)) (by (with_reducible repeat ((refine blk_drew ?_))); exact BK339.out)) : gb343 ≠ gb339)); clear HO_11; clear HO_13; clear BK328; clear BK339; clear HB; have HO_11 := n0_; have HO_13 := n1_; have BK328 := n2_; have BK339 := n3_; have HB := n4_; have BK343 := n5_; have GW343 := n6_; have GE343 := n7_; have NB328_343 := n8_; have NB343_328 := n9_; have NB339_343 := n10_; have NB343_339 := n11_; clear n0_ n1_ n2_ n3_ n4_ n5_ n6_ n7_ n8_ n9_ n10_ n11_; clear hb hbox hg; have hnb48 := NB343_328.out; have hnc48 := NB328_343.out; have hnb49 := NB343_339.out; have hnc49 := NB339_343.out; have hcz50_0 : w47.cell? ⟨gb343, 0, none⟩ = some (.int .i64 0) := (blk_cell BK343.out 0).trans rfl; have hcz50_1 : w47.cell? ⟨gb343, 1, none⟩ = some (.int .i64 0) := (blk_cell BK343.out 1).trans rfl; have hfz50_0 := blk_frozen BK343.out 0; have hfz50_1 := blk_frozen BK343.out 1) | ((with_reducible refine gate_builtin (b := .append) (xs := #[.tmp 70, .tmp 72]) rfl ?_); (try (refine gate_guard (by rfl) ?_; dsimp only)); at_builtin; refine Kd.R_append k24 (w0 := w) w.heap.size rfl (.tmp 70) (.tmp 72) 40 24 (.agg #[(.int .i64 0), (.int .i64 0)]) 16 rfl Try.underlying40 info24 rfl (by decide) (by omega) u13 x13_3 (⟨t340, t341⟩ : S24) [.int .i64 t340, .int .i64 t341] (fun k_ => some k_ ≠ (v336 : Value).ownBlock ∧ k_ ≠ gb328 ∧ k_ ≠ gb339 ∧ k_ ≠ gb343) (fun _ => False) rfl (by (go_simp; done)) ?aP (fun _ hk => hk.elim) ?aF ?aO ?aB ?aS ?aL ?_; (case aP => exact k24_mkM _ _ _ (⟨t340, t341⟩ : S24)); (case aB => exact (by repeat ((with_reducible first | exact HB.out | refine below_set ?_ GE343.out)))); (case aF => exact (fun k_ hk => ⟨Kd.fresh' (Kd.R_lt (by (with_reducible repeat ((apply Kd.R_drew))); exact (Kd.R_mono (Kd.R_far (p := ⟨gb343, 1, none⟩) (Kd.R_far (p := ⟨gb343, 0, none⟩) (Kd.R_mono HO_11.out (fun k_ hk => (⟨hk, hk.2⟩ : _ ∧ k_ ≠ gb343))) (fun _ hk => hk.2) (.int .i64 t340)) (fun _ hk => hk.2) (.int .i64 t341)) (fun _ h_ => h_.1)))) k_ hk, Kd.freshB (g := gb328) (o := .cells #[.int .i64 a3_0, .int .i64 a3_1] 24 (0, 0)) (by (with_reducible repeat ((refine blk_drew ?_))); refine blk_far ?_ NB328_343.out _; (with_reducible repeat ((refine blk_drew ?_))); refine blk_far ?_ NB328_343.out _; (with_reducible repeat ((refine blk_drew ?_))); exact BK328.out) k_ hk, Kd.freshB (g := gb339) (o := .cells #[.int .i64 ((rd_T24 l1 x56_3).f0), .int .i64 ((rd_T24 l1 x56_3).f1)] 24 (0, 0)) (by (with_reducible repeat ((refine blk_drew ?_))); refine blk_far ?_ NB339_343.out _; (with_reducible repeat ((refine blk_drew ?_))); refine blk_far ?_ NB339_343.out _; (with_reducible repeat ((refine blk_drew ?_))); exact BK339.out) k_ hk, Kd.freshB (g := gb343) (o := .cells #[.int .i64 t340, .int .i64 t341] 24 (0, 0)) (by (with_reducible repeat ((refine blk_drew ?_))); refine blk_put (cs := #[.int .i64 t340, .int .i64 0]) ?_ 1 _ rfl; (with_reducible repeat ((refine blk_drew ?_))); refine blk_put (cs := #[.int .i64 0, .int .i64 0]) ?_ 0 _ rfl; (with_reducible repeat ((refine blk_drew ?_))); exact BK343.out) k_ hk⟩)); (case aO => exact (by (with_reducible repeat ((apply Kd.R_drew))); exact Kd.R_mono (Kd.R_far (p := ⟨gb343, 1, none⟩) (Kd.R_far (p := ⟨gb343, 0, none⟩) (Kd.R_mono HO_13.out (fun k_ hk => (⟨hk, hk.2⟩ : _ ∧ k_ ≠ gb343))) (fun _ hk => hk.2) (.int .i64 t340)) (fun _ hk => hk.2) (.int .i64 t341)) (fun _ hk => ⟨hk.1.1.1.1, ⟨hk.1.1.1.2, ⟨hk.1.1.2, hk.1.2⟩⟩⟩))); (case aS => exact (below_size (by repeat ((with_reducible first | exact HB.out | refine below_set ?_ GE343.out))))); (case aL => have := LMc42.out; omega); intro v348 w51 ho hb hg hat; rw [← Ny347.out] at ho; have n0_ := Aside0.mk (Kd.R_after (ok := (fun k_ => k_ ≠ gb328 ∧ k_ ≠ gb339 ∧ k_ ≠ gb343)) (by (with_reducible repeat ((apply Kd.R_drew))); exact Kd.R_mono (Kd.R_far (p := ⟨gb343, 1, none⟩) (Kd.R_far (p := ⟨gb343, 0, none⟩) (Kd.R_mono HO_11.out (fun k_ hk => (⟨hk, hk.2⟩ : _ ∧ k_ ≠ gb343))) (fun _ hk => hk.2) (.int .i64 t340)) (fun _ hk => hk.2) (.int .i64 t341)) (fun _ hk => ⟨⟨hk.1.1.1.2, ⟨hk.1.1.2, hk.1.2⟩⟩, hk.1.1.1.1⟩)) hg hat); have n1_ := Aside0.mk (blk_grown (g := gb328) (o := .cells #[.int .i64 a3_0, .int .i64 a3_1] 24 (0, 0)) (by (with_reducible repeat ((refine blk_drew ?_))); refine blk_far ?_ NB328_343.out _; (with_reducible repeat ((refine blk_drew ?_))); refine blk_far ?_ NB328_343.out _; (with_reducible repeat ((refine blk_drew ?_))); exact BK328.out) hg (Kd.R_away HO_13.out (fun _ hk => hk.1.1.2))); have n2_ := Aside0.mk (blk_grown (g := gb339) (o := .cells #[.int .i64 ((rd_T24 l1 x56_3).f0), .int .i64 ((rd_T24 l1 x56_3).f1)] 24 (0, 0)) (by (with_reducible repeat ((refine blk_drew ?_))); refine blk_far ?_ NB339_343.out _; (with_reducible repeat ((refine blk_drew ?_))); refine blk_far ?_ NB339_343.out _; (with_reducible repeat ((refine blk_drew ?_))); exact BK339.out) hg (Kd.R_away HO_13.out (fun _ hk => hk.1.2))); have n3_ := Aside0.mk (blk_grown (g := gb343) (o := .cells #[.int .i64 t340, .int .i64 t341] 24 (0, 0)) (by (with_reducible repeat ((refine blk_drew ?_))); refine blk_put (cs := #[.int .i64 t340, .int .i64 0]) ?_ 1 _ rfl; (with_reducible repeat ((refine blk_drew ?_))); refine blk_put (cs := #[.int .i64 0, .int .i64 0]) ?_ 0 _ rfl; (with_reducible repeat ((refine blk_drew ?_))); exact BK343.out) hg (Kd.R_away HO_13.out (fun _ hk => hk.2))); have n4_ := Aside0.mk (hb); have n5_ := Aside0.mk (ho); clear HO_11; clear BK328; clear BK339; clear BK343; clear HB; clear HO_13; have HO_11 := n0_; have BK328 := n1_; have BK339 := n2_; have BK343 := n3_; have HB := n4_; have HO349 := n5_; clear n0_ n1_ n2_ n3_ n4_ n5_; clear ho hb hg hat))
              go_roundg k3
              case measure => have := HJ4.out; have := HK2.out; have := HK3.out; omega
              case rel => exact ⟨(y347), (false), (wrap64 (x56_3 + 1)), (by (rfl)), (by (rfl)), H', ⟨by have := HJ4.out; have := HK2.out; have := HK3.out; omega⟩, ⟨by (with_reducible repeat ((apply Kd.R_drew))); exact Kd.R_mono HO_11.out (fun _ hk => ⟨hk.2, hk.1.1⟩)⟩, ⟨by (with_reducible repeat ((apply Kd.R_drew))); exact Kd.R_mono HO349.out (fun _ hk => ⟨hk.1, hk.2.1⟩)⟩, ⟨by (with_reducible repeat ((refine blk_drew ?_))); exact BK328.out⟩, ⟨by repeat ((with_reducible (exact HB.out)))⟩⟩
             ·rw [if_neg c42] at H
              exact absurd H (by simp)
           ·rw [if_neg c29] at H
            exact absurd H (by simp)
          ·rw [if_neg c28] at H
           exact absurd H (by simp)
         ·rw [if_neg c27] at H
          have c27b0 : decide (x56_3 < (l1.length : Int)) = false := decide_eq_false c27
          clear c27
          have HC52 := Aside0.mk H
          clear H
          go_upto_if 76 with (fail)
          go_cut [13] (fun v13 wc => ∃ (kq : Nat) (x13_51 : List (S24)), Aside0 (jj27.j3 kq l2 t334 t335 x13_51 x14_3 a3_0 a3_1 = some r) ∧ Aside0 (kq ≤ k3) ∧ Aside0 (Kd.R k24 24 wc w.heap.size (fun k_ => some k_ ≠ (v13 : Value).ownBlock ∧ k_ ≠ gb328) v336 t334) ∧ Aside0 (Kd.R k24 24 wc w.heap.size (fun k_ => some k_ ≠ (v336 : Value).ownBlock ∧ k_ ≠ gb328) v13 x13_51) ∧ Aside0 (wc.heap[gb328]? = some (.cells #[.int .i64 a3_0, .int .i64 a3_1] 24 (0, 0))) ∧ Aside0 (Below w.heap.size w wc))
          case first =>
           have H := HC52.out
           clear HC52
           by_cases c53 : x14_3 = true
           ·subst c53
            have H1 : (jj27.j3 k3 l2 t334 t335 x13_3 true a3_0 a3_1) = some r := by rw [if_pos rfl] at H; exact H
            clear H
            have H := H1
            clear H1
            have H' := Aside0.mk H
            clear H
            go_wp2
            go_meet
            case rel => exact ⟨_, (x13_3), H', ⟨by have := HJ4.out; have := HK2.out; have := HK3.out; (omega)⟩, ⟨by (with_reducible repeat ((apply Kd.R_drew))); exact HO_11.out⟩, ⟨by (with_reducible repeat ((apply Kd.R_drew))); exact HO_13.out⟩, ⟨by (with_reducible repeat ((refine blk_drew ?_))); exact BK328.out⟩, ⟨by repeat ((with_reducible (exact HB.out)))⟩⟩
           ·replace c53 := Bool.eq_false_iff.mpr c53
            subst c53
            have H1 : (jj27.j3 k3 l2 t334 t335 ([] : List (S24)) false a3_0 a3_1) = some r := by rw [if_neg (show ¬ (false = true) by decide)] at H; exact H
            clear H
            have H := H1
            clear H1
            have H' := Aside0.mk H
            clear H
            go_wp2
            go_meet
            case rel => exact ⟨_, (([] : List (S24))), H', ⟨by have := HJ4.out; have := HK2.out; have := HK3.out; (omega)⟩, ⟨by (with_reducible repeat ((apply Kd.R_drew))); exact Kd.R_mono HO_11.out (fun _ hk => ⟨(by simp [Value.ownBlock]), hk.2⟩)⟩, ⟨by (exact Kd.R_nil _ _ _ _ _)⟩, ⟨by (with_reducible repeat ((refine blk_drew ?_))); exact BK328.out⟩, ⟨by repeat ((with_reducible (exact HB.out)))⟩⟩
          case rest =>
           clear HC52
           try clear c1
           try clear c2
           try clear p2
           try clear c3
           try clear p3
           try clear q3
           try clear hx3
           try clear c4
           try clear c5
           try clear c6
           try clear p6
           try clear c8
           try clear c9
           try clear c9b0
           try clear c9b1
           try clear c12
           try clear c13
           try clear c16
           try clear c16b0
           try clear c17
           try clear c17b0
           try clear c18
           try clear c18b0
           try clear c20
           try clear c27
           try clear c27b0
           try clear c28
           try clear c28b0
           try clear c29
           try clear c29b0
           try clear c31
           try clear c32
           try clear c33
           try clear p33
           try clear q33
           try clear hx33
           try clear c34
           try clear c38
           try clear c39
           try clear c42
           try clear c44
           try clear c48
           try clear c49
           try clear c53
           try clear hcz35_0
           try clear hcz35_1
           try clear hcz40_0
           try clear hcz40_1
           try clear hcz45_0
           try clear hcz45_1
           try clear hcz50_0
           try clear hcz50_1
           try clear hfz35_0
           try clear hfz35_1
           try clear hfz40_0
           try clear hfz40_1
           try clear hfz45_0
           try clear hfz45_1
           try clear hfz50_0
           try clear hfz50_1
           try clear hx331_0
           try clear hx338_0
           try clear hx338_1
           try clear p2
           try clear p3
           try clear p331
           try clear p338
           try clear p6
           try clear q3
           try clear q331
           try clear q338
           obtain ⟨kq, x13_51, HA, HJ51, HO_11, HO_13, BK328, HB⟩ := hcut
           cases kq with
           | zero => exact absurd HA.out (by simp [jj27.j3])
           | succ kj51 =>
            have H := HA.out
            clear HA
            simp only [jj27.j3] at H
            replace H := Option.bind_eq_some_iff.mp H
            obtain ⟨⟨t350, t351, t352⟩, A540, H⟩ := H
            replace H : ((jj41.f kj51 l2 a3_0 a3_1).bind fun bt354 => (if (t335 == x14_3) = true then ((jj42.f kj51 t334 x13_51).bind fun t358 => (if t358 = true then (if (t350 == bt354.1 && (t351 == bt354.2.1)) = true then (if (t352 == bt354.2.2) = true then ((jj30.f).bind fun t359 => (some t359)) else (some false)) else (some false)) else (some false))) else (some false))) = some r := H
            have A54 := Aside0.mk A540
            clear A540
            replace H := Option.bind_eq_some_iff.mp H
            obtain ⟨⟨t354, t355, t356⟩, A550, H⟩ := H
            replace H : (if (t335 == x14_3) = true then ((jj42.f kj51 t334 x13_51).bind fun t358 => (if t358 = true then (if (t350 == t354 && (t351 == t355)) = true then (if (t352 == t356) = true then ((jj30.f).bind fun t359 => (some t359)) else (some false)) else (some false)) else (some false))) else (some false)) = some r := H
            have A55 := Aside0.mk A550
            clear A550
            by_cases c56 : (t335 == x14_3) = true
            ·rw [if_pos c56] at H
             have c56b0 : (t335 == x14_3) = true := c56
             (try (have c56b1 : decide (t335 = x14_3) = true := by simpa using c56))
             (try (have c56b2 : (t335 == x14_3) = true := by simpa using c56))
             clear c56
             replace H := Option.bind_eq_some_iff.mp H
             obtain ⟨t358, A570, H⟩ := H
             replace H : (if t358 = true then (if (t350 == t354 && (t351 == t355)) = true then (if (t352 == t356) = true then ((jj30.f).bind fun t359 => (some t359)) else (some false)) else (some false)) else (some false)) = some r := H
             have A57 := Aside0.mk A570
             clear A570
             by_cases c58 : t358 = true
             ·subst c58
              have H1 : (if (t350 == t354 && (t351 == t355)) = true then (if (t352 == t356) = true then ((jj30.f).bind fun t359 => (some t359)) else (some false)) else (some false)) = some r := by rw [if_pos rfl] at H; exact H
              clear H
              have H := H1
              clear H1
              by_cases c59 : (t350 == t354 && (t351 == t355)) = true
              ·rw [if_pos c59] at H
               have c59b0 : (t350 == t354 && (t351 == t355)) = true := c59
               (try (have c59b1 : decide (t350 = t354 && (t351 == t355)) = true := by simpa using c59))
               (try (have c59b2 : (t350 == t354 && (t351 == t355)) = true := by simpa using c59))
               clear c59
               by_cases c60 : (t352 == t356) = true
               ·rw [if_pos c60] at H
                have c60b0 : (t352 == t356) = true := c60
                (try (have c60b1 : decide (t352 = t356) = true := by simpa using c60))
                (try (have c60b2 : (t352 == t356) = true := by simpa using c60))
                clear c60
                replace H := Option.bind_eq_some_iff.mp H
                obtain ⟨t359, A610, H⟩ := H
                replace H : (some t359) = some r := H
                have A61 := Aside0.mk A610
                clear A610
                obtain rfl := Option.some.inj H
                have hcz62_0 : wc.cell? ⟨gb328, 0, none⟩ = some (.int .i64 a3_0) := (blk_cell BK328.out 0).trans rfl
                have hcz62_1 : wc.cell? ⟨gb328, 1, none⟩ = some (.int .i64 a3_1) := (blk_cell BK328.out 1).trans rfl
                have hfz62_0 := blk_frozen BK328.out 0
                have hfz62_1 := blk_frozen BK328.out 1
                go_wp2_with (first | ((with_reducible refine gate_callee (f := 29) rfl ?_); refine goesL_ (some 80) rfl rfl Try.func29 (by kernel_rfl) rfl #[.slice A2 l2.length c2, .agg #[.int .i64 a3_0, .int .i64 a3_1]] rfl (by (try simp only [List.map_toArray, List.map_cons, List.map_nil]); (rfl)) ?_; (with_reducible refine (jj19.calls kj51 _ _ l2 a3_0 a3_1 t350 t351 t352 _ ?side1 ?side2 A54.out).mono ?_); (case side1 => repeat ((exact (Kd.C_below HR2.out HB.out)))); (case side2 => exact HC2.out); rintro e w63 ⟨rfl, hb⟩; refine ⟨_, rfl, ?_⟩; have n0_ := Aside0.mk (Kd.R_below (by (with_reducible repeat ((apply Kd.R_drew))); exact HO_11.out) hb); have n1_ := Aside0.mk (Kd.R_below (by (with_reducible repeat ((apply Kd.R_drew))); exact HO_13.out) hb); have n2_ := Aside0.mk (blk_below (g := gb328) (o := .cells #[.int .i64 a3_0, .int .i64 a3_1] 24 (0, 0)) (by (with_reducible repeat ((refine blk_drew ?_))); exact BK328.out) hb); have n3_ := Aside0.mk (below_step (by repeat ((with_reducible (exact HB.out)))) hb); clear HO_11; clear HO_13; clear BK328; clear HB; have HO_11 := n0_; have HO_13 := n1_; have BK328 := n2_; have HB := n3_; clear n0_ n1_ n2_ n3_; (try clear hb); (try clear hb2); (try clear hk); (try clear hi)) | ((with_reducible refine gate_dst (N := 19) rfl ?_); (try (refine gate_guard (by rfl) ?_; dsimp only)); refine box_event ?hg (N := 19) ?hd (cs := #[.int .i64 0, .int .i64 0]) (t := 24) ?hr ?_; (case hd => rfl); (case hg => rfl); (case hr => (go_simp; done)); intro gb353 hg w64 hbox hb; have n0_ := Aside0.mk (Kd.R_below (Kd.R_elderB (by (with_reducible repeat ((apply Kd.R_drew))); exact HO_11.out) gb353 (Nat.le_of_eq hg.symm)) hb); have n1_ := Aside0.mk (Kd.R_below (Kd.R_elderB (by (with_reducible repeat ((apply Kd.R_drew))); exact HO_13.out) gb353 (Nat.le_of_eq hg.symm)) hb); have n2_ := Aside0.mk (blk_below (g := gb328) (o := .cells #[.int .i64 a3_0, .int .i64 a3_1] 24 (0, 0)) (by (with_reducible repeat ((refine blk_drew ?_))); exact BK328.out) hb); have n3_ := Aside0.mk (below_step (by repeat ((with_reducible (exact HB.out)))) hb); have n4_ := Aside0.mk (hbox); have n5_ := Aside0.mk ((by rw [hg]; exact (below_size (by repeat ((with_reducible (exact HB.out))))) : w.heap.size ≤ gb353)); have n6_ := Aside0.mk ((by rw [hg]; exact (below_size (by repeat ((with_reducible (exact HB.out))))) : w.heap.size ≤ gb353)); have n7_ := Aside0.mk ((by rw [hg]; exact Nat.ne_of_lt (blk_lt (g := gb328) (o := .cells #[.int .i64 a3_0, .int .i64 a3_1] 24 (0, 0)) (by (with_reducible repeat ((refine blk_drew ?_))); exact BK328.out)) : gb328 ≠ gb353)); have n8_ := Aside0.mk ((by rw [hg]; exact Nat.ne_of_gt (blk_lt (g := gb328) (o := .cells #[.int .i64 a3_0, .int .i64 a3_1] 24 (0, 0)) (by (with_reducible repeat ((refine blk_drew ?_))); exact BK328.out)) : gb353 ≠ gb328)); clear HO_11; clear HO_13; clear BK328; clear HB; have HO_11 := n0_; have HO_13 := n1_; have BK328 := n2_; have HB := n3_; have BK353 := n4_; have GW353 := n5_; have GE353 := n6_; have NB328_353 := n7_; have NB353_328 := n8_; clear n0_ n1_ n2_ n3_ n4_ n5_ n6_ n7_ n8_; clear hb hbox hg; have hnb65 := NB353_328.out; have hnc65 := NB328_353.out; have hcz66_0 : w64.cell? ⟨gb353, 0, none⟩ = some (.int .i64 0) := (blk_cell BK353.out 0).trans rfl; have hcz66_1 : w64.cell? ⟨gb353, 1, none⟩ = some (.int .i64 0) := (blk_cell BK353.out 1).trans rfl; have hfz66_0 := blk_frozen BK353.out 0; have hfz66_1 := blk_frozen BK353.out 1; have hcz67_0 : w64.cell? ⟨gb328, 0, none⟩ = some (.int .i64 a3_0) := (blk_cell BK328.out 0).trans rfl; have hcz67_1 : w64.cell? ⟨gb328, 1, none⟩ = some (.int .i64 a3_1) := (blk_cell BK328.out 1).trans rfl; have hfz67_0 := blk_frozen BK328.out 0; have hfz67_1 := blk_frozen BK328.out 1) | ((with_reducible refine gate_callee (f := 30) rfl ?_); refine goesL_ (some 86) rfl rfl Try.func30 (by kernel_rfl) rfl #[.slice A2 l2.length c2, .agg #[.int .i64 a3_0, .int .i64 a3_1]] rfl (by (try simp only [List.map_toArray, List.map_cons, List.map_nil]); (rfl)) ?_; (with_reducible refine (jj41.calls kj51 _ _ l2 a3_0 a3_1 t354 t355 t356 _ ?side1 ?side2 A55.out).mono ?_); (case side1 => exact Kd.C_below HR2.out (by repeat ((with_reducible first | exact HB.out | refine below_set ?_ GE353.out)))); (case side2 => exact HC2.out); rintro e w68 ⟨rfl, hb⟩; refine ⟨_, rfl, ?_⟩; have n0_ := Aside0.mk (Kd.R_below (by (with_reducible repeat ((apply Kd.R_drew))); exact (Kd.R_mono (Kd.R_far (p := ⟨gb353, 1, none⟩) (Kd.R_far (p := ⟨gb353, 0, none⟩) (Kd.R_mono HO_11.out (fun k_ hk => (⟨hk, hk.2⟩ : _ ∧ k_ ≠ gb353))) (fun _ hk => hk.2) (.int .i64 t350)) (fun _ hk => hk.2) (.int .i64 t351)) (fun _ h_ => h_.1))) hb); have n1_ := Aside0.mk (Kd.R_below (by (with_reducible repeat ((apply Kd.R_drew))); exact (Kd.R_mono (Kd.R_far (p := ⟨gb353, 1, none⟩) (Kd.R_far (p := ⟨gb353, 0, none⟩) (Kd.R_mono HO_13.out (fun k_ hk => (⟨hk, hk.2⟩ : _ ∧ k_ ≠ gb353))) (fun _ hk => hk.2) (.int .i64 t350)) (fun _ hk => hk.2) (.int .i64 t351)) (fun _ h_ => h_.1))) hb); have n2_ := Aside0.mk (blk_below (g := gb328) (o := .cells #[.int .i64 a3_0, .int .i64 a3_1] 24 (0, 0)) (by (with_reducible repeat ((refine blk_drew ?_))); refine blk_far ?_ NB328_353.out _; (with_reducible repeat ((refine blk_drew ?_))); refine blk_far ?_ NB328_353.out _; (with_reducible repeat ((refine blk_drew ?_))); exact BK328.out) hb); have n3_ := Aside0.mk (blk_below (g := gb353) (o := .cells #[.int .i64 t350, .int .i64 t351] 24 (0, 0)) (by (with_reducible repeat ((refine blk_drew ?_))); refine blk_put (cs := #[.int .i64 t350, .int .i64 0]) ?_ 1 _ rfl; (with_reducible repeat ((refine blk_drew ?_))); refine blk_put (cs := #[.int .i64 0, .int .i64 0]) ?_ 0 _ rfl; (with_reducible repeat ((refine blk_drew ?_))); exact BK353.out) hb); have n4_ := Aside0.mk (below_step (by repeat ((with_reducible first | exact HB.out | refine below_set ?_ GE353.out))) hb); clear HO_11; clear HO_13; clear BK328; clear BK353; clear HB; have HO_11 := n0_; have HO_13 := n1_; have BK328 := n2_; have BK353 := n3_; have HB := n4_; clear n0_ n1_ n2_ n3_ n4_; (try clear hb); (try clear hb2); (try clear hk); (try clear hi)) | ((with_reducible refine gate_dst (N := 21) rfl ?_); (try (refine gate_guard (by rfl) ?_; dsimp only)); refine box_event ?hg (N := 21) ?hd (cs := #[.int .i64 0, .int .i64 0]) (t := 24) ?hr ?_; (case hd => rfl); (case hg => rfl); (case hr => (go_simp; done)); intro gb357 hg w69 hbox hb; have n0_ := Aside0.mk (Kd.R_below (Kd.R_elderB (by (with_reducible repeat ((apply Kd.R_drew))); exact HO_11.out) gb357 (Nat.le_of_eq hg.symm)) hb); have n1_ := Aside0.mk (Kd.R_below (Kd.R_elderB (by (with_reducible repeat ((apply Kd.R_drew))); exact HO_13.out) gb357 (Nat.le_of_eq hg.symm)) hb); have n2_ := Aside0.mk (blk_below (g := gb328) (o := .cells #[.int .i64 a3_0, .int .i64 a3_1] 24 (0, 0)) (by (with_reducible repeat ((refine blk_drew ?_))); exact BK328.out) hb); have n3_ := Aside0.mk (blk_below (g := gb353) (o := .cells #[.int .i64 t350, .int .i64 t351] 24 (0, 0)) (by (with_reducible repeat ((refine blk_drew ?_))); exact BK353.out) hb); have n4_ := Aside0.mk (below_step (by repeat ((with_reducible (exact HB.out)))) hb); have n5_ := Aside0.mk (hbox); have n6_ := Aside0.mk ((by rw [hg]; exact (below_size (by repeat ((with_reducible (exact HB.out))))) : w.heap.size ≤ gb357)); have n7_ := Aside0.mk ((by rw [hg]; exact (below_size (by repeat ((with_reducible (exact HB.out))))) : w.heap.size ≤ gb357)); have n8_ := Aside0.mk ((by rw [hg]; exact Nat.ne_of_lt (blk_lt (g := gb328) (o := .cells #[.int .i64 a3_0, .int .i64 a3_1] 24 (0, 0)) (by (with_reducible repeat ((refine blk_drew ?_))); exact BK328.out)) : gb328 ≠ gb357)); have n9_ := Aside0.mk ((by rw [hg]; exact Nat.ne_of_gt (blk_lt (g := gb328) (o := .cells #[.int .i64 a3_0, .int .i64 a3_1] 24 (0, 0)) (by (with_reducible repeat ((refine blk_drew ?_))); exact BK328.out)) : gb357 ≠ gb328)); have n10_ := Aside0.mk ((by rw [hg]; exact Nat.ne_of_lt (blk_lt (g := gb353) (o := .cells #[.int .i64 t350, .int .i64 t351] 24 (0, 0)) (by (with_reducible repeat ((refine blk_drew ?_))); exact BK353.out)) : gb353 ≠ gb357)); have n11_ := Aside0.mk ((by rw [hg]; exact Nat.ne_of_gt (blk_lt (g := gb353) (o := .cells #[.int .i64 t350, .int .i64 t351] 24 (0, 0)) (by (with_reducible repeat ((refine blk_drew ?_))); exact BK353.out)) : gb357 ≠ gb353)); clear HO_11; clear HO_13; clear BK328; clear BK353; clear HB; have HO_11 := n0_; have HO_13 := n1_; have BK328 := n2_; have BK353 := n3_; have HB := n4_; have BK357 := n5_; have GW357 := n6_; have GE357 := n7_; have NB328_357 := n8_; have NB357_328 := n9_; have NB353_357 := n10_; have NB357_353 := n11_; clear n0_ n1_ n2_ n3_ n4_ n5_ n6_ n7_ n8_ n9_ n10_ n11_; clear hb hbox hg; have hnb70 := NB357_328.out; have hnc70 := NB328_357.out; have hnb71 := NB357_353.out; have hnc71 := NB353_357.out; have hcz72_0 : w69.cell? ⟨gb357, 0, none⟩ = some (.int .i64 0) := (blk_cell BK357.out 0).trans rfl; have hcz72_1 : w69.cell? ⟨gb357, 1, none⟩ = some (.int .i64 0) := (blk_cell BK357.out 1).trans rfl; have hfz72_0 := blk_frozen BK357.out 0; have hfz72_1 := blk_frozen BK357.out 1; obtain ⟨Ao73, co73, eo73⟩ := Kd.R_slice HO_11.out; subst eo73; obtain ⟨Ao74, co74, eo74⟩ := Kd.R_slice HO_13.out; subst eo74) | (go_at_call 31; (with_reducible refine (jj42.calls kj51 _ _ t334 _ _ x13_51 true _ ?side1 ?side2 ?side3 ?side4 A57.out).mono ?_); (case side1 => refine (Kd.R_reads' (e := 24) (base := w.heap.size) (ok := fun k_ => (((some k_ ≠ (.slice Ao74 x13_51.length co74 : Value).ownBlock ∧ k_ ≠ gb328) ∧ k_ ≠ gb353) ∧ k_ ≠ gb357)) (n := t334.length) (c := co73) ?_).2.2; exact (by (with_reducible repeat ((apply Kd.R_drew))); exact (Kd.R_mono (Kd.R_far (p := ⟨gb357, 1, none⟩) (Kd.R_far (p := ⟨gb357, 0, none⟩) (Kd.R_mono HO_11.out (fun k_ hk => (⟨hk, hk.2⟩ : _ ∧ k_ ≠ gb357))) (fun _ hk => hk.2) (.int .i64 t354)) (fun _ hk => hk.2) (.int .i64 t355)) (fun _ h_ => h_.1)))); (case side2 => exact (Kd.R_reads' HO_11.out).2.1); (case side3 => refine (Kd.R_reads' (e := 24) (base := w.heap.size) (ok := fun k_ => (((some k_ ≠ (.slice Ao73 t334.length co73 : Value).ownBlock ∧ k_ ≠ gb328) ∧ k_ ≠ gb353) ∧ k_ ≠ gb357)) (n := x13_51.length) (c := co74) ?_).2.2; exact (by (with_reducible repeat ((apply Kd.R_drew))); exact (Kd.R_mono (Kd.R_far (p := ⟨gb357, 1, none⟩) (Kd.R_far (p := ⟨gb357, 0, none⟩) (Kd.R_mono HO_13.out (fun k_ hk => (⟨hk, hk.2⟩ : _ ∧ k_ ≠ gb357))) (fun _ hk => hk.2) (.int .i64 t354)) (fun _ hk => hk.2) (.int .i64 t355)) (fun _ h_ => h_.1)))); (case side4 => exact (Kd.R_reads' HO_13.out).2.1); rintro e w' ⟨rfl, ⟨nd, rfl⟩⟩; have hcz75_0 : w69.cell? ⟨gb353, 0, none⟩ = some (.int .i64 t350) := (blk_cell BK353.out 0).trans rfl; have hcz75_1 : w69.cell? ⟨gb353, 1, none⟩ = some (.int .i64 t351) := (blk_cell BK353.out 1).trans rfl; have hfz75_0 := blk_frozen BK353.out 0; have hfz75_1 := blk_frozen BK353.out 1) | (go_at_call 13; (with_reducible refine (jj30.calls  t359 _ A61.out).mono ?_); rintro e w76 ⟨rfl, hb⟩; have n0_ := Aside0.mk (Kd.R_below (by (with_reducible repeat ((apply Kd.R_drewN))); exact (Kd.R_mono (Kd.R_far (p := ⟨gb357, 1, none⟩) (Kd.R_far (p := ⟨gb357, 0, none⟩) (Kd.R_mono HO_11.out (fun k_ hk => (⟨hk, hk.2⟩ : _ ∧ k_ ≠ gb357))) (fun _ hk => hk.2) (.int .i64 t354)) (fun _ hk => hk.2) (.int .i64 t355)) (fun _ h_ => h_.1))) hb); have n1_ := Aside0.mk (Kd.R_below (by (with_reducible repeat ((apply Kd.R_drewN))); exact (Kd.R_mono (Kd.R_far (p := ⟨gb357, 1, none⟩) (Kd.R_far (p := ⟨gb357, 0, none⟩) (Kd.R_mono HO_13.out (fun k_ hk => (⟨hk, hk.2⟩ : _ ∧ k_ ≠ gb357))) (fun _ hk => hk.2) (.int .i64 t354)) (fun _ hk => hk.2) (.int .i64 t355)) (fun _ h_ => h_.1))) hb); have n2_ := Aside0.mk (blk_below (g := gb328) (o := .cells #[.int .i64 a3_0, .int .i64 a3_1] 24 (0, 0)) (by (with_reducible repeat ((refine blk_drewN ?_ _))); refine blk_far ?_ NB328_357.out _; (with_reducible repeat ((refine blk_drew ?_))); refine blk_far ?_ NB328_357.out _; (with_reducible repeat ((refine blk_drew ?_))); exact BK328.out) hb); have n3_ := Aside0.mk (blk_below (g := gb353) (o := .cells #[.int .i64 t350, .int .i64 t351] 24 (0, 0)) (by (with_reducible repeat ((refine blk_drewN ?_ _))); refine blk_far ?_ NB353_357.out _; (with_reducible repeat ((refine blk_drew ?_))); refine blk_far ?_ NB353_357.out _; (with_reducible repeat ((refine blk_drew ?_))); exact BK353.out) hb); have n4_ := Aside0.mk (blk_below (g := gb357) (o := .cells #[.int .i64 t354, .int .i64 t355] 24 (0, 0)) (by (with_reducible repeat ((refine blk_drewN ?_ _))); refine blk_put (cs := #[.int .i64 t354, .int .i64 0]) ?_ 1 _ rfl; (with_reducible repeat ((refine blk_drew ?_))); refine blk_put (cs := #[.int .i64 0, .int .i64 0]) ?_ 0 _ rfl; (with_reducible repeat ((refine blk_drew ?_))); exact BK357.out) hb); have n5_ := Aside0.mk (below_step (by repeat ((with_reducible first | exact HB.out | apply pw_below_drewN | refine below_set ?_ GE357.out))) hb); clear HO_11; clear HO_13; clear BK328; clear BK353; clear BK357; clear HB; have HO_11 := n0_; have HO_13 := n1_; have BK328 := n2_; have BK353 := n3_; have BK357 := n4_; have HB := n5_; clear n0_ n1_ n2_ n3_ n4_ n5_; (try clear hb); (try clear hb2); (try clear hk); (try clear hi)))
                go_ret
                exact ⟨by (rfl), by repeat ((with_reducible (exact HB.out)))⟩
               ·rw [if_neg c60] at H
                have c60b0 : (t352 == t356) = false := by simpa using c60
                (try (have c60b1 : decide (t352 = t356) = false := by simpa using c60))
                (try (have c60b2 : (t352 == t356) = false := by simpa using c60))
                (try (have c60b3 : ¬ (t352 = t356) := by simpa using c60))
                clear c60
                exact absurd (Option.some.inj (show some false = some r from H)) (by rw [HR1_.out]; decide)
              ·rw [if_neg c59] at H
               have c59b0 : (t350 == t354 && (t351 == t355)) = false := by simpa using c59
               (try (have c59b1 : decide (t350 = t354 && (t351 == t355)) = false := by simpa using c59))
               (try (have c59b2 : (t350 == t354 && (t351 == t355)) = false := by simpa using c59))
               (try (have c59b3 : ¬ (t350 = t354 && (t351 == t355)) := by simpa using c59))
               clear c59
               exact absurd (Option.some.inj (show some false = some r from H)) (by rw [HR1_.out]; decide)
             ·replace c58 := Bool.eq_false_iff.mpr c58
              subst c58
              have H1 : (some false) = some r := by rw [if_neg (show ¬ (false = true) by decide)] at H; exact H
              clear H
              have H := H1
              clear H1
              exact absurd (Option.some.inj (show some false = some r from H)) (by rw [HR1_.out]; decide)
            ·rw [if_neg c56] at H
             have c56b0 : (t335 == x14_3) = false := by simpa using c56
             (try (have c56b1 : decide (t335 = x14_3) = false := by simpa using c56))
             (try (have c56b2 : (t335 == x14_3) = false := by simpa using c56))
             (try (have c56b3 : ¬ (t335 = x14_3) := by simpa using c56))
             clear c56
             exact absurd (Option.some.inj (show some false = some r from H)) (by rw [HR1_.out]; decide)
end Go.Proofs.Ythocalfgeaclgaa.P
end
-- MERGED YthocalfgeaclgaaPlaceManyL
section

namespace Go.Proofs.Ythocalfgeaclgaa.PlaceManyL
open Go.RowKit Go.Proofs.Ythocalfgeaclgaa.P Go.Proofs.YthocalfgeaclgaaW.PrintWords Go.Proofs.YthocalfgeaclgaaW.PrintLast Go.Proofs.YthocalfgeaclgaaW.PrintMore Go.Proofs.Ythocalfgeaclgaa.EditL Go.Proofs.Ythocalfgeaclgaa.EditK Go.Proofs.Ythocalfgeaclgaa.EditF Go.Proofs.Ythocalfgeaclgaa.EditG Go.Proofs.Ythocalfgeaclgaa.EditH1 Go.Proofs.Ythocalfgeaclgaa.PlaceI Go.Proofs.Ythocalfgeaclgaa.PlaceM Go.Proofs.Ythocalfgeaclgaa.PlaceS Go.Proofs.Ythocalfgeaclgaa.PlaceL Go.Proofs.Ythocalfgeaclgaa.PlaceF Go.Proofs.Ythocalfgeaclgaa.PlaceG
set_option linter.unusedSimpArgs false
set_option linter.unusedVariables false
abbrev Sn := S24
theorem sn_at {l pre suf : List Sn} {r : Sn} (h : l = pre ++ r :: suf) : rd_T24 l (pre.length : Int) = r := by
 subst h
 unfold rd_T24
 rw [Int.toNat_natCast, List.getD_eq_getElem?_getD, List.getElem?_append_right (Nat.le_refl _), Nat.sub_self]; rfl
theorem op_at {l pre suf : List (List Rn)} {r : List Rn} (h : l = pre ++ r :: suf) : rd_L3 l (pre.length : Int) = r := by
 subst h
 unfold rd_L3
 rw [Int.toNat_natCast, List.getD_eq_getElem?_getD, List.getElem?_append_right (Nat.le_refl _), Nat.sub_self]; rfl
theorem snoc' {α : Type} {l pre suf : List α} {r : α} (h : l = pre ++ r :: suf) : l = (pre ++ [r]) ++ suf ∧ ((pre ++ [r]).length : Int) = (pre.length : Int) + 1 ∧ (pre.length : Int) < (l.length : Int) := by
 refine ⟨by rw [h]; simp, by simp, by rw [h]; simp; omega⟩
def Fw (op : List Rn) : Prop := op.length ≤ 100 ∧ (good op = true → inL op ≤ 3000 ∧ outL op ≤ 3000)
def beh (op : List Rn) (s : Sn) : Sn := ⟨(spanL op s.f0 s.f1).1.1, (spanL op s.f0 s.f1).1.2⟩
def okS (op : List Rn) (s : Sn) : Bool := (spanL op s.f0 s.f1).2
theorem spans_l (op : List Rn) (hop : op.length ≤ 100) (l : List Sn) (hl : l.length ≤ 60) : ∀ (suf pre : List Sn) (k : Nat) (acc : List Sn), l = pre ++ suf → suf.length < k → acc.length + suf.length ≤ 1000 →
  jj21.l0 k op acc l (l.length : Int) (pre.length : Int) = some (cond (suf.all (okS op)) (acc ++ suf.map (beh op), true) ([], false)) := by
 intro suf
 induction suf with
 | nil =>
  intro pre k acc hfe hk ha
  obtain ⟨k, rfl⟩ : ∃ m, k = m + 1 := ⟨k - 1, by omega⟩
  have : l.length = pre.length := by rw [hfe]; simp
  simp only [jj21.l0]
  rw [if_neg (by omega)]; simp
 | cons r suf ih =>
  intro pre k acc hfe hk ha
  obtain ⟨k, rfl⟩ : ∃ m, k = m + 1 := ⟨k - 1, by omega⟩
  obtain ⟨hl2, hn, hlt⟩ := snoc' hfe
  simp only [List.length_cons] at hk ha
  have next := ih (pre ++ [r]) k (acc ++ [beh op r]) hl2 (by omega) (by simp; omega)
  rw [hn] at next
  simp only [jj21.l0]
  rw [if_pos hlt, if_pos (by omega), if_pos hlt, sn_at hfe, pspan_f (by omega), Option.bind_some, List.all_cons]
  show (if (okS op r) = true then _ else _) = _
  cases h : okS op r with
  | false => rw [if_neg Bool.false_ne_true]; rfl
  | true =>
   rw [if_pos rfl, if_pos (by omega), w64 (x := (pre.length : Int) + 1) (by omega) (by omega)]
   refine next.trans ?_
   rw [Bool.true_and, List.map_cons, List.append_assoc]; rfl
def overS : List (List Rn) → Int → Int → Int × Int × Bool
 | [], a, b => (a, b, true)
 | op :: l, a, b => if (spanL op a b).2 = true then overS l (spanL op a b).1.1 (spanL op a b).1.2 else (0, 0, false)
theorem over_l (l : List (List Rn)) (hl : l.length ≤ 12) (hf : ∀ op ∈ l, Fw op) : ∀ (suf pre : List (List Rn)) (k : Nat) (a b : Int), l = pre ++ suf → suf.length < k →
  jj19.l0 k l (l.length : Int) (pre.length : Int) a b = some (overS suf a b) := by
 intro suf
 induction suf with
 | nil =>
  intro pre k a b hfe hk
  obtain ⟨k, rfl⟩ : ∃ m, k = m + 1 := ⟨k - 1, by omega⟩
  have : l.length = pre.length := by rw [hfe]; simp
  simp only [jj19.l0]
  rw [if_neg (by omega)]; rfl
 | cons r suf ih =>
  intro pre k a b hfe hk
  obtain ⟨k, rfl⟩ : ∃ m, k = m + 1 := ⟨k - 1, by omega⟩
  obtain ⟨hl2, hn, hlt⟩ := snoc' hfe
  have hr := hf r (by rw [hfe]; simp)
  simp only [List.length_cons] at hk
  have next := fun a b => ih (pre ++ [r]) k a b hl2 (by omega)
  rw [hn] at next
  simp only [jj19.l0]
  rw [if_pos hlt, if_pos (by omega), if_pos hlt, op_at hfe, pspan_f (by have := hr.1; omega), Option.bind_some, w64 (x := (pre.length : Int) + 1) (by omega) (by omega), next]
  show (if (spanL r a b).2 = true then some (overS suf (spanL r a b).1.1 (spanL r a b).1.2) else some (0, 0, false)) = some (if (spanL r a b).2 = true then overS suf (spanL r a b).1.1 (spanL r a b).1.2 else (0, 0, false))
  split <;> rfl
theorem rover_l (l : List (List Rn)) (hl : l.length ≤ 12) (hf : ∀ op ∈ l, Fw op) : ∀ (suf pre : List (List Rn)) (k : Nat) (a b : Int), l = pre ++ suf → suf.length + 8000 < k →
  jj41.l0 k l (pre.length : Int) a b = some (overS suf a b) := by
 intro suf
 induction suf with
 | nil =>
  intro pre k a b hfe hk
  obtain ⟨k, rfl⟩ : ∃ m, k = m + 1 := ⟨k - 1, by omega⟩
  have : l.length = pre.length := by rw [hfe]; simp
  simp only [jj41.l0]
  rw [if_neg (by omega)]; rfl
 | cons r suf ih =>
  intro pre k a b hfe hk
  obtain ⟨k, rfl⟩ : ∃ m, k = m + 1 := ⟨k - 1, by omega⟩
  obtain ⟨hl2, hn, hlt⟩ := snoc' hfe
  have hr := hf r (by rw [hfe]; simp)
  simp only [List.length_cons] at hk
  have next := fun a b => ih (pre ++ [r]) k a b hl2 (by omega)
  rw [hn] at next
  simp only [jj41.l0]
  rw [if_pos hlt, if_pos (by omega), op_at hfe, rspan_f hr.1 hr.2 a b k (by omega), Option.bind_some, w64 (x := (pre.length : Int) + 1) (by omega) (by omega), next]
  show (if (spanL r a b).2 = true then some (overS suf (spanL r a b).1.1 (spanL r a b).1.2) else some (0, 0, false)) = some (if (spanL r a b).2 = true then overS suf (spanL r a b).1.1 (spanL r a b).1.2 else (0, 0, false))
  split <;> rfl
theorem same_l (l : List Sn) (hl : l.length ≤ 1000) : ∀ (n : Nat) (k i : Nat), i + n = l.length → n < k → jj42.l0 k l l (i : Int) = some true := by
 intro n
 induction n with
 | zero =>
  intro k i hi hk
  obtain ⟨k, rfl⟩ : ∃ m, k = m + 1 := ⟨k - 1, by omega⟩
  simp only [jj42.l0]
  rw [if_neg (by omega)]
 | succ n ih =>
  intro k i hi hk
  obtain ⟨k, rfl⟩ : ∃ m, k = m + 1 := ⟨k - 1, by omega⟩
  have next := ih k (i + 1) (by omega) (by omega)
  simp only [jj42.l0]
  rw [if_pos (by omega), if_pos (by omega), if_pos (by omega), if_neg (by simp), w64 (x := (i : Int) + 1) (by omega) (by omega)]
  exact next
theorem same_f (l : List Sn) (hl : l.length ≤ 1000) (k : Nat) (hk : l.length < k) : jj42.f k l l = some true := by
 unfold jj42.f
 rw [if_pos rfl]
 exact same_l l hl l.length k 0 (by omega) hk
theorem spans_f (op : List Rn) (hop : op.length ≤ 100) (l : List Sn) (hl : l.length ≤ 60) (k : Nat) (hk : 100 ≤ k) : jj21.f k op l = some (cond (l.all (okS op)) (l.map (beh op), true) ([], false)) := by
 have := spans_l op hop l hl l [] k [] rfl (by omega) (by simp; omega)
 rw [List.nil_append] at this
 exact this
theorem many3 (l2 : List (List Rn)) (hl : l2.length ≤ 12) (hf : ∀ op ∈ l2, Fw op) (g : List Sn) (hg : g.length ≤ 100) (fl : Bool) (a b : Int) (k : Nat) (hk : 9000 ≤ k) : jj27.j3 k l2 g fl g fl a b = some true := by
 obtain ⟨k, rfl⟩ : ∃ m, k = m + 1 := ⟨k - 1, by omega⟩
 have h1 : jj19.f k l2 a b = some (overS l2 a b) := over_l l2 hl hf l2 [] k a b rfl (by omega)
 have h2 : jj41.f k l2 a b = some (overS l2 a b) := rover_l l2 hl hf l2 [] k a b rfl (by omega)
 simp only [jj27.j3]
 rw [h1, Option.bind_some, h2, Option.bind_some, if_pos (beq_self_eq_true _), same_f g (by omega) k (by omega), Option.bind_some, if_pos rfl, if_pos (by rw [beq_self_eq_true, beq_self_eq_true]; rfl), if_pos (beq_self_eq_true _)]
 exact lives_b
theorem many1 (op : List Rn) (hop : Fw op) (l : List Sn) (hl : l.length ≤ 60) (l2 : List (List Rn)) (hl2 : l2.length ≤ 12) (hf : ∀ x ∈ l2, Fw x) (a b : Int) (R : List Sn × Bool) : ∀ (suf pre : List Sn) (k : Nat) (acc : List Sn) (fl : Bool), l = pre ++ suf → suf.length + 10000 ≤ k → acc.length + suf.length ≤ 60 →
  R = cond (fl && suf.all (okS op)) (acc ++ suf.map (beh op), true) ([], false) →
  jj27.l1 k op l2 R.1 R.2 acc fl l (l.length : Int) (pre.length : Int) a b = some true := by
 intro suf
 induction suf with
 | nil =>
  intro pre k acc fl hfe hk ha hR
  obtain ⟨k, rfl⟩ : ∃ m, k = m + 1 := ⟨k - 1, by omega⟩
  have : l.length = pre.length := by rw [hfe]; simp
  simp only [jj27.l1]
  rw [if_neg (by omega)]
  cases fl with
  | true =>
   rw [if_pos rfl, show R = (acc, true) by rw [hR]; simp]
   exact many3 l2 hl2 hf acc (by omega) true a b k (by omega)
  | false =>
   rw [if_neg Bool.false_ne_true, show R = ([], false) by rw [hR]; rfl]
   exact many3 l2 hl2 hf [] (by simp) false a b k (by omega)
 | cons r suf ih =>
  intro pre k acc fl hfe hk ha hR
  obtain ⟨k, rfl⟩ : ∃ m, k = m + 1 := ⟨k - 1, by omega⟩
  obtain ⟨hl2', hn, hlt⟩ := snoc' hfe
  simp only [List.length_cons] at hk ha
  have next := fun fl' => ih (pre ++ [r]) k (acc ++ [beh op r]) fl' hl2' (by omega) (by simp; omega)
  rw [hn] at next
  simp only [jj27.l1]
  rw [if_pos hlt, if_pos (by omega), if_pos hlt, sn_at hfe, rspan_f hop.1 hop.2 _ _ k (by omega), Option.bind_some, w64 (x := (pre.length : Int) + 1) (by omega) (by omega)]
  cases fl with
  | true =>
   rw [if_pos rfl, if_pos (by omega)]
   refine next (okS op r) ?_
   rw [hR, List.all_cons, Bool.true_and, List.map_cons, List.append_assoc]; rfl
  | false =>
   rw [if_neg Bool.false_ne_true, if_pos (by omega)]
   refine next false ?_
   rw [hR]; rfl
theorem many0 (op : List Rn) (hop : Fw op) (l : List Sn) (hl : l.length ≤ 60) (l2 : List (List Rn)) (hl2 : l2.length ≤ 12) (a b : Int) : ∀ (suf pre : List (List Rn)) (k : Nat), l2 = pre ++ suf → suf.length + 11000 ≤ k → (∀ x ∈ pre, Fw x) →
  jj27.l0 k op l l2 l2 (l2.length : Int) (pre.length : Int) a b = some true := by
 intro suf
 induction suf with
 | nil =>
  intro pre k hfe hk hp
  obtain ⟨k, rfl⟩ : ∃ m, k = m + 1 := ⟨k - 1, by omega⟩
  have : l2.length = pre.length := by rw [hfe]; simp
  simp only [jj27.l0]
  rw [if_neg (by omega), spans_f op hop.1 l hl k (by omega), Option.bind_some]
  exact many1 op hop l hl l2 hl2 (by rw [hfe, List.append_nil]; exact hp) a b _ l [] k [] true rfl (by have : ([] : List (List Rn)).length = 0 := rfl; omega) (by simpa using hl) (by rw [Bool.true_and, List.nil_append])
 | cons r suf ih =>
  intro pre k hfe hk hp
  obtain ⟨k, rfl⟩ : ∃ m, k = m + 1 := ⟨k - 1, by omega⟩
  obtain ⟨hl2', hn, hlt⟩ := snoc' hfe
  simp only [List.length_cons] at hk
  obtain ⟨t, h1, h2⟩ := few_f r k (by omega)
  simp only [jj27.l0]
  rw [if_pos hlt, if_pos (by omega), if_pos hlt, op_at hfe, h1, Option.bind_some, w64 (x := (pre.length : Int) + 1) (by omega) (by omega)]
  cases t with
  | false => rw [if_neg Bool.false_ne_true]; exact lives_b
  | true =>
   have next := ih (pre ++ [r]) k hl2' (by omega) (fun x hx => by
    rcases List.mem_append.1 hx with hx | hx
    ·exact hp x hx
    ·rw [List.mem_singleton.1 hx]; exact h2 rfl)
   rw [hn] at next
   rw [if_pos rfl]
   exact next
theorem many_f (op : List Rn) (l : List Sn) (l2 : List (List Rn)) (a b : Int) : ∃ k, jj27.f k op l l2 a b = some true := by
 refine ⟨19999 + 1, ?_⟩
 have hj : jj27.j0 (19999 + 1) op l l2 true a b = some true := by
  simp only [jj27.j0]
  rw [if_pos (by trivial)]; exact lives_b
 unfold jj27.f
 obtain ⟨t, h1, h2⟩ := few_f op (19999 + 1) (by decide)
 rw [h1, Option.bind_some]
 cases t with
 | false => rw [if_neg Bool.false_ne_true]; exact hj
 | true =>
  rw [if_pos rfl]
  by_cases c1 : (l.length : Int) > 60
  ·rw [if_pos c1]; exact hj
  ·rw [if_neg c1]
   by_cases c2 : (l2.length : Int) > 12
   ·rw [decide_eq_true c2]; exact hj
   ·rw [decide_eq_false c2]
    simp only [jj27.j0]
    rw [if_neg (by simp)]
    exact many0 op (h2 rfl) l (by omega) l2 (by omega) a b l2 [] 19999 rfl (by omega) (fun x hx => by cases hx)
def mkS (x : Int × Int) : Sn := ⟨x.1, x.2⟩
theorem two {w : World} {x : Int × Int} {cs : Array Value} (h : (Kd.pair (Kd.int .i64) (Kd.int .i64)).K w x cs.toList) : cs = #[.int .i64 x.1, .int .i64 x.2] := by
 obtain ⟨_, _, he, rfl, rfl⟩ := h
 exact Array.toList_inj.1 he
theorem row (A : Option Addr) (c : Nat) (x : List (Int × ByteArray × Int)) (A1 : Option Addr) (c1 : Nat) (x1 : List (Int × Int)) (A2 : Option Addr) (c2 : Nat) (x2 : List (List (Int × ByteArray × Int))) (cs : Array Value) (s : Int × Int) (w : World) (h : Kd.C (Kd.pair (Kd.int .i64) (Kd.pair Kd.string (Kd.int .i64))) w A x.length x) (hc : x.length ≤ c)
  (hok : x.length ≤ maxLen ∧ ∀ y ∈ x, (fun x : Int × ByteArray × Int => (Lit.int .i64 x.1).wf = true ∧ x.2.1.size ≤ maxLen ∧ (Lit.int .i64 x.2.2).wf = true) y)
  (h1 : Kd.C (Kd.pair (Kd.int .i64) (Kd.int .i64)) w A1 x1.length x1) (hc1 : x1.length ≤ c1) (hok1 : x1.length ≤ maxLen ∧ ∀ y ∈ x1, (fun x : Int × Int => (Lit.int .i64 x.1).wf = true ∧ (Lit.int .i64 x.2).wf = true) y)
  (h2 : Kd.C (Kd.slice 37 (Kd.pair (Kd.int .i64) (Kd.pair Kd.string (Kd.int .i64)))) w A2 x2.length x2) (hc2 : x2.length ≤ c2)
  (hok2 : x2.length ≤ maxLen ∧ ∀ y ∈ x2, (fun l : List (Int × ByteArray × Int) => l.length ≤ maxLen ∧ ∀ x ∈ l, (fun x : Int × ByteArray × Int => (Lit.int .i64 x.1).wf = true ∧ x.2.1.size ≤ maxLen ∧ (Lit.int .i64 x.2.2).wf = true) x) y)
  (hcs : (Kd.pair (Kd.int .i64) (Kd.int .i64)).K w s cs.toList) (hs : (fun x : Int × Int => (Lit.int .i64 x.1).wf = true ∧ (Lit.int .i64 x.2).wf = true) s) :
  Calls Try.prog 6 #[.slice A x.length c, .slice A1 x1.length c1, .slice A2 x2.length c2, .agg cs] w fun e w' => e = .returned (.bool true) ∧ Below w.heap.size w w' := by
 have hC : Kd.C k37 w A x.length (x.map LightF.mk) := Maps1.C_map (d := Kd.pair (Kd.int .i64) (Kd.pair Kd.string (Kd.int .i64))) (d' := k37) rfl LightF.mk (fun x cs hx => hx) h
 have hC1 : Kd.C k24 w A1 x1.length (x1.map mkS) := Maps1.C_map (d := Kd.pair (Kd.int .i64) (Kd.int .i64)) (d' := k24) rfl mkS (fun x cs hx => hx) h1
 have hC2 : Kd.C (Kd.slice 37 k37) w A2 x2.length (x2.map (fun l => l.map LightF.mk)) := Maps1.C_map (d := Kd.slice 37 (Kd.pair (Kd.int .i64) (Kd.pair Kd.string (Kd.int .i64)))) (d' := Kd.slice 37 k37) rfl _ (fun x cs hx => Maps1.K_slice_map (d := Kd.pair (Kd.int .i64) (Kd.pair Kd.string (Kd.int .i64))) (d' := k37) rfl LightF.mk (fun x cs hx => hx) x cs hx) h2
 obtain rfl := two hcs
 obtain ⟨k, hk⟩ := many_f (x.map LightF.mk) (x1.map mkS) (x2.map (fun l => l.map LightF.mk)) s.1 s.2
 have := jj27.calls k A c (x.map LightF.mk) A1 c1 (x1.map mkS) A2 c2 (x2.map (fun l => l.map LightF.mk)) s.1 s.2 true w (by rw [List.length_map]; exact hC) (by rw [List.length_map]; exact hc) (by rw [List.length_map]; exact hC1) (by rw [List.length_map]; exact hc1) (by rw [List.length_map]; exact hC2) (by rw [List.length_map]; exact hc2) hk rfl
 rw [List.length_map, List.length_map, List.length_map] at this
 exact this
end Go.Proofs.Ythocalfgeaclgaa.PlaceManyL
end
-- MERGED YthocalfgeaclgaaLawPlaceMany
section

namespace Go.Proofs.Ythocalfgeaclgaa.placeMany
open Go.ChangeShapes Go.WideShapes Go.ChangeAt Go.RowKit Go.Proofs.YthocalfgeaclgaaW.PrintWords
open Go.ChangeMaps (open_string shut_string)
set_option linter.unusedVariables false
theorem own : ownKnob Try.prog.godebug = none := by kernel_rfl
theorem laidOut : laidOutB Try.prog = true := by kernel_rfl
theorem o3 : Opens.Opens Try.prog 3 (Kd.int .i64) (fun n => (Lit.int .i64 n).wf = true) := Opens.int_ (t := 3) Try.underlying3 (by kernel_rfl)
theorem o9 : Opens.Opens Try.prog 9 Kd.string (fun s => s.size ≤ maxLen) := Opens.string_ (t := 9) Try.underlying9 (by kernel_rfl)
theorem o37 : Opens.Opens Try.prog 37 (Kd.pair (Kd.int .i64) (Kd.pair Kd.string (Kd.int .i64))) (fun x => (fun n => (Lit.int .i64 n).wf = true) x.1 ∧ (fun s => s.size ≤ maxLen) x.2.1 ∧ (fun n => (Lit.int .i64 n).wf = true) x.2.2) := Opens.struct3_ (t := 37) Try.underlying37 (by kernel_rfl) o3 o9 o3 rfl rfl rfl
theorem o22 : Opens.Opens Try.prog 22 (Kd.slice 37 (Kd.pair (Kd.int .i64) (Kd.pair Kd.string (Kd.int .i64)))) (fun l => l.length ≤ maxLen ∧ ∀ x ∈ l, (fun x => (fun n => (Lit.int .i64 n).wf = true) x.1 ∧ (fun s => s.size ≤ maxLen) x.2.1 ∧ (fun n => (Lit.int .i64 n).wf = true) x.2.2) x) := Opens.slice_ (t := 22) (e := 37) Try.underlying22 (by kernel_rfl) o37
theorem o24 : Opens.Opens Try.prog 24 (Kd.pair (Kd.int .i64) (Kd.int .i64)) (fun x => (fun n => (Lit.int .i64 n).wf = true) x.1 ∧ (fun n => (Lit.int .i64 n).wf = true) x.2) := Opens.struct2_ (t := 24) Try.underlying24 (by kernel_rfl) o3 o3 rfl rfl
theorem o40 : Opens.Opens Try.prog 40 (Kd.slice 24 (Kd.pair (Kd.int .i64) (Kd.int .i64))) (fun l => l.length ≤ maxLen ∧ ∀ x ∈ l, (fun x => (fun n => (Lit.int .i64 n).wf = true) x.1 ∧ (fun n => (Lit.int .i64 n).wf = true) x.2) x) := Opens.slice_ (t := 40) (e := 24) Try.underlying40 (by kernel_rfl) o24
theorem o41 : Opens.Opens Try.prog 41 (Kd.slice 22 (Kd.slice 37 (Kd.pair (Kd.int .i64) (Kd.pair Kd.string (Kd.int .i64))))) (fun l => l.length ≤ maxLen ∧ ∀ x ∈ l, (fun l => l.length ≤ maxLen ∧ ∀ x ∈ l, (fun x => (fun n => (Lit.int .i64 n).wf = true) x.1 ∧ (fun s => s.size ≤ maxLen) x.2.1 ∧ (fun n => (Lit.int .i64 n).wf = true) x.2.2) x) x) := Opens.slice_ (t := 41) (e := 22) Try.underlying41 (by kernel_rfl) o22
set_option maxRecDepth 100000 in
theorem lifted (os : Os) (started : os.Started) (H : Type) (enc : TypeId × Value → H) :
  ReturnsInHanded {} Try.checked os 6 .any (Rows.placeManySpec.pre6 enc Try.prog Try.f6 Rows.placeManyRow.domain false) (Rows.placeManySpec.post enc Try.prog Try.f6 false true false false) := by
 refine returnsInHanded_of_change_sized (C := Try.checked) own started (by kernel_rfl) Try.func6
  (ChangeSpec.witness6 (enc := enc) (C := Try.checked) false ⟨#[], #[(.slice none 0 0), (.slice none 0 0), (.slice none 0 0), (.agg #[(.int .i64 0), (.int .i64 0)])], []⟩ 8 (by kernel_rfl) (by kernel_rfl) (by kernel_rfl) (by kernel_rfl)) ?_
 intro W base args ds gs before hval0 hW hcnd hsz0 _
 have hsz : (DataW.weightsEach Try.prog (Try.f6.params.toList ++ Rows.placeManySpec.plain.varTypes Try.prog) (ds ++ gs)).all (· ≤ reachBytes) = true := hsz0
 have hval : ∀ (j : Nat) t v, Try.f6.params[j]? = some t → args[j]? = some v → Value.okWide Try.prog W .any base t v := hval0
 have hW' := hW
 obtain ⟨p, q, hA0, hV, rfl, hfz, hnd⟩ := hW
 have hA : DataW.TrodAll enc Try.prog W 0 (fun _ => true) true Try.f6.params.toList args.toList ds p := hA0
 rw [Try.params6] at hA hval hsz
 obtain ⟨v0, vs0, d0, ds0, p0, q0, hargs, rfl, rfl, h0, r0⟩ := trodAll_cons hA
 obtain ⟨v1, vs1, d1, ds1, p1, q1, rfl, rfl, rfl, h1, r1⟩ := trodAll_cons r0
 obtain ⟨v2, vs2, d2, ds2, p2, q2, rfl, rfl, rfl, h2, r2⟩ := trodAll_cons r1
 obtain ⟨v3, vs3, d3, ds3, p3, q3, rfl, rfl, rfl, h3, r3⟩ := trodAll_cons r2
 obtain ⟨rfl, rfl, rfl⟩ := trodAll_nil r3
 obtain rfl : args = #[v0, v1, v2, v3] := by cases args; simp_all
 obtain ⟨rfl, rfl⟩ := trodVars_none hV
 obtain ⟨a0, len0, cap0, rfl⟩ := okWide_slice Try.underlying22 (hval 0 22 v0 rfl rfl)
 have k0 := h0
 have lt0 : ∀ x ∈ p0, x.block < W.heap.size := by obtain ⟨m, hm⟩ := k0; exact DataW.trod_lt m _ _ _ hm
 obtain ⟨x0, hK0, ok0⟩ := Opens.arg_ o22 h0
 obtain ⟨rfl, hc0, hC0⟩ := Opens.slice_shape hK0
 obtain ⟨a1, len1, cap1, rfl⟩ := okWide_slice Try.underlying40 (hval 1 40 v1 rfl rfl)
 have k1 := h1
 have lt1 : ∀ x ∈ p1, x.block < W.heap.size := by obtain ⟨m, hm⟩ := k1; exact DataW.trod_lt m _ _ _ hm
 obtain ⟨x1, hK1, ok1⟩ := Opens.arg_ o40 h1
 obtain ⟨rfl, hc1, hC1⟩ := Opens.slice_shape hK1
 obtain ⟨a2, len2, cap2, rfl⟩ := okWide_slice Try.underlying41 (hval 2 41 v2 rfl rfl)
 have k2 := h2
 have lt2 : ∀ x ∈ p2, x.block < W.heap.size := by obtain ⟨m, hm⟩ := k2; exact DataW.trod_lt m _ _ _ hm
 obtain ⟨x2, hK2, ok2⟩ := Opens.arg_ o41 h2
 obtain ⟨rfl, hc2, hC2⟩ := Opens.slice_shape hK2
 obtain ⟨cs3, rfl, hcs3⟩ := okWide_struct Try.underlying24 (hval 3 24 v3 rfl rfl)
 have k3 := h3
 have lt3 : ∀ x ∈ p3, x.block < W.heap.size := by obtain ⟨m, hm⟩ := k3; exact DataW.trod_lt m _ _ _ hm
 obtain ⟨x3, hK3, ok3⟩ := Opens.arg_ o24 h3
 clear hA0 hval0 hsz0 hsz
 refine (PlaceManyL.row a0 cap0 x0 a1 cap1 x1 a2 cap2 x2 cs3 x3 W hC0 hc0 ok0 hC1 hc1 ok1 hC2 hc2 ok2 hK3 ok3).mono fun e W' ⟨he, bel⟩ => ?_
 subst he
 exact ⟨_, rfl, _, _, _, [], _, [], hW', trodAll_mk1 (shut_bool Try.underlying4 _), (trodAll_cons_mk (Below.trod laidOut (by kernel_rfl) (of_decide_eq_true (by kernel_rfl)) k0 bel lt0) (trodAll_cons_mk (Below.trod laidOut (by kernel_rfl) (of_decide_eq_true (by kernel_rfl)) k1 bel lt1) (trodAll_cons_mk (Below.trod laidOut (by kernel_rfl) (of_decide_eq_true (by kernel_rfl)) k2 bel lt2) (trodAll_cons_mk (Below.trod laidOut (by kernel_rfl) (of_decide_eq_true (by kernel_rfl)) k3 bel lt3) trodAll_mk0)))), rfl, bel.frame _, fun h => by cases h⟩
theorem over : Rows.placeManyRow.holds Try.pinned (OpenSpec.ofChange Rows.placeManySpec) :=
 OpenClaim.holds_of_wide 6 Try.f6 rfl rfl rfl rfl rfl rfl rfl ⟨rfl, rfl, rfl, rfl, rfl⟩ rfl rfl rfl rfl rfl (by kernel_rfl) Try.func6 (by kernel_rfl)
  (of_decide_eq_true (by kernel_rfl)) (by unfold Func.isWrapper; first | (rw [if_pos (by decide +kernel)]; kernel_rfl) | (rw [if_neg (by decide +kernel)]; exact ⟨rfl, rfl⟩))
  (fun os started H enc _ => lifted os started H enc)
theorem proved : Rows.PlaceManySaid := over
#print axioms proved
end Go.Proofs.Ythocalfgeaclgaa.placeMany
namespace Go.Proofs.Ythocalfgeaclgaa
theorem placeMany_holds : Rows.PlaceManySaid := placeMany.proved
end Go.Proofs.Ythocalfgeaclgaa
end

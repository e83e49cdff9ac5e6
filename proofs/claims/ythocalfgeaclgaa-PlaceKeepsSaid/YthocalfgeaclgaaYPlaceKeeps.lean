import Derived.Test.YthocalfgeaclgaaRows
import Derived.Test.YthocalfgeaclgaaYF
import Derived.Test.YthocalfgeaclgaaYG
import Derived.Test.YthocalfgeaclgaaYE
import Derived.Test.YthocalfgeaclgaaYA
import Derived.Test.YthocalfgeaclgaaYD
import Derived.WalkKit
import Derived.ProofKit
import Derived.OpenShut
import Derived.ShutString
import Derived.ChangeOld
import Derived.Below
import Derived.SizedLaws
import Derived.Test.YthocalfgeaclgaaWSized
-- MERGED YthocalfgeaclgaaPvariorumlaw10PlaceKeeps
section

namespace Go.Proofs.Ythocalfgeaclgaa.P
open Go.RowKit Go.Proofs.YthocalfgeaclgaaW.PrintWords Go.Proofs.YthocalfgeaclgaaW.PrintLast Go.Proofs.YthocalfgeaclgaaW.PrintMore
attribute [local go_sem] max2_int min2_int max_two min_two max_three min_three max_four min_four
set_option linter.unusedVariables false
set_option linter.unusedSimpArgs false
mutual
def jj34.j0 : Nat → List (S37) → ByteArray → Bool → Int → Int → Option (Bool)
 | 0, _, _, _, _, _ => none
 | k + 1, x0, x1, x48, x462000, x462001 => if x48 = true then ((jj38.f).bind fun t464 => (some t464)) else ((run_Apply.f x0 x1).bind fun bt465 => ((jj25.f x0 x462000 x462001).bind fun bt467 => (if bt467.2.2 = true then (if bt467.1 < 0 then (jj34.j1 k x0 x1 bt465.1 true x462000 x462001 bt467.1 bt467.2.1) else (if bt467.1 > bt467.2.1 then (jj34.j1 k x0 x1 bt465.1 true x462000 x462001 bt467.1 bt467.2.1) else (jj34.j1 k x0 x1 bt465.1 (decide (bt467.2.1 > (bt465.1.size : Int))) x462000 x462001 bt467.1 bt467.2.1))) else (jj34.j1 k x0 x1 bt465.1 true x462000 x462001 bt467.1 bt467.2.1))))
def jj34.j1 : Nat → List (S37) → ByteArray → ByteArray → Bool → Int → Int → Int → Int → Option (Bool)
 | 0, _, _, _, _, _, _, _, _ => none
 | k + 1, x0, x1, x7, x82, x462000, x462001, x471000, x471001 => if x82 = true then (some false) else ((jj13.f k x0).bind fun t471 => ((jj14.f k x0).bind fun t474 => (jj34.l0 k x1 x7 t471 t474 0 true x462000 x462000 x462001 x471000 x471001)))
def jj34.l0 : Nat → ByteArray → ByteArray → List ByteArray → List Bool → Int → Bool → Int → Int → Int → Int → Int → Option (Bool)
 | 0, _, _, _, _, _, _, _, _, _, _, _ => none
 | k + 1, x1, x7, x11, x12, x13, x14, x15, x462000, x462001, x471000, x471001 => if x15 < x462001 then (if 0 ≤ x15 then (if x15 < (x12.length : Int) then (if rdOf false x12 x15 = true then (if x14 = true then (jj34.l0 k x1 x7 x11 x12 x13 false (wrap64 (x15 + 1)) x462000 x462001 x471000 x471001) else (jj34.l0 k x1 x7 x11 x12 x13 false (wrap64 (x15 + 1)) x462000 x462001 x471000 x471001)) else (if x14 = true then (if x15 = x462000 then (jj34.l0 k x1 x7 x11 x12 (wrap64 (x13 + 1)) true (wrap64 (x15 + 1)) x462000 x462001 x471000 x471001) else (if x15 < (x11.length : Int) then (jj34.l0 k x1 x7 x11 x12 (wrap64 (x13 + 1)) ((rdOf ByteArray.empty x11 x15).toList == ([] : List UInt8)) (wrap64 (x15 + 1)) x462000 x462001 x471000 x471001) else (none))) else (jj34.l0 k x1 x7 x11 x12 (wrap64 (x13 + 1)) false (wrap64 (x15 + 1)) x462000 x462001 x471000 x471001))) else (none)) else (none)) else (if x13 = 0 then (if x471000 = x471001 then ((jj38.f).bind fun t481 => (some t481)) else (some false)) else (if x14 = true then (if 0 ≤ x471000 then (if x471000 ≤ x471001 then (if x471001 ≤ (x7.size : Int) then (if 0 ≤ x462000 then (if x462000 ≤ x462001 then (if x462001 ≤ (x1.size : Int) then (if (x7.extract (x471000 : Int).toNat (x471001 : Int).toNat).toList = (x1.extract (x462000 : Int).toNat (x462001 : Int).toNat).toList then (if (wrap64 (x471001 - x471000)) ≥ x13 then ((jj38.f).bind fun t482 => (some t482)) else (some false)) else (some false)) else (none)) else (none)) else (none)) else (none)) else (none)) else (none)) else (if (wrap64 (x471001 - x471000)) ≥ x13 then ((jj38.f).bind fun t483 => (some t483)) else (some false))))
end
def jj34.f (k : Nat) (l0 : List (S37)) (a1 : ByteArray) (a2_0 : Int) (a2_1 : Int) : Option (Bool) := (jj6.f k l0).bind fun t462 => (if t462 = true then (if (a1.size : Int) > 2000 then (jj34.j0 k l0 a1 true a2_0 a2_1) else ((jj46.f k l0 a1).bind fun t463 => (if t463 = true then (if a2_0 < 0 then (jj34.j0 k l0 a1 true a2_0 a2_1) else (if a2_0 > a2_1 then (jj34.j0 k l0 a1 true a2_0 a2_1) else (jj34.j0 k l0 a1 (decide (a2_1 > (a1.size : Int))) a2_0 a2_1))) else (jj34.j0 k l0 a1 true a2_0 a2_1)))) else (jj34.j0 k l0 a1 true a2_0 a2_1))
theorem jj34.mono_l : ∀ k, (∀ y0 y1 y2 y3 y4, LeO (jj34.j0 k y0 y1 y2 y3 y4) (jj34.j0 (k + 1) y0 y1 y2 y3 y4)) ∧ (∀ y0 y1 y2 y3 y4 y5 y6 y7, LeO (jj34.j1 k y0 y1 y2 y3 y4 y5 y6 y7) (jj34.j1 (k + 1) y0 y1 y2 y3 y4 y5 y6 y7)) ∧ (∀ y0 y1 y2 y3 y4 y5 y6 y7 y8 y9 y10, LeO (jj34.l0 k y0 y1 y2 y3 y4 y5 y6 y7 y8 y9 y10) (jj34.l0 (k + 1) y0 y1 y2 y3 y4 y5 y6 y7 y8 y9 y10))
 | 0 => ⟨fun _ _ _ _ _ r h => by simp [jj34.j0] at h, fun _ _ _ _ _ _ _ _ r h => by simp [jj34.j1] at h, fun _ _ _ _ _ _ _ _ _ _ _ r h => by simp [jj34.l0] at h⟩
 | k + 1 => by
  obtain ⟨ih0, ih1, ih2⟩ := jj34.mono_l k
  refine ⟨?_, ?_, ?_⟩
  ·intro y0 y1 y2 y3 y4
   unfold jj34.j0
   repeat' first | (with_reducible exact ih1 _ _ _ _ _ _ _ _) | (with_reducible exact LeO.refl _) | (with_reducible refine LeO.ite ?_ ?_) | (with_reducible refine LeO.bind ?_ (fun _ => ?_))
  ·intro y0 y1 y2 y3 y4 y5 y6 y7
   unfold jj34.j1
   repeat' first | (with_reducible exact ih2 _ _ _ _ _ _ _ _ _ _ _) | (with_reducible exact jj13.mono _ _) | (with_reducible exact jj14.mono _ _) | (with_reducible exact LeO.refl _) | (with_reducible refine LeO.ite ?_ ?_) | (with_reducible refine LeO.bind ?_ (fun _ => ?_))
  ·intro y0 y1 y2 y3 y4 y5 y6 y7 y8 y9 y10
   unfold jj34.l0
   repeat' first | (with_reducible exact ih2 _ _ _ _ _ _ _ _ _ _ _) | (with_reducible exact LeO.refl _) | (with_reducible refine LeO.ite ?_ ?_)
theorem jj34.mono : ∀ a0 a1 a2 a3 k, LeO (jj34.f k a0 a1 a2 a3) (jj34.f (k + 1) a0 a1 a2 a3) := by
 intro a0 a1 a2 a3 k
 obtain ⟨ih0, ih1, ih2⟩ := jj34.mono_l k
 unfold jj34.f
 repeat' first | (with_reducible exact ih0 _ _ _ _ _) | (with_reducible exact jj6.mono _ _) | (with_reducible exact jj46.mono _ _ _) | (with_reducible refine LeO.ite ?_ ?_) | (with_reducible refine LeO.bind ?_ (fun _ => ?_))
set_option maxHeartbeats 8000000 in
set_option maxRecDepth 100000 in
theorem jj34.calls (k : Nat) (A0 : Option Addr) (c0 : Nat) (l0 : List (S37)) (a1 : ByteArray) (a2_0 : Int) (a2_1 : Int) (r : Bool) (w : World) (hr0 : Kd.C k37 w A0 l0.length l0) (hc0 : l0.length ≤ c0) (h : jj34.f k l0 a1 a2_0 a2_1 = some r) (hr1_ : r = true) :
  Calls Try.prog 8 #[.slice A0 l0.length c0, .string a1, .agg #[.int .i64 a2_0, .int .i64 a2_1]] w fun e w' => e = .returned (.bool r) ∧ Below w.heap.size w w' := by
 have HR1_ := Aside0.mk hr1_
 clear hr1_
 have hu24 := Try.underlying24
 have HR0 := Aside0.mk hr0
 have HC0 := Aside0.mk hc0
 clear hr0 hc0
 have HB := Aside0.mk (Below.refl w.heap.size w)
 have H : ((jj6.f k l0).bind fun t462 => (if t462 = true then (if (a1.size : Int) > 2000 then (jj34.j0 k l0 a1 true a2_0 a2_1) else ((jj46.f k l0 a1).bind fun t463 => (if t463 = true then (if a2_0 < 0 then (jj34.j0 k l0 a1 true a2_0 a2_1) else (if a2_0 > a2_1 then (jj34.j0 k l0 a1 true a2_0 a2_1) else (jj34.j0 k l0 a1 (decide (a2_1 > (a1.size : Int))) a2_0 a2_1))) else (jj34.j0 k l0 a1 true a2_0 a2_1)))) else (jj34.j0 k l0 a1 true a2_0 a2_1))) = some r := h
 clear h
 have HC4 := Aside0.mk H
 clear H
 go_enter Try.func8, Try.ntmps8
 go_upto_region 1 with (first | ((with_reducible refine gate_dst (N := 5) rfl ?_); (try (refine gate_guard (by rfl) ?_; dsimp only)); refine box_event ?hg (N := 5) ?hd (cs := #[.int .i64 a2_0, .int .i64 a2_1]) (t := 24) ?hr ?_; (case hd => rfl); (case hg => rfl); (case hr => (go_simp; done)); intro gb461 hg w5 hbox hb; have n0_ := Aside0.mk (below_step (by repeat ((with_reducible (exact HB.out)))) hb); have n1_ := Aside0.mk (hbox); have n2_ := Aside0.mk ((by rw [hg]; exact (below_size (by repeat ((with_reducible (exact HB.out))))) : w.heap.size ≤ gb461)); have n3_ := Aside0.mk ((by rw [hg]; exact (below_size (by repeat ((with_reducible (exact HB.out))))) : w.heap.size ≤ gb461)); clear HB; have HB := n0_; have BK461 := n1_; have GW461 := n2_; have GE461 := n3_; clear n0_ n1_ n2_ n3_; clear hb hbox hg))
 repeat (go_quiet (first | ((with_reducible refine gate_dst (N := 5) rfl ?_); (try (refine gate_guard (by rfl) ?_; dsimp only)); refine box_event ?hg (N := 5) ?hd (cs := #[.int .i64 a2_0, .int .i64 a2_1]) (t := 24) ?hr ?_; (case hd => rfl); (case hg => rfl); (case hr => (go_simp; rfl)); intro gb461 hg w5 hbox hb; have n0_ := Aside0.mk (below_step (by repeat ((exact HB.out))) hb); have n1_ := Aside0.mk (hbox); have n2_ := Aside0.mk ((by rw [hg]; exact (below_size (by repeat ((exact HB.out)))) : w.heap.size ≤ gb461)); have n3_ := Aside0.mk ((by rw [hg]; exact (below_size (by repeat ((exact HB.out)))) : w.heap.size ≤ gb461)); clear HB; have HB := n0_; have BK461 := n1_; have GW461 := n2_; have GE461 := n3_; clear n0_ n1_ n2_ n3_; clear hb hbox hg)); go_upto_region 1 with (first | ((with_reducible refine gate_dst (N := 5) rfl ?_); (try (refine gate_guard (by rfl) ?_; dsimp only)); refine box_event ?hg (N := 5) ?hd (cs := #[.int .i64 a2_0, .int .i64 a2_1]) (t := 24) ?hr ?_; (case hd => rfl); (case hg => rfl); (case hr => (go_simp; rfl)); intro gb461 hg w5 hbox hb; have n0_ := Aside0.mk (below_step (by repeat ((exact HB.out))) hb); have n1_ := Aside0.mk (hbox); have n2_ := Aside0.mk ((by rw [hg]; exact (below_size (by repeat ((exact HB.out)))) : w.heap.size ≤ gb461)); have n3_ := Aside0.mk ((by rw [hg]; exact (below_size (by repeat ((exact HB.out)))) : w.heap.size ≤ gb461)); clear HB; have HB := n0_; have BK461 := n1_; have GW461 := n2_; have GE461 := n3_; clear n0_ n1_ n2_ n3_; clear hb hbox hg)))
 (try simp only [Act.put, List.setIfInBounds_toArray, List.set_cons_zero, List.set_cons_succ])
 go_cut [48] (fun v48 wc => ∃ (kq : Nat) (x48_3 : Bool), v48 = .bool x48_3 ∧ Aside0 (jj34.j0 kq l0 a1 x48_3 a2_0 a2_1 = some r) ∧ Aside0 (kq ≤ k) ∧ Aside0 (wc.heap[gb461]? = some (.cells #[.int .i64 a2_0, .int .i64 a2_1] 24 (0, 0))) ∧ Aside0 (Below w.heap.size w wc))
 case first =>
  have H := HC4.out
  clear HC4
  replace H := Option.bind_eq_some_iff.mp H
  obtain ⟨t462, A60, H⟩ := H
  replace H : (if t462 = true then (if (a1.size : Int) > 2000 then (jj34.j0 k l0 a1 true a2_0 a2_1) else ((jj46.f k l0 a1).bind fun t463 => (if t463 = true then (if a2_0 < 0 then (jj34.j0 k l0 a1 true a2_0 a2_1) else (if a2_0 > a2_1 then (jj34.j0 k l0 a1 true a2_0 a2_1) else (jj34.j0 k l0 a1 (decide (a2_1 > (a1.size : Int))) a2_0 a2_1))) else (jj34.j0 k l0 a1 true a2_0 a2_1)))) else (jj34.j0 k l0 a1 true a2_0 a2_1)) = some r := H
  have A6 := Aside0.mk A60
  clear A60
  by_cases c7 : t462 = true
  ·subst c7
   have H1 : (if (a1.size : Int) > 2000 then (jj34.j0 k l0 a1 true a2_0 a2_1) else ((jj46.f k l0 a1).bind fun t463 => (if t463 = true then (if a2_0 < 0 then (jj34.j0 k l0 a1 true a2_0 a2_1) else (if a2_0 > a2_1 then (jj34.j0 k l0 a1 true a2_0 a2_1) else (jj34.j0 k l0 a1 (decide (a2_1 > (a1.size : Int))) a2_0 a2_1))) else (jj34.j0 k l0 a1 true a2_0 a2_1)))) = some r := by rw [if_pos rfl] at H; exact H
   clear H
   have H := H1
   clear H1
   by_cases c8 : (a1.size : Int) > 2000
   ·rw [if_pos c8] at H
    have c8b0 : decide (2000 < (a1.size : Int)) = true := decide_eq_true c8
    have c8b1 : decide (2000 < a1.size) = true := decide_eq_true (by omega)
    clear c8
    ((skip))
    have H' := Aside0.mk H
    clear H
    go_wp2_with (first | (go_at_call 12; (with_reducible refine (jj6.calls k _ _ l0 true _ ?side1 ?side2 A6.out).mono ?_); (case side1 => repeat ((exact (Kd.C_below HR0.out HB.out)))); (case side2 => exact HC0.out); rintro e w9 ⟨rfl, hb⟩; have n0_ := Aside0.mk (blk_below (g := gb461) (o := .cells #[.int .i64 a2_0, .int .i64 a2_1] 24 (0, 0)) (by (with_reducible repeat ((refine blk_drew ?_))); exact BK461.out) hb); have n1_ := Aside0.mk (below_step (by repeat ((with_reducible (exact HB.out)))) hb); clear BK461; clear HB; have BK461 := n0_; have HB := n1_; clear n0_ n1_; (try clear hb); (try clear hb2); (try clear hk); (try clear hi)))
    repeat (go_quiet (first | (go_at_call 12; (with_reducible refine (jj6.calls k _ _ l0 true _ ?side1 ?side2 A6.out).mono ?_); (case side1 => repeat ((exact (Kd.C_below HR0.out HB.out)))); (case side2 => exact HC0.out); rintro e w9 ⟨rfl, hb⟩; have n0_ := Aside0.mk (blk_below (g := gb461) (o := .cells #[.int .i64 a2_0, .int .i64 a2_1] 24 (0, 0)) (by (with_reducible repeat ((refine blk_drew ?_))); exact BK461.out) hb); have n1_ := Aside0.mk (below_step (by repeat ((exact HB.out))) hb); clear BK461; clear HB; have BK461 := n0_; have HB := n1_; clear n0_ n1_; (try clear hb); (try clear hb2); (try clear hk); (try clear hi))); try go_wp2_with (first | (go_at_call 12; (with_reducible refine (jj6.calls k _ _ l0 true _ ?side1 ?side2 A6.out).mono ?_); (case side1 => repeat ((exact (Kd.C_below HR0.out HB.out)))); (case side2 => exact HC0.out); rintro e w9 ⟨rfl, hb⟩; have n0_ := Aside0.mk (blk_below (g := gb461) (o := .cells #[.int .i64 a2_0, .int .i64 a2_1] 24 (0, 0)) (by (with_reducible repeat ((refine blk_drew ?_))); exact BK461.out) hb); have n1_ := Aside0.mk (below_step (by repeat ((exact HB.out))) hb); clear BK461; clear HB; have BK461 := n0_; have HB := n1_; clear n0_ n1_; (try clear hb); (try clear hb2); (try clear hk); (try clear hi))))
    go_meet
    case rel => exact ⟨_, (true), (by (rfl)), H', ⟨by (omega)⟩, ⟨by (with_reducible repeat ((refine blk_drew ?_))); exact BK461.out⟩, ⟨by repeat ((with_reducible (exact HB.out)))⟩⟩
   ·rw [if_neg c8] at H
    have c8b0 : decide (2000 < (a1.size : Int)) = false := decide_eq_false c8
    have c8b1 : decide (2000 < a1.size) = false := decide_eq_false (by omega)
    clear c8
    ((skip))
    replace H := Option.bind_eq_some_iff.mp H
    obtain ⟨t463, A100, H⟩ := H
    replace H : (if t463 = true then (if a2_0 < 0 then (jj34.j0 k l0 a1 true a2_0 a2_1) else (if a2_0 > a2_1 then (jj34.j0 k l0 a1 true a2_0 a2_1) else (jj34.j0 k l0 a1 (decide (a2_1 > (a1.size : Int))) a2_0 a2_1))) else (jj34.j0 k l0 a1 true a2_0 a2_1)) = some r := H
    have A10 := Aside0.mk A100
    clear A100
    by_cases c11 : t463 = true
    ·subst c11
     have H1 : (if a2_0 < 0 then (jj34.j0 k l0 a1 true a2_0 a2_1) else (if a2_0 > a2_1 then (jj34.j0 k l0 a1 true a2_0 a2_1) else (jj34.j0 k l0 a1 (decide (a2_1 > (a1.size : Int))) a2_0 a2_1))) = some r := by rw [if_pos rfl] at H; exact H
     clear H
     have H := H1
     clear H1
     by_cases c12 : a2_0 < 0
     ·rw [if_pos c12] at H
      have c12b0 : decide (a2_0 < 0) = true := decide_eq_true c12
      clear c12
      have H' := Aside0.mk H
      clear H
      go_wp2_with (first | (go_at_call 12; (with_reducible refine (jj6.calls k _ _ l0 true _ ?side1 ?side2 A6.out).mono ?_); (case side1 => repeat ((exact (Kd.C_below HR0.out HB.out)))); (case side2 => exact HC0.out); rintro e w13 ⟨rfl, hb⟩; have n0_ := Aside0.mk (blk_below (g := gb461) (o := .cells #[.int .i64 a2_0, .int .i64 a2_1] 24 (0, 0)) (by (with_reducible repeat ((refine blk_drew ?_))); exact BK461.out) hb); have n1_ := Aside0.mk (below_step (by repeat ((with_reducible (exact HB.out)))) hb); clear BK461; clear HB; have BK461 := n0_; have HB := n1_; clear n0_ n1_; (try clear hb); (try clear hb2); (try clear hk); (try clear hi)) | (go_at_call 38; (with_reducible refine (jj46.calls k _ _ l0 a1 true _ ?side1 ?side2 A10.out).mono ?_); (case side1 => repeat ((exact (Kd.C_below HR0.out HB.out)))); (case side2 => exact HC0.out); rintro e w14 ⟨rfl, hb⟩; have n0_ := Aside0.mk (blk_below (g := gb461) (o := .cells #[.int .i64 a2_0, .int .i64 a2_1] 24 (0, 0)) (by (with_reducible repeat ((refine blk_drew ?_))); exact BK461.out) hb); have n1_ := Aside0.mk (below_step (by repeat ((with_reducible (exact HB.out)))) hb); clear BK461; clear HB; have BK461 := n0_; have HB := n1_; clear n0_ n1_; (try clear hb); (try clear hb2); (try clear hk); (try clear hi); have hcz15_0 : w14.cell? ⟨gb461, 0, none⟩ = some (.int .i64 a2_0) := (blk_cell BK461.out 0).trans rfl; have hcz15_1 : w14.cell? ⟨gb461, 1, none⟩ = some (.int .i64 a2_1) := (blk_cell BK461.out 1).trans rfl; have hfz15_0 := blk_frozen BK461.out 0; have hfz15_1 := blk_frozen BK461.out 1))
      repeat (go_quiet ((go_at_call 12; (with_reducible refine (jj6.calls k _ _ l0 true _ ?side1 ?side2 A6.out).mono ?_); (case side1 => repeat ((exact (Kd.C_below HR0.out HB.out)))); (case side2 => exact HC0.out); rintro e w13 ⟨rfl, hb⟩; have n0_ := Aside0.mk (blk_below (g := gb461) (o := .cells #[.int .i64 a2_0, .int .i64 a2_1] 24 (0, 0)) (by (with_reducible repeat ((refine blk_drew ?_))); exact BK461.out) hb); have n1_ := Aside0.mk (below_step (by repeat ((exact HB.out))) hb); clear BK461; clear HB; have BK461 := n0_; have HB := n1_; clear n0_ n1_; (try clear hb); (try clear hb2); (try clear hk); (try clear hi))); try go_wp2_with ((go_at_call 12; (with_reducible refine (jj6.calls k _ _ l0 true _ ?side1 ?side2 A6.out).mono ?_); (case side1 => repeat ((exact (Kd.C_below HR0.out HB.out)))); (case side2 => exact HC0.out); rintro e w13 ⟨rfl, hb⟩; have n0_ := Aside0.mk (blk_below (g := gb461) (o := .cells #[.int .i64 a2_0, .int .i64 a2_1] 24 (0, 0)) (by (with_reducible repeat ((refine blk_drew ?_))); exact BK461.out) hb); have n1_ := Aside0.mk (below_step (by repeat ((exact HB.out))) hb); clear BK461; clear HB; have BK461 := n0_; have HB := n1_; clear n0_ n1_; (try clear hb); (try clear hb2); (try clear hk); (try clear hi))))
      go_meet
      case rel => exact ⟨_, (true), (by (rfl)), H', ⟨by (omega)⟩, ⟨by (with_reducible repeat ((refine blk_drew ?_))); exact BK461.out⟩, ⟨by repeat ((with_reducible (exact HB.out)))⟩⟩
     ·rw [if_neg c12] at H
      have c12b0 : decide (a2_0 < 0) = false := decide_eq_false c12
      clear c12
      by_cases c16 : a2_0 > a2_1
      ·rw [if_pos c16] at H
       have c16b0 : decide (a2_1 < a2_0) = true := decide_eq_true c16
       clear c16
       have H' := Aside0.mk H
       clear H
       go_wp2_with (first | (go_at_call 12; (with_reducible refine (jj6.calls k _ _ l0 true _ ?side1 ?side2 A6.out).mono ?_); (case side1 => repeat ((exact (Kd.C_below HR0.out HB.out)))); (case side2 => exact HC0.out); rintro e w17 ⟨rfl, hb⟩; have n0_ := Aside0.mk (blk_below (g := gb461) (o := .cells #[.int .i64 a2_0, .int .i64 a2_1] 24 (0, 0)) (by (with_reducible repeat ((refine blk_drew ?_))); exact BK461.out) hb); have n1_ := Aside0.mk (below_step (by repeat ((with_reducible (exact HB.out)))) hb); clear BK461; clear HB; have BK461 := n0_; have HB := n1_; clear n0_ n1_; (try clear hb); (try clear hb2); (try clear hk); (try clear hi)) | (go_at_call 38; (with_reducible refine (jj46.calls k _ _ l0 a1 true _ ?side1 ?side2 A10.out).mono ?_); (case side1 => repeat ((exact (Kd.C_below HR0.out HB.out)))); (case side2 => exact HC0.out); rintro e w18 ⟨rfl, hb⟩; have n0_ := Aside0.mk (blk_below (g := gb461) (o := .cells #[.int .i64 a2_0, .int .i64 a2_1] 24 (0, 0)) (by (with_reducible repeat ((refine blk_drew ?_))); exact BK461.out) hb); have n1_ := Aside0.mk (below_step (by repeat ((with_reducible (exact HB.out)))) hb); clear BK461; clear HB; have BK461 := n0_; have HB := n1_; clear n0_ n1_; (try clear hb); (try clear hb2); (try clear hk); (try clear hi); have hcz19_0 : w18.cell? ⟨gb461, 0, none⟩ = some (.int .i64 a2_0) := (blk_cell BK461.out 0).trans rfl; have hcz19_1 : w18.cell? ⟨gb461, 1, none⟩ = some (.int .i64 a2_1) := (blk_cell BK461.out 1).trans rfl; have hfz19_0 := blk_frozen BK461.out 0; have hfz19_1 := blk_frozen BK461.out 1))
       repeat (go_quiet ((go_at_call 12; (with_reducible refine (jj6.calls k _ _ l0 true _ ?side1 ?side2 A6.out).mono ?_); (case side1 => repeat ((exact (Kd.C_below HR0.out HB.out)))); (case side2 => exact HC0.out); rintro e w17 ⟨rfl, hb⟩; have n0_ := Aside0.mk (blk_below (g := gb461) (o := .cells #[.int .i64 a2_0, .int .i64 a2_1] 24 (0, 0)) (by (with_reducible repeat ((refine blk_drew ?_))); exact BK461.out) hb); have n1_ := Aside0.mk (below_step (by repeat ((exact HB.out))) hb); clear BK461; clear HB; have BK461 := n0_; have HB := n1_; clear n0_ n1_; (try clear hb); (try clear hb2); (try clear hk); (try clear hi))); try go_wp2_with ((go_at_call 12; (with_reducible refine (jj6.calls k _ _ l0 true _ ?side1 ?side2 A6.out).mono ?_); (case side1 => repeat ((exact (Kd.C_below HR0.out HB.out)))); (case side2 => exact HC0.out); rintro e w17 ⟨rfl, hb⟩; have n0_ := Aside0.mk (blk_below (g := gb461) (o := .cells #[.int .i64 a2_0, .int .i64 a2_1] 24 (0, 0)) (by (with_reducible repeat ((refine blk_drew ?_))); exact BK461.out) hb); have n1_ := Aside0.mk (below_step (by repeat ((exact HB.out))) hb); clear BK461; clear HB; have BK461 := n0_; have HB := n1_; clear n0_ n1_; (try clear hb); (try clear hb2); (try clear hk); (try clear hi))))
       go_meet
       case rel => exact ⟨_, (true), (by (rfl)), H', ⟨by (omega)⟩, ⟨by (with_reducible repeat ((refine blk_drew ?_))); exact BK461.out⟩, ⟨by repeat ((with_reducible (exact HB.out)))⟩⟩
      ·rw [if_neg c16] at H
       have c16b0 : decide (a2_1 < a2_0) = false := decide_eq_false c16
       clear c16
       have H' := Aside0.mk H
       clear H
       go_wp2_with (first | (go_at_call 12; (with_reducible refine (jj6.calls k _ _ l0 true _ ?side1 ?side2 A6.out).mono ?_); (case side1 => repeat ((exact (Kd.C_below HR0.out HB.out)))); (case side2 => exact HC0.out); rintro e w20 ⟨rfl, hb⟩; have n0_ := Aside0.mk (blk_below (g := gb461) (o := .cells #[.int .i64 a2_0, .int .i64 a2_1] 24 (0, 0)) (by (with_reducible repeat ((refine blk_drew ?_))); exact BK461.out) hb); have n1_ := Aside0.mk (below_step (by repeat ((with_reducible (exact HB.out)))) hb); clear BK461; clear HB; have BK461 := n0_; have HB := n1_; clear n0_ n1_; (try clear hb); (try clear hb2); (try clear hk); (try clear hi)) | (go_at_call 38; (with_reducible refine (jj46.calls k _ _ l0 a1 true _ ?side1 ?side2 A10.out).mono ?_); (case side1 => repeat ((exact (Kd.C_below HR0.out HB.out)))); (case side2 => exact HC0.out); rintro e w21 ⟨rfl, hb⟩; have n0_ := Aside0.mk (blk_below (g := gb461) (o := .cells #[.int .i64 a2_0, .int .i64 a2_1] 24 (0, 0)) (by (with_reducible repeat ((refine blk_drew ?_))); exact BK461.out) hb); have n1_ := Aside0.mk (below_step (by repeat ((with_reducible (exact HB.out)))) hb); clear BK461; clear HB; have BK461 := n0_; have HB := n1_; clear n0_ n1_; (try clear hb); (try clear hb2); (try clear hk); (try clear hi); have hcz22_0 : w21.cell? ⟨gb461, 0, none⟩ = some (.int .i64 a2_0) := (blk_cell BK461.out 0).trans rfl; have hcz22_1 : w21.cell? ⟨gb461, 1, none⟩ = some (.int .i64 a2_1) := (blk_cell BK461.out 1).trans rfl; have hfz22_0 := blk_frozen BK461.out 0; have hfz22_1 := blk_frozen BK461.out 1))
       repeat (go_quiet ((go_at_call 12; (with_reducible refine (jj6.calls k _ _ l0 true _ ?side1 ?side2 A6.out).mono ?_); (case side1 => repeat ((exact (Kd.C_below HR0.out HB.out)))); (case side2 => exact HC0.out); rintro e w20 ⟨rfl, hb⟩; have n0_ := Aside0.mk (blk_below (g := gb461) (o := .cells #[.int .i64 a2_0, .int .i64 a2_1] 24 (0, 0)) (by (with_reducible repeat ((refine blk_drew ?_))); exact BK461.out) hb); have n1_ := Aside0.mk (below_step (by repeat ((exact HB.out))) hb); clear BK461; clear HB; have BK461 := n0_; have HB := n1_; clear n0_ n1_; (try clear hb); (try clear hb2); (try clear hk); (try clear hi))); try go_wp2_with ((go_at_call 12; (with_reducible refine (jj6.calls k _ _ l0 true _ ?side1 ?side2 A6.out).mono ?_); (case side1 => repeat ((exact (Kd.C_below HR0.out HB.out)))); (case side2 => exact HC0.out); rintro e w20 ⟨rfl, hb⟩; have n0_ := Aside0.mk (blk_below (g := gb461) (o := .cells #[.int .i64 a2_0, .int .i64 a2_1] 24 (0, 0)) (by (with_reducible repeat ((refine blk_drew ?_))); exact BK461.out) hb); have n1_ := Aside0.mk (below_step (by repeat ((exact HB.out))) hb); clear BK461; clear HB; have BK461 := n0_; have HB := n1_; clear n0_ n1_; (try clear hb); (try clear hb2); (try clear hk); (try clear hi))))
       go_meet
       case rel => exact ⟨_, (decide (a2_1 > (a1.size : Int))), (by (rfl)), H', ⟨by (omega)⟩, ⟨by (with_reducible repeat ((refine blk_drew ?_))); exact BK461.out⟩, ⟨by repeat ((with_reducible (exact HB.out)))⟩⟩
    ·replace c11 := Bool.eq_false_iff.mpr c11
     subst c11
     have H1 : (jj34.j0 k l0 a1 true a2_0 a2_1) = some r := by rw [if_neg (show ¬ (false = true) by decide)] at H; exact H
     clear H
     have H := H1
     clear H1
     have H' := Aside0.mk H
     clear H
     go_wp2_with (first | (go_at_call 12; (with_reducible refine (jj6.calls k _ _ l0 true _ ?side1 ?side2 A6.out).mono ?_); (case side1 => repeat ((exact (Kd.C_below HR0.out HB.out)))); (case side2 => exact HC0.out); rintro e w23 ⟨rfl, hb⟩; have n0_ := Aside0.mk (blk_below (g := gb461) (o := .cells #[.int .i64 a2_0, .int .i64 a2_1] 24 (0, 0)) (by (with_reducible repeat ((refine blk_drew ?_))); exact BK461.out) hb); have n1_ := Aside0.mk (below_step (by repeat ((with_reducible (exact HB.out)))) hb); clear BK461; clear HB; have BK461 := n0_; have HB := n1_; clear n0_ n1_; (try clear hb); (try clear hb2); (try clear hk); (try clear hi)) | (go_at_call 38; (with_reducible refine (jj46.calls k _ _ l0 a1 false _ ?side1 ?side2 A10.out).mono ?_); (case side1 => repeat ((exact (Kd.C_below HR0.out HB.out)))); (case side2 => exact HC0.out); rintro e w24 ⟨rfl, hb⟩; have n0_ := Aside0.mk (blk_below (g := gb461) (o := .cells #[.int .i64 a2_0, .int .i64 a2_1] 24 (0, 0)) (by (with_reducible repeat ((refine blk_drew ?_))); exact BK461.out) hb); have n1_ := Aside0.mk (below_step (by repeat ((with_reducible (exact HB.out)))) hb); clear BK461; clear HB; have BK461 := n0_; have HB := n1_; clear n0_ n1_; (try clear hb); (try clear hb2); (try clear hk); (try clear hi)))
     repeat (go_quiet ((go_at_call 12; (with_reducible refine (jj6.calls k _ _ l0 true _ ?side1 ?side2 A6.out).mono ?_); (case side1 => repeat ((exact (Kd.C_below HR0.out HB.out)))); (case side2 => exact HC0.out); rintro e w23 ⟨rfl, hb⟩; have n0_ := Aside0.mk (blk_below (g := gb461) (o := .cells #[.int .i64 a2_0, .int .i64 a2_1] 24 (0, 0)) (by (with_reducible repeat ((refine blk_drew ?_))); exact BK461.out) hb); have n1_ := Aside0.mk (below_step (by repeat ((exact HB.out))) hb); clear BK461; clear HB; have BK461 := n0_; have HB := n1_; clear n0_ n1_; (try clear hb); (try clear hb2); (try clear hk); (try clear hi))); try go_wp2_with ((go_at_call 12; (with_reducible refine (jj6.calls k _ _ l0 true _ ?side1 ?side2 A6.out).mono ?_); (case side1 => repeat ((exact (Kd.C_below HR0.out HB.out)))); (case side2 => exact HC0.out); rintro e w23 ⟨rfl, hb⟩; have n0_ := Aside0.mk (blk_below (g := gb461) (o := .cells #[.int .i64 a2_0, .int .i64 a2_1] 24 (0, 0)) (by (with_reducible repeat ((refine blk_drew ?_))); exact BK461.out) hb); have n1_ := Aside0.mk (below_step (by repeat ((exact HB.out))) hb); clear BK461; clear HB; have BK461 := n0_; have HB := n1_; clear n0_ n1_; (try clear hb); (try clear hb2); (try clear hk); (try clear hi))))
     go_meet
     case rel => exact ⟨_, (true), (by (rfl)), H', ⟨by (omega)⟩, ⟨by (with_reducible repeat ((refine blk_drew ?_))); exact BK461.out⟩, ⟨by repeat ((with_reducible (exact HB.out)))⟩⟩
  ·replace c7 := Bool.eq_false_iff.mpr c7
   subst c7
   have H1 : (jj34.j0 k l0 a1 true a2_0 a2_1) = some r := by rw [if_neg (show ¬ (false = true) by decide)] at H; exact H
   clear H
   have H := H1
   clear H1
   have H' := Aside0.mk H
   clear H
   go_wp2_with (first | (go_at_call 12; (with_reducible refine (jj6.calls k _ _ l0 false _ ?side1 ?side2 A6.out).mono ?_); (case side1 => repeat ((exact (Kd.C_below HR0.out HB.out)))); (case side2 => exact HC0.out); rintro e w25 ⟨rfl, hb⟩; have n0_ := Aside0.mk (blk_below (g := gb461) (o := .cells #[.int .i64 a2_0, .int .i64 a2_1] 24 (0, 0)) (by (with_reducible repeat ((refine blk_drew ?_))); exact BK461.out) hb); have n1_ := Aside0.mk (below_step (by repeat ((with_reducible (exact HB.out)))) hb); clear BK461; clear HB; have BK461 := n0_; have HB := n1_; clear n0_ n1_; (try clear hb); (try clear hb2); (try clear hk); (try clear hi)))
   repeat (go_quiet (first | (go_at_call 12; (with_reducible refine (jj6.calls k _ _ l0 false _ ?side1 ?side2 A6.out).mono ?_); (case side1 => repeat ((exact (Kd.C_below HR0.out HB.out)))); (case side2 => exact HC0.out); rintro e w25 ⟨rfl, hb⟩; have n0_ := Aside0.mk (blk_below (g := gb461) (o := .cells #[.int .i64 a2_0, .int .i64 a2_1] 24 (0, 0)) (by (with_reducible repeat ((refine blk_drew ?_))); exact BK461.out) hb); have n1_ := Aside0.mk (below_step (by repeat ((exact HB.out))) hb); clear BK461; clear HB; have BK461 := n0_; have HB := n1_; clear n0_ n1_; (try clear hb); (try clear hb2); (try clear hk); (try clear hi))); try go_wp2_with (first | (go_at_call 12; (with_reducible refine (jj6.calls k _ _ l0 false _ ?side1 ?side2 A6.out).mono ?_); (case side1 => repeat ((exact (Kd.C_below HR0.out HB.out)))); (case side2 => exact HC0.out); rintro e w25 ⟨rfl, hb⟩; have n0_ := Aside0.mk (blk_below (g := gb461) (o := .cells #[.int .i64 a2_0, .int .i64 a2_1] 24 (0, 0)) (by (with_reducible repeat ((refine blk_drew ?_))); exact BK461.out) hb); have n1_ := Aside0.mk (below_step (by repeat ((exact HB.out))) hb); clear BK461; clear HB; have BK461 := n0_; have HB := n1_; clear n0_ n1_; (try clear hb); (try clear hb2); (try clear hk); (try clear hi))))
   go_meet
   case rel => exact ⟨_, (true), (by (rfl)), H', ⟨by (omega)⟩, ⟨by (with_reducible repeat ((refine blk_drew ?_))); exact BK461.out⟩, ⟨by repeat ((with_reducible (exact HB.out)))⟩⟩
 case rest =>
  clear HC4
  try clear c1
  try clear p2
  try clear c7
  try clear c8
  try clear c8b0
  try clear c8b1
  try clear c11
  try clear c12
  try clear c12b0
  try clear c16
  try clear c16b0
  try clear hcz15_0
  try clear hcz15_1
  try clear hcz19_0
  try clear hcz19_1
  try clear hcz22_0
  try clear hcz22_1
  try clear hfz15_0
  try clear hfz15_1
  try clear hfz19_0
  try clear hfz19_1
  try clear hfz22_0
  try clear hfz22_1
  obtain ⟨kq, x48_3, rfl, HA, HJ3, BK461, HB⟩ := hcut
  cases kq with
  | zero => exact absurd HA.out (by simp [jj34.j0])
  | succ kj3 =>
   have H := HA.out
   clear HA
   simp only [jj34.j0] at H
   by_cases c26 : x48_3 = true
   ·subst c26
    have H1 : ((jj38.f).bind fun t464 => (some t464)) = some r := by rw [if_pos rfl] at H; exact H
    clear H
    have H := H1
    clear H1
    replace H := Option.bind_eq_some_iff.mp H
    obtain ⟨t464, A270, H⟩ := H
    replace H : (some t464) = some r := H
    have A27 := Aside0.mk A270
    clear A270
    obtain rfl := Option.some.inj H
    go_wp2_with (first | (go_at_call 13; (with_reducible refine (jj38.calls  t464 _ A27.out).mono ?_); rintro e w28 ⟨rfl, hb⟩; have n0_ := Aside0.mk (blk_below (g := gb461) (o := .cells #[.int .i64 a2_0, .int .i64 a2_1] 24 (0, 0)) (by (with_reducible repeat ((refine blk_drew ?_))); exact BK461.out) hb); have n1_ := Aside0.mk (below_step (by repeat ((with_reducible (exact HB.out)))) hb); clear BK461; clear HB; have BK461 := n0_; have HB := n1_; clear n0_ n1_; (try clear hb); (try clear hb2); (try clear hk); (try clear hi)))
    repeat (go_quiet (first | (go_at_call 13; (with_reducible refine (jj38.calls  t464 _ A27.out).mono ?_); rintro e w28 ⟨rfl, hb⟩; have n0_ := Aside0.mk (blk_below (g := gb461) (o := .cells #[.int .i64 a2_0, .int .i64 a2_1] 24 (0, 0)) (by (with_reducible repeat ((refine blk_drew ?_))); exact BK461.out) hb); have n1_ := Aside0.mk (below_step (by repeat ((exact HB.out))) hb); clear BK461; clear HB; have BK461 := n0_; have HB := n1_; clear n0_ n1_; (try clear hb); (try clear hb2); (try clear hk); (try clear hi))); try go_wp2_with (first | (go_at_call 13; (with_reducible refine (jj38.calls  t464 _ A27.out).mono ?_); rintro e w28 ⟨rfl, hb⟩; have n0_ := Aside0.mk (blk_below (g := gb461) (o := .cells #[.int .i64 a2_0, .int .i64 a2_1] 24 (0, 0)) (by (with_reducible repeat ((refine blk_drew ?_))); exact BK461.out) hb); have n1_ := Aside0.mk (below_step (by repeat ((exact HB.out))) hb); clear BK461; clear HB; have BK461 := n0_; have HB := n1_; clear n0_ n1_; (try clear hb); (try clear hb2); (try clear hk); (try clear hi))))
    go_ret
    exact ⟨by (rfl), by repeat ((with_reducible (exact HB.out)))⟩
   ·replace c26 := Bool.eq_false_iff.mpr c26
    subst c26
    have H1 : ((run_Apply.f l0 a1).bind fun bt465 => ((jj25.f l0 a2_0 a2_1).bind fun bt467 => (if bt467.2.2 = true then (if bt467.1 < 0 then (jj34.j1 kj3 l0 a1 bt465.1 true a2_0 a2_1 bt467.1 bt467.2.1) else (if bt467.1 > bt467.2.1 then (jj34.j1 kj3 l0 a1 bt465.1 true a2_0 a2_1 bt467.1 bt467.2.1) else (jj34.j1 kj3 l0 a1 bt465.1 (decide (bt467.2.1 > (bt465.1.size : Int))) a2_0 a2_1 bt467.1 bt467.2.1))) else (jj34.j1 kj3 l0 a1 bt465.1 true a2_0 a2_1 bt467.1 bt467.2.1)))) = some r := by rw [if_neg (show ¬ (false = true) by decide)] at H; exact H
    clear H
    have H := H1
    clear H1
    replace H := Option.bind_eq_some_iff.mp H
    obtain ⟨⟨t465, t466⟩, A290, H⟩ := H
    replace H : ((jj25.f l0 a2_0 a2_1).bind fun bt467 => (if bt467.2.2 = true then (if bt467.1 < 0 then (jj34.j1 kj3 l0 a1 t465 true a2_0 a2_1 bt467.1 bt467.2.1) else (if bt467.1 > bt467.2.1 then (jj34.j1 kj3 l0 a1 t465 true a2_0 a2_1 bt467.1 bt467.2.1) else (jj34.j1 kj3 l0 a1 t465 (decide (bt467.2.1 > (t465.size : Int))) a2_0 a2_1 bt467.1 bt467.2.1))) else (jj34.j1 kj3 l0 a1 t465 true a2_0 a2_1 bt467.1 bt467.2.1))) = some r := H
    have A29 := Aside0.mk A290
    clear A290
    replace H := Option.bind_eq_some_iff.mp H
    obtain ⟨⟨t467, t468, t469⟩, A300, H⟩ := H
    replace H : (if t469 = true then (if t467 < 0 then (jj34.j1 kj3 l0 a1 t465 true a2_0 a2_1 t467 t468) else (if t467 > t468 then (jj34.j1 kj3 l0 a1 t465 true a2_0 a2_1 t467 t468) else (jj34.j1 kj3 l0 a1 t465 (decide (t468 > (t465.size : Int))) a2_0 a2_1 t467 t468))) else (jj34.j1 kj3 l0 a1 t465 true a2_0 a2_1 t467 t468)) = some r := H
    have A30 := Aside0.mk A300
    clear A300
    have HC31 := Aside0.mk H
    clear H
    go_upto_region 5 with (first | (go_at_call 39; (with_reducible refine (run_Apply.calls _ _ l0 a1 t465 t466 _ ?side1 ?side2 A29.out).mono ?_); (case side1 => repeat ((exact (Kd.C_below HR0.out HB.out)))); (case side2 => exact HC0.out); rintro e w32 ⟨rfl, hb⟩; have n0_ := Aside0.mk (blk_below (g := gb461) (o := .cells #[.int .i64 a2_0, .int .i64 a2_1] 24 (0, 0)) (by (with_reducible repeat ((refine blk_drew ?_))); exact BK461.out) hb); have n1_ := Aside0.mk (below_step (by repeat ((with_reducible (exact HB.out)))) hb); clear BK461; clear HB; have BK461 := n0_; have HB := n1_; clear n0_ n1_; (try clear hb); (try clear hb2); (try clear hk); (try clear hi); have hcz33_0 : w32.cell? ⟨gb461, 0, none⟩ = some (.int .i64 a2_0) := (blk_cell BK461.out 0).trans rfl; have hcz33_1 : w32.cell? ⟨gb461, 1, none⟩ = some (.int .i64 a2_1) := (blk_cell BK461.out 1).trans rfl; have hfz33_0 := blk_frozen BK461.out 0; have hfz33_1 := blk_frozen BK461.out 1) | (go_at_call 16; (with_reducible refine (jj25.calls _ _ l0 a2_0 a2_1 t467 t468 t469 _ ?side1 ?side2 A30.out).mono ?_); (case side1 => repeat ((exact (Kd.C_below HR0.out HB.out)))); (case side2 => exact HC0.out); rintro e w34 ⟨rfl, hb⟩; have n0_ := Aside0.mk (blk_below (g := gb461) (o := .cells #[.int .i64 a2_0, .int .i64 a2_1] 24 (0, 0)) (by (with_reducible repeat ((refine blk_drew ?_))); exact BK461.out) hb); have n1_ := Aside0.mk (below_step (by repeat ((with_reducible (exact HB.out)))) hb); clear BK461; clear HB; have BK461 := n0_; have HB := n1_; clear n0_ n1_; (try clear hb); (try clear hb2); (try clear hk); (try clear hi)) | ((with_reducible refine gate_dst (N := 9) rfl ?_); (try (refine gate_guard (by rfl) ?_; dsimp only)); refine box_event ?hg (N := 9) ?hd (cs := #[.int .i64 0, .int .i64 0]) (t := 24) ?hr ?_; (case hd => rfl); (case hg => rfl); (case hr => (go_simp; done)); intro gb470 hg w35 hbox hb; have n0_ := Aside0.mk (blk_below (g := gb461) (o := .cells #[.int .i64 a2_0, .int .i64 a2_1] 24 (0, 0)) (by (with_reducible repeat ((refine blk_drew ?_))); exact BK461.out) hb); have n1_ := Aside0.mk (below_step (by repeat ((with_reducible (exact HB.out)))) hb); have n2_ := Aside0.mk (hbox); have n3_ := Aside0.mk ((by rw [hg]; exact (below_size (by repeat ((with_reducible (exact HB.out))))) : w.heap.size ≤ gb470)); have n4_ := Aside0.mk ((by rw [hg]; exact (below_size (by repeat ((with_reducible (exact HB.out))))) : w.heap.size ≤ gb470)); have n5_ := Aside0.mk ((by rw [hg]; exact Nat.ne_of_lt (blk_lt (g := gb461) (o := .cells #[.int .i64 a2_0, .int .i64 a2_1] 24 (0, 0)) (by (with_reducible repeat ((refine blk_drew ?_))); exact BK461.out)) : gb461 ≠ gb470)); have n6_ := Aside0.mk ((by rw [hg]; exact Nat.ne_of_gt (blk_lt (g := gb461) (o := .cells #[.int .i64 a2_0, .int .i64 a2_1] 24 (0, 0)) (by (with_reducible repeat ((refine blk_drew ?_))); exact BK461.out)) : gb470 ≠ gb461)); clear BK461; clear HB; have BK461 := n0_; have HB := n1_; have BK470 := n2_; have GW470 := n3_; have GE470 := n4_; have NB461_470 := n5_; have NB470_461 := n6_; clear n0_ n1_ n2_ n3_ n4_ n5_ n6_; clear hb hbox hg; have hnb36 := NB470_461.out; have hnc36 := NB461_470.out; have hcz37_0 : w35.cell? ⟨gb470, 0, none⟩ = some (.int .i64 0) := (blk_cell BK470.out 0).trans rfl; have hcz37_1 : w35.cell? ⟨gb470, 1, none⟩ = some (.int .i64 0) := (blk_cell BK470.out 1).trans rfl; have hfz37_0 := blk_frozen BK470.out 0; have hfz37_1 := blk_frozen BK470.out 1))
    repeat (go_quiet ((go_at_call 16; (with_reducible refine (jj25.calls _ _ l0 a2_0 a2_1 t467 t468 t469 _ ?side1 ?side2 A30.out).mono ?_); (case side1 => repeat ((exact (Kd.C_below HR0.out HB.out)))); (case side2 => exact HC0.out); rintro e w34 ⟨rfl, hb⟩; have n0_ := Aside0.mk (blk_below (g := gb461) (o := .cells #[.int .i64 a2_0, .int .i64 a2_1] 24 (0, 0)) (by (with_reducible repeat ((refine blk_drew ?_))); exact BK461.out) hb); have n1_ := Aside0.mk (below_step (by repeat ((exact HB.out))) hb); clear BK461; clear HB; have BK461 := n0_; have HB := n1_; clear n0_ n1_; (try clear hb); (try clear hb2); (try clear hk); (try clear hi))); go_upto_region 5 with ((go_at_call 16; (with_reducible refine (jj25.calls _ _ l0 a2_0 a2_1 t467 t468 t469 _ ?side1 ?side2 A30.out).mono ?_); (case side1 => repeat ((exact (Kd.C_below HR0.out HB.out)))); (case side2 => exact HC0.out); rintro e w34 ⟨rfl, hb⟩; have n0_ := Aside0.mk (blk_below (g := gb461) (o := .cells #[.int .i64 a2_0, .int .i64 a2_1] 24 (0, 0)) (by (with_reducible repeat ((refine blk_drew ?_))); exact BK461.out) hb); have n1_ := Aside0.mk (below_step (by repeat ((exact HB.out))) hb); clear BK461; clear HB; have BK461 := n0_; have HB := n1_; clear n0_ n1_; (try clear hb); (try clear hb2); (try clear hk); (try clear hi))))
    (try simp only [Act.put, List.setIfInBounds_toArray, List.set_cons_zero, List.set_cons_succ])
    go_cut [82] (fun v82 wc => ∃ (kq : Nat) (x82_30 : Bool), v82 = .bool x82_30 ∧ Aside0 (jj34.j1 kq l0 a1 t465 x82_30 a2_0 a2_1 t467 t468 = some r) ∧ Aside0 (kq ≤ kj3) ∧ Aside0 (wc.heap[gb461]? = some (.cells #[.int .i64 a2_0, .int .i64 a2_1] 24 (0, 0))) ∧ Aside0 (wc.heap[gb470]? = some (.cells #[.int .i64 t467, .int .i64 t468] 24 (0, 0))) ∧ Aside0 (Below w.heap.size w wc))
    case first =>
     have H := HC31.out
     clear HC31
     by_cases c38 : t469 = true
     ·subst c38
      have H1 : (if t467 < 0 then (jj34.j1 kj3 l0 a1 t465 true a2_0 a2_1 t467 t468) else (if t467 > t468 then (jj34.j1 kj3 l0 a1 t465 true a2_0 a2_1 t467 t468) else (jj34.j1 kj3 l0 a1 t465 (decide (t468 > (t465.size : Int))) a2_0 a2_1 t467 t468))) = some r := by rw [if_pos rfl] at H; exact H
      clear H
      have H := H1
      clear H1
      by_cases c39 : t467 < 0
      ·rw [if_pos c39] at H
       have c39b0 : decide (t467 < 0) = true := decide_eq_true c39
       clear c39
       ((skip))
       have H' := Aside0.mk H
       clear H
       have hnb40 := NB470_461.out
       have hnc40 := NB461_470.out
       have hcz41_0 : w35.cell? ⟨gb470, 0, none⟩ = some (.int .i64 0) := (blk_cell BK470.out 0).trans rfl
       have hcz41_1 : w35.cell? ⟨gb470, 1, none⟩ = some (.int .i64 0) := (blk_cell BK470.out 1).trans rfl
       have hfz41_0 := blk_frozen BK470.out 0
       have hfz41_1 := blk_frozen BK470.out 1
       go_wp2
       repeat (go_quiet (fail); try go_wp2)
       go_meet
       case rel => exact ⟨_, (true), (by (rfl)), H', ⟨by have := HJ3.out; (omega)⟩, ⟨by (with_reducible repeat ((refine blk_drew ?_))); refine blk_far ?_ NB461_470.out _; (with_reducible repeat ((refine blk_drew ?_))); refine blk_far ?_ NB461_470.out _; (with_reducible repeat ((refine blk_drew ?_))); exact BK461.out⟩, ⟨by (with_reducible repeat ((refine blk_drew ?_))); refine blk_put (cs := #[.int .i64 t467, .int .i64 0]) ?_ 1 _ rfl; (with_reducible repeat ((refine blk_drew ?_))); refine blk_put (cs := #[.int .i64 0, .int .i64 0]) ?_ 0 _ rfl; (with_reducible repeat ((refine blk_drew ?_))); exact BK470.out⟩, ⟨by repeat ((with_reducible first | exact HB.out | refine below_set ?_ GE470.out))⟩⟩
      ·rw [if_neg c39] at H
       have c39b0 : decide (t467 < 0) = false := decide_eq_false c39
       clear c39
       ((skip))
       by_cases c42 : t467 > t468
       ·rw [if_pos c42] at H
        have c42b0 : decide (t468 < t467) = true := decide_eq_true c42
        clear c42
        have H' := Aside0.mk H
        clear H
        have hnb43 := NB470_461.out
        have hnc43 := NB461_470.out
        have hcz44_0 : w35.cell? ⟨gb470, 0, none⟩ = some (.int .i64 0) := (blk_cell BK470.out 0).trans rfl
        have hcz44_1 : w35.cell? ⟨gb470, 1, none⟩ = some (.int .i64 0) := (blk_cell BK470.out 1).trans rfl
        have hfz44_0 := blk_frozen BK470.out 0
        have hfz44_1 := blk_frozen BK470.out 1
        go_wp2
        repeat (go_quiet (fail); try go_wp2)
        go_meet
        case rel => exact ⟨_, (true), (by (rfl)), H', ⟨by have := HJ3.out; (omega)⟩, ⟨by (with_reducible repeat ((refine blk_drew ?_))); refine blk_far ?_ NB461_470.out _; (with_reducible repeat ((refine blk_drew ?_))); refine blk_far ?_ NB461_470.out _; (with_reducible repeat ((refine blk_drew ?_))); exact BK461.out⟩, ⟨by (with_reducible repeat ((refine blk_drew ?_))); refine blk_put (cs := #[.int .i64 t467, .int .i64 0]) ?_ 1 _ rfl; (with_reducible repeat ((refine blk_drew ?_))); refine blk_put (cs := #[.int .i64 0, .int .i64 0]) ?_ 0 _ rfl; (with_reducible repeat ((refine blk_drew ?_))); exact BK470.out⟩, ⟨by repeat ((with_reducible first | exact HB.out | refine below_set ?_ GE470.out))⟩⟩
       ·rw [if_neg c42] at H
        have c42b0 : decide (t468 < t467) = false := decide_eq_false c42
        clear c42
        have H' := Aside0.mk H
        clear H
        have hnb45 := NB470_461.out
        have hnc45 := NB461_470.out
        have hcz46_0 : w35.cell? ⟨gb470, 0, none⟩ = some (.int .i64 0) := (blk_cell BK470.out 0).trans rfl
        have hcz46_1 : w35.cell? ⟨gb470, 1, none⟩ = some (.int .i64 0) := (blk_cell BK470.out 1).trans rfl
        have hfz46_0 := blk_frozen BK470.out 0
        have hfz46_1 := blk_frozen BK470.out 1
        go_wp2
        repeat (go_quiet (fail); try go_wp2)
        go_meet
        case rel => exact ⟨_, (decide (t468 > (t465.size : Int))), (by (rfl)), H', ⟨by have := HJ3.out; (omega)⟩, ⟨by (with_reducible repeat ((refine blk_drew ?_))); refine blk_far ?_ NB461_470.out _; (with_reducible repeat ((refine blk_drew ?_))); refine blk_far ?_ NB461_470.out _; (with_reducible repeat ((refine blk_drew ?_))); exact BK461.out⟩, ⟨by (with_reducible repeat ((refine blk_drew ?_))); refine blk_put (cs := #[.int .i64 t467, .int .i64 0]) ?_ 1 _ rfl; (with_reducible repeat ((refine blk_drew ?_))); refine blk_put (cs := #[.int .i64 0, .int .i64 0]) ?_ 0 _ rfl; (with_reducible repeat ((refine blk_drew ?_))); exact BK470.out⟩, ⟨by repeat ((with_reducible first | exact HB.out | refine below_set ?_ GE470.out))⟩⟩
     ·replace c38 := Bool.eq_false_iff.mpr c38
      subst c38
      have H1 : (jj34.j1 kj3 l0 a1 t465 true a2_0 a2_1 t467 t468) = some r := by rw [if_neg (show ¬ (false = true) by decide)] at H; exact H
      clear H
      have H := H1
      clear H1
      have H' := Aside0.mk H
      clear H
      go_wp2
      repeat (go_quiet (fail); try go_wp2)
      go_meet
      case rel => exact ⟨_, (true), (by (rfl)), H', ⟨by have := HJ3.out; (omega)⟩, ⟨by (with_reducible repeat ((refine blk_drew ?_))); refine blk_far ?_ NB461_470.out _; (with_reducible repeat ((refine blk_drew ?_))); refine blk_far ?_ NB461_470.out _; (with_reducible repeat ((refine blk_drew ?_))); exact BK461.out⟩, ⟨by (with_reducible repeat ((refine blk_drew ?_))); refine blk_put (cs := #[.int .i64 t467, .int .i64 0]) ?_ 1 _ rfl; (with_reducible repeat ((refine blk_drew ?_))); refine blk_put (cs := #[.int .i64 0, .int .i64 0]) ?_ 0 _ rfl; (with_reducible repeat ((refine blk_drew ?_))); exact BK470.out⟩, ⟨by repeat ((with_reducible first | exact HB.out | refine below_set ?_ GE470.out))⟩⟩
    case rest =>
     clear HC31
     try clear c1
     try clear c2
     try clear p2
     try clear c3
     try clear c4
     try clear c7
     try clear c8
     try clear c8b0
     try clear c8b1
     try clear c11
     try clear c12
     try clear c12b0
     try clear c16
     try clear c16b0
     try clear c26
     try clear c36
     try clear c38
     try clear c39
     try clear c39b0
     try clear c40
     try clear c42
     try clear c42b0
     try clear c43
     try clear c45
     try clear hcz15_0
     try clear hcz15_1
     try clear hcz19_0
     try clear hcz19_1
     try clear hcz22_0
     try clear hcz22_1
     try clear hcz33_0
     try clear hcz33_1
     try clear hcz37_0
     try clear hcz37_1
     try clear hcz41_0
     try clear hcz41_1
     try clear hcz44_0
     try clear hcz44_1
     try clear hcz46_0
     try clear hcz46_1
     try clear hfz15_0
     try clear hfz15_1
     try clear hfz19_0
     try clear hfz19_1
     try clear hfz22_0
     try clear hfz22_1
     try clear hfz33_0
     try clear hfz33_1
     try clear hfz37_0
     try clear hfz37_1
     try clear hfz41_0
     try clear hfz41_1
     try clear hfz44_0
     try clear hfz44_1
     try clear hfz46_0
     try clear hfz46_1
     try clear p2
     obtain ⟨kq, x82_30, rfl, HA, HJ30, BK461, BK470, HB⟩ := hcut
     cases kq with
     | zero => exact absurd HA.out (by simp [jj34.j1])
     | succ kj30 =>
      have H := HA.out
      clear HA
      simp only [jj34.j1] at H
      by_cases c47 : x82_30 = true
      ·subst c47
       have H1 : (some false) = some r := by rw [if_pos rfl] at H; exact H
       clear H
       have H := H1
       clear H1
       exact absurd (Option.some.inj (show some false = some r from H)) (by rw [HR1_.out]; decide)
      ·replace c47 := Bool.eq_false_iff.mpr c47
       subst c47
       have H1 : ((jj13.f kj30 l0).bind fun t471 => ((jj14.f kj30 l0).bind fun t474 => (jj34.l0 kj30 a1 t465 t471 t474 0 true a2_0 a2_0 a2_1 t467 t468))) = some r := by rw [if_neg (show ¬ (false = true) by decide)] at H; exact H
       clear H
       have H := H1
       clear H1
       replace H := Option.bind_eq_some_iff.mp H
       obtain ⟨t471, A480, H⟩ := H
       replace H : ((jj14.f kj30 l0).bind fun t474 => (jj34.l0 kj30 a1 t465 t471 t474 0 true a2_0 a2_0 a2_1 t467 t468)) = some r := H
       have A48 := Aside0.mk A480
       clear A480
       replace H := Option.bind_eq_some_iff.mp H
       obtain ⟨t474, A490, H⟩ := H
       replace H : (jj34.l0 kj30 a1 t465 t471 t474 0 true a2_0 a2_0 a2_1 t467 t468) = some r := H
       have A49 := Aside0.mk A490
       clear A490
       have H' := Aside0.mk H
       clear H
       go_wp2_with (first | (go_at_call 40; (with_reducible refine (jj13.calls kj30 _ _ l0 t471 _ ?side1 ?side2 A48.out).mono ?_); (case side1 => repeat ((exact (Kd.C_below HR0.out HB.out)))); (case side2 => exact HC0.out); rintro e w50 ⟨v472, rfl, ho0, hb⟩; have n0_ := Aside0.mk (Kd.R_lower ho0 (below_size (by repeat ((with_reducible (exact HB.out)))))); have n1_ := Aside0.mk (blk_below (g := gb461) (o := .cells #[.int .i64 a2_0, .int .i64 a2_1] 24 (0, 0)) (by (with_reducible repeat ((refine blk_drew ?_))); exact BK461.out) hb); have n2_ := Aside0.mk (blk_below (g := gb470) (o := .cells #[.int .i64 t467, .int .i64 t468] 24 (0, 0)) (by (with_reducible repeat ((refine blk_drew ?_))); exact BK470.out) hb); have n3_ := Aside0.mk (below_step (by repeat ((with_reducible (exact HB.out)))) hb); clear BK461; clear BK470; clear HB; have HO473 := n0_; have BK461 := n1_; have BK470 := n2_; have HB := n3_; clear n0_ n1_ n2_ n3_; (try clear hb); (try clear hb2); (try clear hk); (try clear hi); (try clear ho0)) | (go_at_call 41; (with_reducible refine (jj14.calls kj30 _ _ l0 t474 _ ?side1 ?side2 A49.out).mono ?_); (case side1 => repeat ((exact (Kd.C_below HR0.out HB.out)))); (case side2 => exact HC0.out); rintro e w51 ⟨v475, rfl, ho0, hb⟩; have n0_ := Aside0.mk (Kd.R_below (by (with_reducible repeat ((apply Kd.R_drew))); exact HO473.out) hb); have n1_ := Aside0.mk (Kd.R_lower ho0 (below_size (by repeat ((with_reducible (exact HB.out)))))); have n2_ := Aside0.mk (blk_below (g := gb461) (o := .cells #[.int .i64 a2_0, .int .i64 a2_1] 24 (0, 0)) (by (with_reducible repeat ((refine blk_drew ?_))); exact BK461.out) hb); have n3_ := Aside0.mk (blk_below (g := gb470) (o := .cells #[.int .i64 t467, .int .i64 t468] 24 (0, 0)) (by (with_reducible repeat ((refine blk_drew ?_))); exact BK470.out) hb); have n4_ := Aside0.mk (below_step (by repeat ((with_reducible (exact HB.out)))) hb); clear HO473; clear BK461; clear BK470; clear HB; have HO473 := n0_; have HO476 := n1_; have BK461 := n2_; have BK470 := n3_; have HB := n4_; clear n0_ n1_ n2_ n3_ n4_; (try clear hb); (try clear hb2); (try clear hk); (try clear hi); (try clear ho0); have hnb52 := NB461_470.out; have hnc52 := NB470_461.out; have hcz53_0 : w51.cell? ⟨gb461, 0, none⟩ = some (.int .i64 a2_0) := (blk_cell BK461.out 0).trans rfl; have hcz53_1 : w51.cell? ⟨gb461, 1, none⟩ = some (.int .i64 a2_1) := (blk_cell BK461.out 1).trans rfl; have hfz53_0 := blk_frozen BK461.out 0; have hfz53_1 := blk_frozen BK461.out 1))
       repeat (go_quiet ((go_at_call 40; (with_reducible refine (jj13.calls kj30 _ _ l0 t471 _ ?side1 ?side2 A48.out).mono ?_); (case side1 => repeat ((exact (Kd.C_below HR0.out HB.out)))); (case side2 => exact HC0.out); rintro e w50 ⟨v472, rfl, ho0, hb⟩; have n0_ := Aside0.mk (Kd.R_lower ho0 (below_size (by repeat ((exact HB.out))))); have n1_ := Aside0.mk (blk_below (g := gb461) (o := .cells #[.int .i64 a2_0, .int .i64 a2_1] 24 (0, 0)) (by (with_reducible repeat ((refine blk_drew ?_))); exact BK461.out) hb); have n2_ := Aside0.mk (blk_below (g := gb470) (o := .cells #[.int .i64 t467, .int .i64 t468] 24 (0, 0)) (by (with_reducible repeat ((refine blk_drew ?_))); exact BK470.out) hb); have n3_ := Aside0.mk (below_step (by repeat ((exact HB.out))) hb); clear BK461; clear BK470; clear HB; have HO473 := n0_; have BK461 := n1_; have BK470 := n2_; have HB := n3_; clear n0_ n1_ n2_ n3_; (try clear hb); (try clear hb2); (try clear hk); (try clear hi); (try clear ho0))); try go_wp2_with ((go_at_call 40; (with_reducible refine (jj13.calls kj30 _ _ l0 t471 _ ?side1 ?side2 A48.out).mono ?_); (case side1 => repeat ((exact (Kd.C_below HR0.out HB.out)))); (case side2 => exact HC0.out); rintro e w50 ⟨v472, rfl, ho0, hb⟩; have n0_ := Aside0.mk (Kd.R_lower ho0 (below_size (by repeat ((exact HB.out))))); have n1_ := Aside0.mk (blk_below (g := gb461) (o := .cells #[.int .i64 a2_0, .int .i64 a2_1] 24 (0, 0)) (by (with_reducible repeat ((refine blk_drew ?_))); exact BK461.out) hb); have n2_ := Aside0.mk (blk_below (g := gb470) (o := .cells #[.int .i64 t467, .int .i64 t468] 24 (0, 0)) (by (with_reducible repeat ((refine blk_drew ?_))); exact BK470.out) hb); have n3_ := Aside0.mk (below_step (by repeat ((exact HB.out))) hb); clear BK461; clear BK470; clear HB; have HO473 := n0_; have BK461 := n1_; have BK470 := n2_; have HB := n3_; clear n0_ n1_ n2_ n3_; (try clear hb); (try clear hb2); (try clear hk); (try clear hi); (try clear ho0))))
       go_loopg [13, 14, 15] kj30 (fun kq v13 v14 v15 w' => ∃ (x13_3 : Int) (x14_3 : Bool) (x15_3 : Int), v13 = .int .i64 x13_3 ∧ v14 = .bool x14_3 ∧ v15 = .int .i64 x15_3 ∧ Aside0 (jj34.l0 kq a1 t465 t471 t474 x13_3 x14_3 x15_3 a2_0 a2_1 t467 t468 = some r) ∧ Aside0 (kq ≤ kj30) ∧ Aside0 (Kd.R Kd.string 9 w' w.heap.size (fun _ => True) v472 t471) ∧ Aside0 (Kd.R Kd.bool 4 w' w.heap.size (fun _ => True) v475 t474) ∧ Aside0 (w'.heap[gb461]? = some (.cells #[.int .i64 a2_0, .int .i64 a2_1] 24 (0, 0))) ∧ Aside0 (w'.heap[gb470]? = some (.cells #[.int .i64 t467, .int .i64 t468] 24 (0, 0))) ∧ Aside0 (Below w.heap.size w w'))
       case atStart => exact ⟨(0), (true), (a2_0), (by (rfl)), (by (rfl)), (by (rfl)), H', ⟨Nat.le_refl _⟩, ⟨by (with_reducible repeat ((apply Kd.R_drew))); exact HO473.out⟩, ⟨by (with_reducible repeat ((apply Kd.R_drew))); exact HO476.out⟩, ⟨by (with_reducible repeat ((refine blk_drew ?_))); exact BK461.out⟩, ⟨by (with_reducible repeat ((refine blk_drew ?_))); exact BK470.out⟩, ⟨by repeat ((with_reducible (exact HB.out)))⟩⟩
       case round =>
        clear H'
        try clear c1
        try clear c2
        try clear p2
        try clear c3
        try clear c4
        try clear c5
        try clear c7
        try clear c8
        try clear c8b0
        try clear c8b1
        try clear c11
        try clear c12
        try clear c12b0
        try clear c16
        try clear c16b0
        try clear c26
        try clear c36
        try clear c38
        try clear c39
        try clear c39b0
        try clear c40
        try clear c42
        try clear c42b0
        try clear c43
        try clear c45
        try clear c47
        try clear c52
        try clear hcz15_0
        try clear hcz15_1
        try clear hcz19_0
        try clear hcz19_1
        try clear hcz22_0
        try clear hcz22_1
        try clear hcz33_0
        try clear hcz33_1
        try clear hcz37_0
        try clear hcz37_1
        try clear hcz41_0
        try clear hcz41_1
        try clear hcz44_0
        try clear hcz44_1
        try clear hcz46_0
        try clear hcz46_1
        try clear hcz53_0
        try clear hcz53_1
        try clear hfz15_0
        try clear hfz15_1
        try clear hfz19_0
        try clear hfz19_1
        try clear hfz22_0
        try clear hfz22_1
        try clear hfz33_0
        try clear hfz33_1
        try clear hfz37_0
        try clear hfz37_1
        try clear hfz41_0
        try clear hfz41_1
        try clear hfz44_0
        try clear hfz44_1
        try clear hfz46_0
        try clear hfz46_1
        try clear hfz53_0
        try clear hfz53_1
        try clear p2
        obtain ⟨x13_3, x14_3, x15_3, rfl, rfl, rfl, HA, HK3, HO_11, HO_12, BK461, BK470, HB⟩ := hrel
        cases gk with
        | zero => exact absurd HA.out (by simp [jj34.l0])
        | succ k3 =>
         have H := HA.out
         clear HA
         simp only [jj34.l0] at H
         by_cases c54 : x15_3 < a2_1
         ·rw [if_pos c54] at H
          have c54b0 : decide (x15_3 < a2_1) = true := decide_eq_true c54
          clear c54
          by_cases c55 : 0 ≤ x15_3
          ·rw [if_pos c55] at H
           have c55b0 : decide (0 ≤ x15_3) = true := decide_eq_true c55
           clear c55
           by_cases c56 : x15_3 < (t474.length : Int)
           ·rw [if_pos c56] at H
            have c56b0 : decide (x15_3 < (t474.length : Int)) = true := decide_eq_true c56
            clear c56
            obtain ⟨bq57, hbq57⟩ : ∃ b_ : Bool, b_ = (rdOf false t474 x15_3) := ⟨_, rfl⟩
            replace H : (if bq57 = true then (if x14_3 = true then (jj34.l0 k3 a1 t465 t471 t474 x13_3 false (wrap64 (x15_3 + 1)) a2_0 a2_1 t467 t468) else (jj34.l0 k3 a1 t465 t471 t474 x13_3 false (wrap64 (x15_3 + 1)) a2_0 a2_1 t467 t468)) else (if x14_3 = true then (if x15_3 = a2_0 then (jj34.l0 k3 a1 t465 t471 t474 (wrap64 (x13_3 + 1)) true (wrap64 (x15_3 + 1)) a2_0 a2_1 t467 t468) else (if x15_3 < (t471.length : Int) then (jj34.l0 k3 a1 t465 t471 t474 (wrap64 (x13_3 + 1)) ((rdOf ByteArray.empty t471 x15_3).toList == ([] : List UInt8)) (wrap64 (x15_3 + 1)) a2_0 a2_1 t467 t468) else (none))) else (jj34.l0 k3 a1 t465 t471 t474 (wrap64 (x13_3 + 1)) false (wrap64 (x15_3 + 1)) a2_0 a2_1 t467 t468))) = some r := by rw [← hbq57] at H; exact H
            have Nbq57 := Aside0.mk hbq57
            clear hbq57
            by_cases c58 : bq57 = true
            ·subst c58
             have H1 : (if x14_3 = true then (jj34.l0 k3 a1 t465 t471 t474 x13_3 false (wrap64 (x15_3 + 1)) a2_0 a2_1 t467 t468) else (jj34.l0 k3 a1 t465 t471 t474 x13_3 false (wrap64 (x15_3 + 1)) a2_0 a2_1 t467 t468)) = some r := by rw [if_pos rfl] at H; exact H
             clear H
             have H := H1
             clear H1
             by_cases c59 : x14_3 = true
             ·subst c59
              have H1 : (jj34.l0 k3 a1 t465 t471 t474 x13_3 false (wrap64 (x15_3 + 1)) a2_0 a2_1 t467 t468) = some r := by rw [if_pos rfl] at H; exact H
              clear H
              have H := H1
              clear H1
              have H' := Aside0.mk H
              clear H
              have hnb60 := NB461_470.out
              have hnc60 := NB470_461.out
              have hcz61_0 : wr.cell? ⟨gb461, 0, none⟩ = some (.int .i64 a2_0) := (blk_cell BK461.out 0).trans rfl
              have hcz61_1 : wr.cell? ⟨gb461, 1, none⟩ = some (.int .i64 a2_1) := (blk_cell BK461.out 1).trans rfl
              have hfz61_0 := blk_frozen BK461.out 0
              have hfz61_1 := blk_frozen BK461.out 1
              obtain ⟨Ao62, co62, eo62⟩ := Kd.R_slice HO_12.out
              subst eo62
              have p477 : 0 ≤ (x15_3 : Int) := of_decide_eq_true (by (with_reducible assumption))
              have q477 : x15_3 < (t474.length : Int) := of_decide_eq_true (by (with_reducible assumption))
              obtain ⟨ad477, e477, hx477_0⟩ := Kd.at_bool (Kd.R_reads' HO_12.out).2.2 x15_3 p477 q477
              (try rw [← Nbq57.out] at hx477_0)
              cases e477
              replace p477 := eq_true p477
              replace q477 := eq_true q477
              have p478 : 0 ≤ (x15_3 : Int) := of_decide_eq_true (by (with_reducible assumption))
              have q478 : x15_3 < (t474.length : Int) := of_decide_eq_true (by (with_reducible assumption))
              obtain ⟨ad478, e478, hx478_0⟩ := Kd.at_bool (Kd.R_reads' HO_12.out).2.2 x15_3 p478 q478
              (try rw [← Nbq57.out] at hx478_0)
              obtain rfl : ad477 = ad478 := (by injection e478)
              replace p478 := eq_true p478
              replace q478 := eq_true q478
              go_wp2
              repeat (go_quiet (fail); try go_wp2)
              go_roundg k3
              case measure => have := HJ3.out; have := HJ30.out; have := HK3.out; omega
              case rel => exact ⟨(x13_3), (false), (wrap64 (x15_3 + 1)), (by (rfl)), (by (rfl)), (by (rfl)), H', ⟨by have := HJ3.out; have := HJ30.out; have := HK3.out; omega⟩, ⟨by (with_reducible repeat ((apply Kd.R_drew))); exact HO_11.out⟩, ⟨by (with_reducible repeat ((apply Kd.R_drew))); exact HO_12.out⟩, ⟨by (with_reducible repeat ((refine blk_drew ?_))); exact BK461.out⟩, ⟨by (with_reducible repeat ((refine blk_drew ?_))); exact BK470.out⟩, ⟨by repeat ((with_reducible (exact HB.out)))⟩⟩
             ·replace c59 := Bool.eq_false_iff.mpr c59
              subst c59
              have H1 : (jj34.l0 k3 a1 t465 t471 t474 x13_3 false (wrap64 (x15_3 + 1)) a2_0 a2_1 t467 t468) = some r := by rw [if_neg (show ¬ (false = true) by decide)] at H; exact H
              clear H
              have H := H1
              clear H1
              have H' := Aside0.mk H
              clear H
              have hnb63 := NB461_470.out
              have hnc63 := NB470_461.out
              have hcz64_0 : wr.cell? ⟨gb461, 0, none⟩ = some (.int .i64 a2_0) := (blk_cell BK461.out 0).trans rfl
              have hcz64_1 : wr.cell? ⟨gb461, 1, none⟩ = some (.int .i64 a2_1) := (blk_cell BK461.out 1).trans rfl
              have hfz64_0 := blk_frozen BK461.out 0
              have hfz64_1 := blk_frozen BK461.out 1
              obtain ⟨Ao65, co65, eo65⟩ := Kd.R_slice HO_12.out
              subst eo65
              have p477 : 0 ≤ (x15_3 : Int) := of_decide_eq_true (by (with_reducible assumption))
              have q477 : x15_3 < (t474.length : Int) := of_decide_eq_true (by (with_reducible assumption))
              obtain ⟨ad477, e477, hx477_0⟩ := Kd.at_bool (Kd.R_reads' HO_12.out).2.2 x15_3 p477 q477
              (try rw [← Nbq57.out] at hx477_0)
              cases e477
              replace p477 := eq_true p477
              replace q477 := eq_true q477
              go_wp2
              repeat (go_quiet (fail); try go_wp2)
              go_roundg k3
              case measure => have := HJ3.out; have := HJ30.out; have := HK3.out; omega
              case rel => exact ⟨(x13_3), (false), (wrap64 (x15_3 + 1)), (by (rfl)), (by (rfl)), (by (rfl)), H', ⟨by have := HJ3.out; have := HJ30.out; have := HK3.out; omega⟩, ⟨by (with_reducible repeat ((apply Kd.R_drew))); exact HO_11.out⟩, ⟨by (with_reducible repeat ((apply Kd.R_drew))); exact HO_12.out⟩, ⟨by (with_reducible repeat ((refine blk_drew ?_))); exact BK461.out⟩, ⟨by (with_reducible repeat ((refine blk_drew ?_))); exact BK470.out⟩, ⟨by repeat ((with_reducible (exact HB.out)))⟩⟩
            ·replace c58 := Bool.eq_false_iff.mpr c58
             subst c58
             have H1 : (if x14_3 = true then (if x15_3 = a2_0 then (jj34.l0 k3 a1 t465 t471 t474 (wrap64 (x13_3 + 1)) true (wrap64 (x15_3 + 1)) a2_0 a2_1 t467 t468) else (if x15_3 < (t471.length : Int) then (jj34.l0 k3 a1 t465 t471 t474 (wrap64 (x13_3 + 1)) ((rdOf ByteArray.empty t471 x15_3).toList == ([] : List UInt8)) (wrap64 (x15_3 + 1)) a2_0 a2_1 t467 t468) else (none))) else (jj34.l0 k3 a1 t465 t471 t474 (wrap64 (x13_3 + 1)) false (wrap64 (x15_3 + 1)) a2_0 a2_1 t467 t468)) = some r := by rw [if_neg (show ¬ (false = true) by decide)] at H; exact H
             clear H
             have H := H1
             clear H1
             by_cases c66 : x14_3 = true
             ·subst c66
              have H1 : (if x15_3 = a2_0 then (jj34.l0 k3 a1 t465 t471 t474 (wrap64 (x13_3 + 1)) true (wrap64 (x15_3 + 1)) a2_0 a2_1 t467 t468) else (if x15_3 < (t471.length : Int) then (jj34.l0 k3 a1 t465 t471 t474 (wrap64 (x13_3 + 1)) ((rdOf ByteArray.empty t471 x15_3).toList == ([] : List UInt8)) (wrap64 (x15_3 + 1)) a2_0 a2_1 t467 t468) else (none))) = some r := by rw [if_pos rfl] at H; exact H
              clear H
              have H := H1
              clear H1
              by_cases c67 : x15_3 = a2_0
              ·rw [if_pos c67] at H
               have c67b0 : (x15_3 == a2_0) = true := beq_iff_eq.mpr c67
               have c67b1 : (x15_3 != a2_0) = false := bne_eq_false_iff_eq.mpr c67
               clear c67
               have H' := Aside0.mk H
               clear H
               have hnb68 := NB461_470.out
               have hnc68 := NB470_461.out
               have hcz69_0 : wr.cell? ⟨gb461, 0, none⟩ = some (.int .i64 a2_0) := (blk_cell BK461.out 0).trans rfl
               have hcz69_1 : wr.cell? ⟨gb461, 1, none⟩ = some (.int .i64 a2_1) := (blk_cell BK461.out 1).trans rfl
               have hfz69_0 := blk_frozen BK461.out 0
               have hfz69_1 := blk_frozen BK461.out 1
               obtain ⟨Ao70, co70, eo70⟩ := Kd.R_slice HO_12.out
               subst eo70
               have p477 : 0 ≤ (x15_3 : Int) := of_decide_eq_true (by (with_reducible assumption))
               have q477 : x15_3 < (t474.length : Int) := of_decide_eq_true (by (with_reducible assumption))
               obtain ⟨ad477, e477, hx477_0⟩ := Kd.at_bool (Kd.R_reads' HO_12.out).2.2 x15_3 p477 q477
               (try rw [← Nbq57.out] at hx477_0)
               cases e477
               replace p477 := eq_true p477
               replace q477 := eq_true q477
               have p479 : 0 ≤ (x15_3 : Int) := of_decide_eq_true (by (with_reducible assumption))
               have q479 : x15_3 < (t474.length : Int) := of_decide_eq_true (by (with_reducible assumption))
               obtain ⟨ad479, e479, hx479_0⟩ := Kd.at_bool (Kd.R_reads' HO_12.out).2.2 x15_3 p479 q479
               (try rw [← Nbq57.out] at hx479_0)
               obtain rfl : ad477 = ad479 := (by injection e479)
               replace p479 := eq_true p479
               replace q479 := eq_true q479
               go_wp2
               repeat (go_quiet (fail); try go_wp2)
               go_roundg k3
               case measure => have := HJ3.out; have := HJ30.out; have := HK3.out; omega
               case rel => exact ⟨(wrap64 (x13_3 + 1)), (true), (wrap64 (x15_3 + 1)), (by (rfl)), (by (rfl)), (by (rfl)), H', ⟨by have := HJ3.out; have := HJ30.out; have := HK3.out; omega⟩, ⟨by (with_reducible repeat ((apply Kd.R_drew))); exact HO_11.out⟩, ⟨by (with_reducible repeat ((apply Kd.R_drew))); exact HO_12.out⟩, ⟨by (with_reducible repeat ((refine blk_drew ?_))); exact BK461.out⟩, ⟨by (with_reducible repeat ((refine blk_drew ?_))); exact BK470.out⟩, ⟨by repeat ((with_reducible (exact HB.out)))⟩⟩
              ·rw [if_neg c67] at H
               have c67b0 : (x15_3 == a2_0) = false := beq_eq_false_iff_ne.mpr c67
               have c67b1 : (x15_3 != a2_0) = true := bne_iff_ne.mpr c67
               by_cases c71 : x15_3 < (t471.length : Int)
               ·rw [if_pos c71] at H
                have c71b0 : decide (x15_3 < (t471.length : Int)) = true := decide_eq_true c71
                clear c71
                have H' := Aside0.mk H
                clear H
                have hnb72 := NB461_470.out
                have hnc72 := NB470_461.out
                have hcz73_0 : wr.cell? ⟨gb461, 0, none⟩ = some (.int .i64 a2_0) := (blk_cell BK461.out 0).trans rfl
                have hcz73_1 : wr.cell? ⟨gb461, 1, none⟩ = some (.int .i64 a2_1) := (blk_cell BK461.out 1).trans rfl
                have hfz73_0 := blk_frozen BK461.out 0
                have hfz73_1 := blk_frozen BK461.out 1
                obtain ⟨Ao74, co74, eo74⟩ := Kd.R_slice HO_12.out
                subst eo74
                have p477 : 0 ≤ (x15_3 : Int) := of_decide_eq_true (by (with_reducible assumption))
                have q477 : x15_3 < (t474.length : Int) := of_decide_eq_true (by (with_reducible assumption))
                obtain ⟨ad477, e477, hx477_0⟩ := Kd.at_bool (Kd.R_reads' HO_12.out).2.2 x15_3 p477 q477
                (try rw [← Nbq57.out] at hx477_0)
                cases e477
                replace p477 := eq_true p477
                replace q477 := eq_true q477
                have p479 : 0 ≤ (x15_3 : Int) := of_decide_eq_true (by (with_reducible assumption))
                have q479 : x15_3 < (t474.length : Int) := of_decide_eq_true (by (with_reducible assumption))
                obtain ⟨ad479, e479, hx479_0⟩ := Kd.at_bool (Kd.R_reads' HO_12.out).2.2 x15_3 p479 q479
                (try rw [← Nbq57.out] at hx479_0)
                obtain rfl : ad477 = ad479 := (by injection e479)
                replace p479 := eq_true p479
                replace q479 := eq_true q479
                obtain ⟨Ao75, co75, eo75⟩ := Kd.R_slice HO_11.out
                subst eo75
                have p480 : 0 ≤ (x15_3 : Int) := of_decide_eq_true (by (with_reducible assumption))
                have q480 : x15_3 < (t471.length : Int) := of_decide_eq_true (by (with_reducible assumption))
                obtain ⟨ad480, e480, hx480_0⟩ := Kd.at_string (Kd.R_reads' HO_11.out).2.2 x15_3 p480 q480
                cases e480
                replace p480 := eq_true p480
                replace q480 := eq_true q480
                go_wp2
                repeat (go_quiet (fail); try go_wp2)
                go_roundg k3
                case measure => have := HJ3.out; have := HJ30.out; have := HK3.out; omega
                case rel => exact ⟨(wrap64 (x13_3 + 1)), (((rdOf ByteArray.empty t471 x15_3).toList == ([] : List UInt8))), (wrap64 (x15_3 + 1)), (by (rfl)), (by (simp; done)), (by (rfl)), H', ⟨by have := HJ3.out; have := HJ30.out; have := HK3.out; omega⟩, ⟨by (with_reducible repeat ((apply Kd.R_drew))); exact HO_11.out⟩, ⟨by (with_reducible repeat ((apply Kd.R_drew))); exact HO_12.out⟩, ⟨by (with_reducible repeat ((refine blk_drew ?_))); exact BK461.out⟩, ⟨by (with_reducible repeat ((refine blk_drew ?_))); exact BK470.out⟩, ⟨by repeat ((with_reducible (exact HB.out)))⟩⟩
               ·rw [if_neg c71] at H
                exact absurd H (by simp)
             ·replace c66 := Bool.eq_false_iff.mpr c66
              subst c66
              have H1 : (jj34.l0 k3 a1 t465 t471 t474 (wrap64 (x13_3 + 1)) false (wrap64 (x15_3 + 1)) a2_0 a2_1 t467 t468) = some r := by rw [if_neg (show ¬ (false = true) by decide)] at H; exact H
              clear H
              have H := H1
              clear H1
              have H' := Aside0.mk H
              clear H
              have hnb76 := NB461_470.out
              have hnc76 := NB470_461.out
              have hcz77_0 : wr.cell? ⟨gb461, 0, none⟩ = some (.int .i64 a2_0) := (blk_cell BK461.out 0).trans rfl
              have hcz77_1 : wr.cell? ⟨gb461, 1, none⟩ = some (.int .i64 a2_1) := (blk_cell BK461.out 1).trans rfl
              have hfz77_0 := blk_frozen BK461.out 0
              have hfz77_1 := blk_frozen BK461.out 1
              obtain ⟨Ao78, co78, eo78⟩ := Kd.R_slice HO_12.out
              subst eo78
              have p477 : 0 ≤ (x15_3 : Int) := of_decide_eq_true (by (with_reducible assumption))
              have q477 : x15_3 < (t474.length : Int) := of_decide_eq_true (by (with_reducible assumption))
              obtain ⟨ad477, e477, hx477_0⟩ := Kd.at_bool (Kd.R_reads' HO_12.out).2.2 x15_3 p477 q477
              (try rw [← Nbq57.out] at hx477_0)
              cases e477
              replace p477 := eq_true p477
              replace q477 := eq_true q477
              go_wp2
              repeat (go_quiet (fail); try go_wp2)
              go_roundg k3
              case measure => have := HJ3.out; have := HJ30.out; have := HK3.out; omega
              case rel => exact ⟨(wrap64 (x13_3 + 1)), (false), (wrap64 (x15_3 + 1)), (by (rfl)), (by (rfl)), (by (rfl)), H', ⟨by have := HJ3.out; have := HJ30.out; have := HK3.out; omega⟩, ⟨by (with_reducible repeat ((apply Kd.R_drew))); exact HO_11.out⟩, ⟨by (with_reducible repeat ((apply Kd.R_drew))); exact HO_12.out⟩, ⟨by (with_reducible repeat ((refine blk_drew ?_))); exact BK461.out⟩, ⟨by (with_reducible repeat ((refine blk_drew ?_))); exact BK470.out⟩, ⟨by repeat ((with_reducible (exact HB.out)))⟩⟩
           ·rw [if_neg c56] at H
            exact absurd H (by simp)
          ·rw [if_neg c55] at H
           exact absurd H (by simp)
         ·rw [if_neg c54] at H
          have c54b0 : decide (x15_3 < a2_1) = false := decide_eq_false c54
          clear c54
          by_cases c79 : x13_3 = 0
          ·rw [if_pos c79] at H
           have c79b0 : (x13_3 == 0) = true := beq_iff_eq.mpr c79
           have c79b1 : (x13_3 != 0) = false := bne_eq_false_iff_eq.mpr c79
           clear c79
           by_cases c80 : t467 = t468
           ·rw [if_pos c80] at H
            have c80b0 : (t467 == t468) = true := beq_iff_eq.mpr c80
            have c80b1 : (t467 != t468) = false := bne_eq_false_iff_eq.mpr c80
            clear c80
            replace H := Option.bind_eq_some_iff.mp H
            obtain ⟨t481, A810, H⟩ := H
            replace H : (some t481) = some r := H
            have A81 := Aside0.mk A810
            clear A810
            obtain rfl := Option.some.inj H
            have hnb82 := NB461_470.out
            have hnc82 := NB470_461.out
            have hcz83_0 : wr.cell? ⟨gb461, 0, none⟩ = some (.int .i64 a2_0) := (blk_cell BK461.out 0).trans rfl
            have hcz83_1 : wr.cell? ⟨gb461, 1, none⟩ = some (.int .i64 a2_1) := (blk_cell BK461.out 1).trans rfl
            have hfz83_0 := blk_frozen BK461.out 0
            have hfz83_1 := blk_frozen BK461.out 1
            have hcz84_0 : wr.cell? ⟨gb470, 0, none⟩ = some (.int .i64 t467) := (blk_cell BK470.out 0).trans rfl
            have hcz84_1 : wr.cell? ⟨gb470, 1, none⟩ = some (.int .i64 t468) := (blk_cell BK470.out 1).trans rfl
            have hfz84_0 := blk_frozen BK470.out 0
            have hfz84_1 := blk_frozen BK470.out 1
            go_wp2_with (first | (go_at_call 13; (with_reducible refine (jj38.calls  t481 _ A81.out).mono ?_); rintro e w85 ⟨rfl, hb⟩; have n0_ := Aside0.mk (Kd.R_below (by (with_reducible repeat ((apply Kd.R_drew))); exact HO_11.out) hb); have n1_ := Aside0.mk (Kd.R_below (by (with_reducible repeat ((apply Kd.R_drew))); exact HO_12.out) hb); have n2_ := Aside0.mk (blk_below (g := gb461) (o := .cells #[.int .i64 a2_0, .int .i64 a2_1] 24 (0, 0)) (by (with_reducible repeat ((refine blk_drew ?_))); exact BK461.out) hb); have n3_ := Aside0.mk (blk_below (g := gb470) (o := .cells #[.int .i64 t467, .int .i64 t468] 24 (0, 0)) (by (with_reducible repeat ((refine blk_drew ?_))); exact BK470.out) hb); have n4_ := Aside0.mk (below_step (by repeat ((with_reducible (exact HB.out)))) hb); clear HO_11; clear HO_12; clear BK461; clear BK470; clear HB; have HO_11 := n0_; have HO_12 := n1_; have BK461 := n2_; have BK470 := n3_; have HB := n4_; clear n0_ n1_ n2_ n3_ n4_; (try clear hb); (try clear hb2); (try clear hk); (try clear hi)))
            repeat (go_quiet (first | (go_at_call 13; (with_reducible refine (jj38.calls  t481 _ A81.out).mono ?_); rintro e w85 ⟨rfl, hb⟩; have n0_ := Aside0.mk (Kd.R_below (by (with_reducible repeat ((apply Kd.R_drew))); exact HO_11.out) hb); have n1_ := Aside0.mk (Kd.R_below (by (with_reducible repeat ((apply Kd.R_drew))); exact HO_12.out) hb); have n2_ := Aside0.mk (blk_below (g := gb461) (o := .cells #[.int .i64 a2_0, .int .i64 a2_1] 24 (0, 0)) (by (with_reducible repeat ((refine blk_drew ?_))); exact BK461.out) hb); have n3_ := Aside0.mk (blk_below (g := gb470) (o := .cells #[.int .i64 t467, .int .i64 t468] 24 (0, 0)) (by (with_reducible repeat ((refine blk_drew ?_))); exact BK470.out) hb); have n4_ := Aside0.mk (below_step (by repeat ((exact HB.out))) hb); clear HO_11; clear HO_12; clear BK461; clear BK470; clear HB; have HO_11 := n0_; have HO_12 := n1_; have BK461 := n2_; have BK470 := n3_; have HB := n4_; clear n0_ n1_ n2_ n3_ n4_; (try clear hb); (try clear hb2); (try clear hk); (try clear hi))); try go_wp2_with (first | (go_at_call 13; (with_reducible refine (jj38.calls  t481 _ A81.out).mono ?_); rintro e w85 ⟨rfl, hb⟩; have n0_ := Aside0.mk (Kd.R_below (by (with_reducible repeat ((apply Kd.R_drew))); exact HO_11.out) hb); have n1_ := Aside0.mk (Kd.R_below (by (with_reducible repeat ((apply Kd.R_drew))); exact HO_12.out) hb); have n2_ := Aside0.mk (blk_below (g := gb461) (o := .cells #[.int .i64 a2_0, .int .i64 a2_1] 24 (0, 0)) (by (with_reducible repeat ((refine blk_drew ?_))); exact BK461.out) hb); have n3_ := Aside0.mk (blk_below (g := gb470) (o := .cells #[.int .i64 t467, .int .i64 t468] 24 (0, 0)) (by (with_reducible repeat ((refine blk_drew ?_))); exact BK470.out) hb); have n4_ := Aside0.mk (below_step (by repeat ((exact HB.out))) hb); clear HO_11; clear HO_12; clear BK461; clear BK470; clear HB; have HO_11 := n0_; have HO_12 := n1_; have BK461 := n2_; have BK470 := n3_; have HB := n4_; clear n0_ n1_ n2_ n3_ n4_; (try clear hb); (try clear hb2); (try clear hk); (try clear hi))))
            go_ret
            exact ⟨by (rfl), by repeat ((with_reducible (exact HB.out)))⟩
           ·rw [if_neg c80] at H
            have c80b0 : (t467 == t468) = false := beq_eq_false_iff_ne.mpr c80
            have c80b1 : (t467 != t468) = true := bne_iff_ne.mpr c80
            exact absurd (Option.some.inj (show some false = some r from H)) (by rw [HR1_.out]; decide)
          ·rw [if_neg c79] at H
           have c79b0 : (x13_3 == 0) = false := beq_eq_false_iff_ne.mpr c79
           have c79b1 : (x13_3 != 0) = true := bne_iff_ne.mpr c79
           by_cases c89 : x14_3 = true
           ·subst c89
            have H1 : (if 0 ≤ t467 then (if t467 ≤ t468 then (if t468 ≤ (t465.size : Int) then (if 0 ≤ a2_0 then (if a2_0 ≤ a2_1 then (if a2_1 ≤ (a1.size : Int) then (if (t465.extract (t467 : Int).toNat (t468 : Int).toNat).toList = (a1.extract (a2_0 : Int).toNat (a2_1 : Int).toNat).toList then (if (wrap64 (t468 - t467)) ≥ x13_3 then ((jj38.f).bind fun t482 => (some t482)) else (some false)) else (some false)) else (none)) else (none)) else (none)) else (none)) else (none)) else (none)) = some r := by rw [if_pos rfl] at H; exact H
            clear H
            have H := H1
            clear H1
            by_cases c90 : 0 ≤ t467
            ·rw [if_pos c90] at H
             have c90b0 := eq_true c90
             have c90b1 : decide (0 ≤ t467) = true := decide_eq_true c90
             clear c90
             by_cases c91 : t467 ≤ t468
             ·rw [if_pos c91] at H
              have c91b0 := eq_true c91
              have c91b1 : decide (t467 ≤ t468) = true := decide_eq_true c91
              clear c91
              by_cases c92 : t468 ≤ (t465.size : Int)
              ·rw [if_pos c92] at H
               have c92b0 := eq_true c92
               have c92b1 : decide (t468 ≤ (t465.size : Int)) = true := decide_eq_true c92
               clear c92
               by_cases c93 : 0 ≤ a2_0
               ·rw [if_pos c93] at H
                have c93b0 := eq_true c93
                have c93b1 : decide (0 ≤ a2_0) = true := decide_eq_true c93
                clear c93
                by_cases c94 : a2_0 ≤ a2_1
                ·rw [if_pos c94] at H
                 have c94b0 := eq_true c94
                 have c94b1 : decide (a2_0 ≤ a2_1) = true := decide_eq_true c94
                 clear c94
                 by_cases c95 : a2_1 ≤ (a1.size : Int)
                 ·rw [if_pos c95] at H
                  have c95b0 := eq_true c95
                  have c95b1 : decide (a2_1 ≤ (a1.size : Int)) = true := decide_eq_true c95
                  clear c95
                  by_cases c96 : (t465.extract (t467 : Int).toNat (t468 : Int).toNat).toList = (a1.extract (a2_0 : Int).toNat (a2_1 : Int).toNat).toList
                  ·rw [if_pos c96] at H
                   have c96b0 : ((t465.extract (t467 : Int).toNat (t468 : Int).toNat).toList == (a1.extract (a2_0 : Int).toNat (a2_1 : Int).toNat).toList) = true := beq_iff_eq.mpr c96
                   have c96b1 : ((t465.extract (t467 : Int).toNat (t468 : Int).toNat).toList != (a1.extract (a2_0 : Int).toNat (a2_1 : Int).toNat).toList) = false := bne_eq_false_iff_eq.mpr c96
                   clear c96
                   by_cases c97 : (wrap64 (t468 - t467)) ≥ x13_3
                   ·rw [if_pos c97] at H
                    have c97b0 : decide (x13_3 ≤ (wrap64 (t468 - t467))) = true := decide_eq_true c97
                    clear c97
                    replace H := Option.bind_eq_some_iff.mp H
                    obtain ⟨t482, A980, H⟩ := H
                    replace H : (some t482) = some r := H
                    have A98 := Aside0.mk A980
                    clear A980
                    obtain rfl := Option.some.inj H
                    have hnb99 := NB461_470.out
                    have hnc99 := NB470_461.out
                    have hcz100_0 : wr.cell? ⟨gb461, 0, none⟩ = some (.int .i64 a2_0) := (blk_cell BK461.out 0).trans rfl
                    have hcz100_1 : wr.cell? ⟨gb461, 1, none⟩ = some (.int .i64 a2_1) := (blk_cell BK461.out 1).trans rfl
                    have hfz100_0 := blk_frozen BK461.out 0
                    have hfz100_1 := blk_frozen BK461.out 1
                    have hcz101_0 : wr.cell? ⟨gb470, 0, none⟩ = some (.int .i64 t467) := (blk_cell BK470.out 0).trans rfl
                    have hcz101_1 : wr.cell? ⟨gb470, 1, none⟩ = some (.int .i64 t468) := (blk_cell BK470.out 1).trans rfl
                    have hfz101_0 := blk_frozen BK470.out 0
                    have hfz101_1 := blk_frozen BK470.out 1
                    go_wp2_with (first | (go_at_call 13; (with_reducible refine (jj38.calls  t482 _ A98.out).mono ?_); rintro e w102 ⟨rfl, hb⟩; have n0_ := Aside0.mk (Kd.R_below (by (with_reducible repeat ((apply Kd.R_drew))); exact HO_11.out) hb); have n1_ := Aside0.mk (Kd.R_below (by (with_reducible repeat ((apply Kd.R_drew))); exact HO_12.out) hb); have n2_ := Aside0.mk (blk_below (g := gb461) (o := .cells #[.int .i64 a2_0, .int .i64 a2_1] 24 (0, 0)) (by (with_reducible repeat ((refine blk_drew ?_))); exact BK461.out) hb); have n3_ := Aside0.mk (blk_below (g := gb470) (o := .cells #[.int .i64 t467, .int .i64 t468] 24 (0, 0)) (by (with_reducible repeat ((refine blk_drew ?_))); exact BK470.out) hb); have n4_ := Aside0.mk (below_step (by repeat ((exact HB.out))) hb); clear HO_11; clear HO_12; clear BK461; clear BK470; clear HB; have HO_11 := n0_; have HO_12 := n1_; have BK461 := n2_; have BK470 := n3_; have HB := n4_; clear n0_ n1_ n2_ n3_ n4_; (try clear hb); (try clear hb2); (try clear hk); (try clear hi)))
                    repeat (go_quiet (first | (go_at_call 13; (with_reducible refine (jj38.calls  t482 _ A98.out).mono ?_); rintro e w102 ⟨rfl, hb⟩; have n0_ := Aside0.mk (Kd.R_below (by (with_reducible repeat ((apply Kd.R_drew))); exact HO_11.out) hb); have n1_ := Aside0.mk (Kd.R_below (by (with_reducible repeat ((apply Kd.R_drew))); exact HO_12.out) hb); have n2_ := Aside0.mk (blk_below (g := gb461) (o := .cells #[.int .i64 a2_0, .int .i64 a2_1] 24 (0, 0)) (by (with_reducible repeat ((refine blk_drew ?_))); exact BK461.out) hb); have n3_ := Aside0.mk (blk_below (g := gb470) (o := .cells #[.int .i64 t467, .int .i64 t468] 24 (0, 0)) (by (with_reducible repeat ((refine blk_drew ?_))); exact BK470.out) hb); have n4_ := Aside0.mk (below_step (by repeat ((exact HB.out))) hb); clear HO_11; clear HO_12; clear BK461; clear BK470; clear HB; have HO_11 := n0_; have HO_12 := n1_; have BK461 := n2_; have BK470 := n3_; have HB := n4_; clear n0_ n1_ n2_ n3_ n4_; (try clear hb); (try clear hb2); (try clear hk); (try clear hi))); try go_wp2_with (first | (go_at_call 13; (with_reducible refine (jj38.calls  t482 _ A98.out).mono ?_); rintro e w102 ⟨rfl, hb⟩; have n0_ := Aside0.mk (Kd.R_below (by (with_reducible repeat ((apply Kd.R_drewN))); exact HO_11.out) hb); have n1_ := Aside0.mk (Kd.R_below (by (with_reducible repeat ((apply Kd.R_drewN))); exact HO_12.out) hb); have n2_ := Aside0.mk (blk_below (g := gb461) (o := .cells #[.int .i64 a2_0, .int .i64 a2_1] 24 (0, 0)) (by (with_reducible repeat ((refine blk_drewN ?_ _))); exact BK461.out) hb); have n3_ := Aside0.mk (blk_below (g := gb470) (o := .cells #[.int .i64 t467, .int .i64 t468] 24 (0, 0)) (by (with_reducible repeat ((refine blk_drewN ?_ _))); exact BK470.out) hb); have n4_ := Aside0.mk (below_step (by repeat ((with_reducible first | exact HB.out | apply pw_below_drewN))) hb); clear HO_11; clear HO_12; clear BK461; clear BK470; clear HB; have HO_11 := n0_; have HO_12 := n1_; have BK461 := n2_; have BK470 := n3_; have HB := n4_; clear n0_ n1_ n2_ n3_ n4_; (try clear hb); (try clear hb2); (try clear hk); (try clear hi))))
                    go_ret
                    exact ⟨by (rfl), by repeat ((with_reducible (exact HB.out)))⟩
                   ·rw [if_neg c97] at H
                    have c97b0 : decide (x13_3 ≤ (wrap64 (t468 - t467))) = false := decide_eq_false c97
                    clear c97
                    exact absurd (Option.some.inj (show some false = some r from H)) (by rw [HR1_.out]; decide)
                  ·rw [if_neg c96] at H
                   have c96b0 : ((t465.extract (t467 : Int).toNat (t468 : Int).toNat).toList == (a1.extract (a2_0 : Int).toNat (a2_1 : Int).toNat).toList) = false := beq_eq_false_iff_ne.mpr c96
                   have c96b1 : ((t465.extract (t467 : Int).toNat (t468 : Int).toNat).toList != (a1.extract (a2_0 : Int).toNat (a2_1 : Int).toNat).toList) = true := bne_iff_ne.mpr c96
                   exact absurd (Option.some.inj (show some false = some r from H)) (by rw [HR1_.out]; decide)
                 ·rw [if_neg c95] at H
                  exact absurd H (by simp)
                ·rw [if_neg c94] at H
                 exact absurd H (by simp)
               ·rw [if_neg c93] at H
                exact absurd H (by simp)
              ·rw [if_neg c92] at H
               exact absurd H (by simp)
             ·rw [if_neg c91] at H
              exact absurd H (by simp)
            ·rw [if_neg c90] at H
             exact absurd H (by simp)
           ·replace c89 := Bool.eq_false_iff.mpr c89
            subst c89
            have H1 : (if (wrap64 (t468 - t467)) ≥ x13_3 then ((jj38.f).bind fun t483 => (some t483)) else (some false)) = some r := by rw [if_neg (show ¬ (false = true) by decide)] at H; exact H
            clear H
            have H := H1
            clear H1
            by_cases c109 : (wrap64 (t468 - t467)) ≥ x13_3
            ·rw [if_pos c109] at H
             have c109b0 : decide (x13_3 ≤ (wrap64 (t468 - t467))) = true := decide_eq_true c109
             clear c109
             replace H := Option.bind_eq_some_iff.mp H
             obtain ⟨t483, A1100, H⟩ := H
             replace H : (some t483) = some r := H
             have A110 := Aside0.mk A1100
             clear A1100
             obtain rfl := Option.some.inj H
             have hnb111 := NB461_470.out
             have hnc111 := NB470_461.out
             have hcz112_0 : wr.cell? ⟨gb461, 0, none⟩ = some (.int .i64 a2_0) := (blk_cell BK461.out 0).trans rfl
             have hcz112_1 : wr.cell? ⟨gb461, 1, none⟩ = some (.int .i64 a2_1) := (blk_cell BK461.out 1).trans rfl
             have hfz112_0 := blk_frozen BK461.out 0
             have hfz112_1 := blk_frozen BK461.out 1
             have hcz113_0 : wr.cell? ⟨gb470, 0, none⟩ = some (.int .i64 t467) := (blk_cell BK470.out 0).trans rfl
             have hcz113_1 : wr.cell? ⟨gb470, 1, none⟩ = some (.int .i64 t468) := (blk_cell BK470.out 1).trans rfl
             have hfz113_0 := blk_frozen BK470.out 0
             have hfz113_1 := blk_frozen BK470.out 1
             go_wp2_with (first | (go_at_call 13; (with_reducible refine (jj38.calls  t483 _ A110.out).mono ?_); rintro e w114 ⟨rfl, hb⟩; have n0_ := Aside0.mk (Kd.R_below (by (with_reducible repeat ((apply Kd.R_drew))); exact HO_11.out) hb); have n1_ := Aside0.mk (Kd.R_below (by (with_reducible repeat ((apply Kd.R_drew))); exact HO_12.out) hb); have n2_ := Aside0.mk (blk_below (g := gb461) (o := .cells #[.int .i64 a2_0, .int .i64 a2_1] 24 (0, 0)) (by (with_reducible repeat ((refine blk_drew ?_))); exact BK461.out) hb); have n3_ := Aside0.mk (blk_below (g := gb470) (o := .cells #[.int .i64 t467, .int .i64 t468] 24 (0, 0)) (by (with_reducible repeat ((refine blk_drew ?_))); exact BK470.out) hb); have n4_ := Aside0.mk (below_step (by repeat ((exact HB.out))) hb); clear HO_11; clear HO_12; clear BK461; clear BK470; clear HB; have HO_11 := n0_; have HO_12 := n1_; have BK461 := n2_; have BK470 := n3_; have HB := n4_; clear n0_ n1_ n2_ n3_ n4_; (try clear hb); (try clear hb2); (try clear hk); (try clear hi)))
             repeat (go_quiet (first | (go_at_call 13; (with_reducible refine (jj38.calls  t483 _ A110.out).mono ?_); rintro e w114 ⟨rfl, hb⟩; have n0_ := Aside0.mk (Kd.R_below (by (with_reducible repeat ((apply Kd.R_drew))); exact HO_11.out) hb); have n1_ := Aside0.mk (Kd.R_below (by (with_reducible repeat ((apply Kd.R_drew))); exact HO_12.out) hb); have n2_ := Aside0.mk (blk_below (g := gb461) (o := .cells #[.int .i64 a2_0, .int .i64 a2_1] 24 (0, 0)) (by (with_reducible repeat ((refine blk_drew ?_))); exact BK461.out) hb); have n3_ := Aside0.mk (blk_below (g := gb470) (o := .cells #[.int .i64 t467, .int .i64 t468] 24 (0, 0)) (by (with_reducible repeat ((refine blk_drew ?_))); exact BK470.out) hb); have n4_ := Aside0.mk (below_step (by repeat ((exact HB.out))) hb); clear HO_11; clear HO_12; clear BK461; clear BK470; clear HB; have HO_11 := n0_; have HO_12 := n1_; have BK461 := n2_; have BK470 := n3_; have HB := n4_; clear n0_ n1_ n2_ n3_ n4_; (try clear hb); (try clear hb2); (try clear hk); (try clear hi))); try go_wp2_with (first | (go_at_call 13; (with_reducible refine (jj38.calls  t483 _ A110.out).mono ?_); rintro e w114 ⟨rfl, hb⟩; have n0_ := Aside0.mk (Kd.R_below (by (with_reducible repeat ((apply Kd.R_drewN))); exact HO_11.out) hb); have n1_ := Aside0.mk (Kd.R_below (by (with_reducible repeat ((apply Kd.R_drewN))); exact HO_12.out) hb); have n2_ := Aside0.mk (blk_below (g := gb461) (o := .cells #[.int .i64 a2_0, .int .i64 a2_1] 24 (0, 0)) (by (with_reducible repeat ((refine blk_drewN ?_ _))); exact BK461.out) hb); have n3_ := Aside0.mk (blk_below (g := gb470) (o := .cells #[.int .i64 t467, .int .i64 t468] 24 (0, 0)) (by (with_reducible repeat ((refine blk_drewN ?_ _))); exact BK470.out) hb); have n4_ := Aside0.mk (below_step (by repeat ((with_reducible first | exact HB.out | apply pw_below_drewN))) hb); clear HO_11; clear HO_12; clear BK461; clear BK470; clear HB; have HO_11 := n0_; have HO_12 := n1_; have BK461 := n2_; have BK470 := n3_; have HB := n4_; clear n0_ n1_ n2_ n3_ n4_; (try clear hb); (try clear hb2); (try clear hk); (try clear hi))))
             go_ret
             exact ⟨by (rfl), by repeat ((with_reducible (exact HB.out)))⟩
            ·rw [if_neg c109] at H
             have c109b0 : decide (x13_3 ≤ (wrap64 (t468 - t467))) = false := decide_eq_false c109
             clear c109
             exact absurd (Option.some.inj (show some false = some r from H)) (by rw [HR1_.out]; decide)
end Go.Proofs.Ythocalfgeaclgaa.P
end
-- MERGED YthocalfgeaclgaaPlaceKeepsL
section

namespace Go.Proofs.Ythocalfgeaclgaa.PlaceKeepsL
open Go.RowKit Go.Proofs.Ythocalfgeaclgaa.P Go.Proofs.YthocalfgeaclgaaW.PrintWords Go.Proofs.YthocalfgeaclgaaW.PrintLast Go.Proofs.YthocalfgeaclgaaW.PrintMore Go.Proofs.Ythocalfgeaclgaa.EditL Go.Proofs.Ythocalfgeaclgaa.EditK Go.Proofs.Ythocalfgeaclgaa.EditF Go.Proofs.Ythocalfgeaclgaa.EditG Go.Proofs.Ythocalfgeaclgaa.EditH1 Go.Proofs.Ythocalfgeaclgaa.RunA Go.Proofs.Ythocalfgeaclgaa.PlaceI Go.Proofs.Ythocalfgeaclgaa.PlaceM Go.Proofs.Ythocalfgeaclgaa.PlaceS Go.Proofs.Ythocalfgeaclgaa.PlaceL Go.Proofs.Ythocalfgeaclgaa.PlaceF Go.Proofs.Ythocalfgeaclgaa.PlaceG
set_option linter.unusedSimpArgs false
set_option linter.unusedVariables false
def dr (op : List Rn) (i : Int) : Bool := rdOf false (dropsL op) i
def ad (op : List Rn) (i : Int) : ByteArray := rdOf ByteArray.empty (addsL op E) i
def st (op : List Rn) (a : Int) : Nat → Int × Int
 | 0 => (-1, -1)
 | n + 1 => if dr op (a + n) = true then st op a n else (if (st op a n).1 < 0 then P op (a + n) true else (st op a n).1, P op (a + n) true + 1)
def fin (op : List Rn) (a : Int) (v : Int × Int) : Int × Int × Bool := if v.1 < 0 then (P op a false, P op a false, true) else (v.1, v.2, true)
theorem span_st {op : List Rn} (h : Fit op) {a b : Int} (h0 : 0 ≤ a) (h1 : a ≤ b) (h2 : b ≤ inL op) : ∀ (m n k : Nat), a + n + m = b → 4001 + m ≤ k →
  jj16.l0 k op (dropsL op) (st op a n).1 (st op a n).2 (a + n) a b = some (fin op a (st op a (b - a).toNat)) := by
 obtain ⟨g1, g2, g3, g4⟩ := good_ok h.g
 have ld := dropsL_length op g4
 have hi := h.i
 have ho := h.o
 intro m
 induction m with
 | zero =>
  intro n k hn hk
  obtain ⟨k, rfl⟩ : ∃ m, k = m + 1 := ⟨k - 1, by omega⟩
  simp only [jj16.l0]
  rw [if_neg (by omega), show (b - a).toNat = n by omega]
  unfold fin
  by_cases c : (st op a n).1 < 0
  ·rw [if_pos c, if_pos c, h.move false k (by omega) h0 (by omega), Option.bind_some]
  ·rw [if_neg c, if_neg c]
 | succ m ih =>
  intro n k hn hk
  have := ih (n + 1)
  obtain ⟨k, rfl⟩ : ∃ m, k = m + 1 := ⟨k - 1, by omega⟩
  have hx := this k (by omega) (by omega)
  rw [show a + ((n + 1 : Nat) : Int) = a + n + 1 by omega] at hx
  have p0 := P_nonneg op g4 (a + n) true (by omega)
  have p1 := P_le_out op g4 (a + n) true (by omega)
  simp only [jj16.l0]
  rw [if_pos (by omega), if_pos (by omega), if_pos (by omega), w64 (x := a + n + 1) (by omega) (by omega)]
  by_cases c : rdOf false (dropsL op) (a + n) = true
  ·rw [if_pos c, ← hx]
   have e : st op a (n + 1) = st op a n := if_pos c
   rw [e]
  ·have e : st op a (n + 1) = (if (st op a n).1 < 0 then P op (a + n) true else (st op a n).1, P op (a + n) true + 1) := if_neg c
   rw [e] at hx
   rw [if_neg c, h.move true k (by omega) (by omega) (by omega), Option.bind_some]
   simp only []
   rw [w64 (x := P op (a + n) true + 1) (by omega) (by omega), ← hx]
   by_cases c2 : (st op a n).1 < 0
   ·rw [if_pos c2, if_pos c2]
   ·rw [if_neg c2, if_neg c2]
theorem spanL_st {op : List Rn} (h : Fit op) {a b : Int} (h0 : 0 ≤ a) (h1 : a ≤ b) (h2 : b ≤ inL op) : tri (spanL op a b) = fin op a (st op a (b - a).toNat) := by
 have hr := rspan_f h.l (fun _ => ⟨h.i, h.o⟩) a b (8000 + 1) (by decide)
 obtain ⟨g1, g2, g3, g4⟩ := good_ok h.g
 have hl := h.l
 have hi := h.i
 unfold jj16.f at hr
 rw [rgood_f (by omega), Option.bind_some, h.g, if_pos rfl, if_neg (by omega), if_neg (by omega), rin_f (by omega) _ (by omega), Option.bind_some, h.g, if_pos rfl, decide_eq_false (by omega)] at hr
 obtain ⟨m, hm⟩ : ∃ m, m = 8000 := ⟨_, rfl⟩
 rw [← hm] at hr
 simp only [jj16.j0] at hr
 rw [if_neg (by simp), drops_f hl h.g h.i _ (by omega), Option.bind_some] at hr
 have e := span_st h h0 h1 h2 (b - a).toNat 0 m (by omega) (by omega)
 rw [show a + ((0 : Nat) : Int) = a by omega] at e
 exact Option.some.inj (hr.symm.trans e)
theorem G_succ : ∀ (n : Nat) (A : List ByteArray) (D : List Bool), n + 1 < A.length → n < D.length → G A D (n + 1) true = G A D n true + (if D.getD n false = true then 0 else 1) + ((A.getD (n + 1) ByteArray.empty).size : Int) := by
 intro n
 induction n with
 | zero =>
  intro A D h1 h2
  obtain ⟨x, y, A, rfl⟩ : ∃ x y B, A = x :: y :: B := by
   match A, h1 with
   | x :: y :: B, _ => exact ⟨x, y, B, rfl⟩
  obtain ⟨d, D, rfl⟩ : ∃ d B, D = d :: B := by
   match D, h2 with
   | d :: B, _ => exact ⟨d, B, rfl⟩
  show (x.size : Int) + (if d then 0 else 1) + (y.size : Int) = (x.size : Int) + _ + _
  rfl
 | succ n ih =>
  intro A D h1 h2
  obtain ⟨x, A, rfl⟩ : ∃ x B, A = x :: B := by
   match A, h1 with
   | x :: B, _ => exact ⟨x, B, rfl⟩
  obtain ⟨d, D, rfl⟩ : ∃ d B, D = d :: B := by
   match D, h2 with
   | d :: B, _ => exact ⟨d, B, rfl⟩
  have := ih A D (by simpa using h1) (by simpa using h2)
  show (x.size : Int) + (if d then 0 else 1) + G A D (n + 1) true = ((x.size : Int) + (if d then 0 else 1) + G A D n true) + (if D.getD n false = true then 0 else 1) + ((A.getD (n + 1) ByteArray.empty).size : Int)
  rw [this]; omega
theorem P_succ {op : List Rn} (h : ∀ r ∈ op, knd r ≠ 0) {i : Int} (h0 : 0 ≤ i) (h1 : i + 1 ≤ inL op) : P op (i + 1) true = P op i true + (if dr op i = true then 0 else 1) + ((ad op (i + 1)).size : Int) := by
 have la := addsL_length op E h
 have ld := dropsL_length op h
 obtain ⟨n, rfl⟩ : ∃ n : Nat, i = (n : Int) := ⟨i.toNat, by omega⟩
 have e1 := G_P op E n true h (by omega)
 have e2 := G_P op E (n + 1) true h (by omega)
 have e3 := G_succ n (addsL op E) (dropsL op) (by omega) (by omega)
 rw [if_neg (fun h => by cases h.2), E_size] at e1 e2
 unfold dr ad rdOf
 rw [show ((n : Int) + 1) = ((n + 1 : Nat) : Int) by omega, Int.toNat_natCast, Int.toNat_natCast]
 omega
def kc (op : List Rn) (a : Int) : Nat → Int
 | 0 => 0
 | n + 1 => if dr op (a + n) = true then kc op a n else kc op a n + 1
def pl (op : List Rn) (a : Int) : Nat → Bool
 | 0 => true
 | n + 1 => if dr op (a + n) = true then false else if pl op a n = true then (if n = 0 then true else ((ad op (a + n)).toList == ([] : List UInt8))) else false
structure Inv (op : List Rn) (a : Int) (n : Nat) : Prop where
 c0 : 0 ≤ kc op a n
 c1 : kc op a n ≤ n
 none : kc op a n = 0 → (st op a n).1 = -1
 some : kc op a n ≠ 0 → 0 ≤ (st op a n).1 ∧ (st op a n).1 + kc op a n ≤ (st op a n).2 ∧ (st op a n).2 ≤ P op (a + n) true
 all : pl op a n = true → 0 < n → kc op a n = n ∧ (st op a n).1 = P op a true ∧ (st op a n).2 = P op a true + n ∧ ∀ m : Nat, m < n → dr op (a + m) = false ∧ P op (a + m) true = P op a true + m
theorem inv_ok {op : List Rn} (h : ∀ r ∈ op, knd r ≠ 0) {a : Int} (h0 : 0 ≤ a) : ∀ n : Nat, a + n ≤ inL op → Inv op a n := by
 intro n
 induction n with
 | zero => intro _; exact ⟨Int.le_refl _, Int.le_refl _, fun _ => rfl, fun e => absurd rfl e, fun _ e => absurd e (Nat.lt_irrefl _)⟩
 | succ n ih =>
  intro hn
  have i := ih (by omega)
  have hc0 := i.c0
  have hc1 := i.c1
  have hs := P_succ h (i := a + n) (by omega) (by omega)
  have hp := P_nonneg op h (a + n) true (by omega)
  rw [show a + (n : Int) + 1 = a + ((n + 1 : Nat) : Int) by omega] at hs
  by_cases c : dr op (a + n) = true
  ·have e1 : kc op a (n + 1) = kc op a n := if_pos c
   have e2 : pl op a (n + 1) = false := if_pos c
   have e3 : st op a (n + 1) = st op a n := if_pos c
   rw [if_pos c] at hs
   refine ⟨by omega, by omega, fun e => by rw [e3]; exact i.none (by omega), fun e => ?_, fun e => by rw [e2] at e; cases e⟩
   have := i.some (by omega)
   rw [e3, e1]; omega
  ·have e1 : kc op a (n + 1) = kc op a n + 1 := if_neg c
   have e2 : pl op a (n + 1) = if pl op a n = true then (if n = 0 then true else ((ad op (a + n)).toList == ([] : List UInt8))) else false := if_neg c
   have e3 : st op a (n + 1) = (if (st op a n).1 < 0 then P op (a + n) true else (st op a n).1, P op (a + n) true + 1) := if_neg c
   rw [if_neg c] at hs
   refine ⟨by omega, by omega, fun e => by omega, fun e => ?_, fun e _ => ?_⟩
   ·rw [e3, e1]
    by_cases ck : kc op a n = 0
    ·rw [i.none ck, if_pos (by decide)]
     show 0 ≤ P op (a + n) true ∧ P op (a + n) true + (kc op a n + 1) ≤ P op (a + n) true + 1 ∧ P op (a + n) true + 1 ≤ _
     omega
    ·have := i.some ck
     rw [if_neg (by omega)]
     show 0 ≤ (st op a n).1 ∧ (st op a n).1 + (kc op a n + 1) ≤ P op (a + n) true + 1 ∧ P op (a + n) true + 1 ≤ _
     omega
   ·rw [e2] at e
    by_cases cp : pl op a n = true
    ·rw [if_pos cp] at e
     by_cases cn : n = 0
     ·subst cn
      have ez : kc op a 0 = 0 := rfl
      have ea : a + ((0 : Nat) : Int) = a := by omega
      have es : (st op a 0).1 = -1 := rfl
      rw [ea] at c e3
      rw [e1, e3, es, if_pos (by decide), ez]
      refine ⟨by omega, rfl, by show P op a true + 1 = _; omega, fun m hm => ?_⟩
      obtain rfl : m = 0 := by omega
      rw [ea]
      exact ⟨by simpa using c, by omega⟩
     ·rw [if_neg cn, beq_iff_eq] at e
      have ez : (ad op (a + n)).size = 0 := tl_nil.1 e
      obtain ⟨a1, a2, a3, a4⟩ := i.all cp (by omega)
      obtain ⟨b1, b2⟩ := a4 (n - 1) (by omega)
      have hq := P_succ h (i := a + ((n - 1 : Nat) : Int)) (by omega) (by omega)
      rw [b1, if_neg Bool.false_ne_true, show a + ((n - 1 : Nat) : Int) + 1 = a + n by omega, ez] at hq
      have hpa := P_nonneg op h a true h0
      rw [e1, e3, if_neg (by omega)]
      refine ⟨by omega, a2, by show P op (a + n) true + 1 = _; omega, fun m hm => ?_⟩
      by_cases cm : m = n
      ·subst cm
       exact ⟨by simpa using c, by omega⟩
      ·exact a4 m (by omega)
    ·rw [if_neg cp] at e; cases e
theorem rep_at {v : Bool} {n i : Nat} {X : List Bool} : (List.replicate n v ++ X).getD i false = if i < n then v else X.getD (i - n) false := by
 rw [List.getD_eq_getElem?_getD, List.getD_eq_getElem?_getD, List.getElem?_append, List.length_replicate]
 by_cases h : i < n
 ·rw [if_pos h, if_pos h, List.getElem?_replicate, if_pos h]; rfl
 ·rw [if_neg h, if_neg h]
theorem byte_at (l : List Rn) (h : ∀ r ∈ l, knd r ≠ 0) : ∀ (w : List UInt8) (i : Nat), inL l = (w.length : Int) → (i : Int) < inL l → (dropsL l).getD i false = false → (RunL.apW l w)[(P l (i : Int) true).toNat]? = w[i]? := by
 induction l with
 | nil => intro w i _ h2 _; simp only [inL] at h2; omega
 | cons r l ih =>
  intro w i h1 h2 h3
  have hl : ∀ x ∈ l, knd x ≠ 0 := fun x hx => h x (List.mem_cons_of_mem _ hx)
  have hs := inL_nonneg hl
  have ih := ih hl
  simp only [inL] at h1 h2
  have ed : dropsL (r :: l) = List.replicate r.f0.toNat false ++ (List.replicate r.f2.toNat true ++ dropsL l) := rfl
  have ea : RunL.apW (r :: l) w = (w.take r.f0.toNat ++ RunL.L r.f1) ++ RunL.apW l (w.drop (r.f0 + r.f2).toNat) := rfl
  rw [ed] at h3
  rw [ea]
  rcases knd_three (h r List.mem_cons_self) with c | c | c
  ·have e := run_eq c
   rw [P_keep c, e.2.2.1, RunL.L_E, List.append_nil, e.2.2.2, Int.add_zero]
   by_cases hi : (i : Int) < r.f0
   ·rw [if_pos hi, Int.toNat_natCast, List.getElem?_append_left (by rw [List.length_take]; omega), List.getElem?_take, if_pos (by omega)]
   ·rw [if_neg hi]
    have hp := P_nonneg l hl ((i : Int) - r.f0) true (by omega)
    rw [rep_at, if_neg (by omega), rep_at, if_neg (by omega), show r.f2.toNat = 0 by omega, Nat.sub_zero] at h3
    have e2 := ih (w.drop r.f0.toNat) (i - r.f0.toNat) (by rw [List.length_drop]; omega) (by omega) h3
    rw [List.getElem?_append_right (by rw [List.length_take]; omega), List.length_take, show (r.f0 + P l ((i : Int) - r.f0) true).toNat - min r.f0.toNat w.length = (P l ((i : Int) - r.f0) true).toNat by omega, show (i : Int) - r.f0 = ((i - r.f0.toNat : Nat) : Int) by omega, e2, List.getElem?_drop, show r.f0.toNat + (i - r.f0.toNat) = i by omega]
  ·have e := run_eq2 c
   have hp := P_nonneg l hl (i : Int) true (by omega)
   rw [P_add c, if_neg (fun h => by cases h.2), e.2.1, e.2.2.2]
   rw [rep_at, if_neg (by omega), rep_at, if_neg (by omega), show r.f0.toNat = 0 by omega, show r.f2.toNat = 0 by omega, Nat.sub_zero, Nat.sub_zero] at h3
   have e2 := ih w i (by omega) (by omega) h3
   show (([] ++ RunL.L r.f1) ++ RunL.apW l w)[_]? = _
   rw [List.nil_append, List.getElem?_append_right (by rw [RunL.L_len]; omega), RunL.L_len, show ((r.f1.size : Int) + P l (i : Int) true).toNat - r.f1.size = (P l (i : Int) true).toNat by omega, e2]
  ·have e := run_eq3 c
   rw [P_drop c, e.2.1, e.2.2.1, RunL.L_E]
   rw [rep_at, if_neg (by omega), rep_at, show r.f0.toNat = 0 by omega, Nat.sub_zero] at h3
   by_cases hi : i < r.f2.toNat
   ·rw [if_pos hi] at h3; cases h3
   ·rw [if_neg hi] at h3
    rw [if_neg (by omega)]
    have e2 := ih (w.drop r.f2.toNat) (i - r.f2.toNat) (by rw [List.length_drop]; omega) (by omega) h3
    show (([] ++ []) ++ RunL.apW l (w.drop (0 + r.f2).toNat))[_]? = _
    rw [List.append_nil, List.nil_append, Int.zero_add, show (i : Int) - r.f2 = ((i - r.f2.toNat : Nat) : Int) by omega, e2, List.getElem?_drop, show r.f2.toNat + (i - r.f2.toNat) = i by omega]
theorem keeps_loop {op : List Rn} (h : Fit op) (s t : ByteArray) {a b F T : Int} (h0 : 0 ≤ a) (h1 : a ≤ b) (h2 : b ≤ inL op) (hend : ∀ k, jj34.l0 (k + 1) s t (addsL op E) (dropsL op) (kc op a (b - a).toNat) (pl op a (b - a).toNat) b a b F T = some true) : ∀ (m n k : Nat), a + n + m = b → m < k →
  jj34.l0 k s t (addsL op E) (dropsL op) (kc op a n) (pl op a n) (a + n) a b F T = some true := by
 obtain ⟨g1, g2, g3, g4⟩ := good_ok h.g
 have ld := dropsL_length op g4
 have la := addsL_length op E g4
 have hi := h.i
 intro m
 induction m with
 | zero =>
  intro n k hn hk
  obtain ⟨k, rfl⟩ : ∃ m, k = m + 1 := ⟨k - 1, by omega⟩
  have := hend k
  rw [show (b - a).toNat = n by omega] at this
  rw [show a + (n : Int) = b by omega]
  exact this
 | succ m ih =>
  intro n k hn hk
  obtain ⟨k, rfl⟩ : ∃ m, k = m + 1 := ⟨k - 1, by omega⟩
  have hx := ih (n + 1) k (by omega) (by omega)
  rw [show a + ((n + 1 : Nat) : Int) = a + n + 1 by omega] at hx
  have iv := inv_ok g4 h0 n (by omega)
  have c0 := iv.c0
  have c1 := iv.c1
  simp only [jj34.l0]
  rw [if_pos (by omega), if_pos (by omega), if_pos (by omega), w64 (x := a + n + 1) (by omega) (by omega), w64 (x := kc op a n + 1) (by omega) (by omega)]
  by_cases c : rdOf false (dropsL op) (a + n) = true
  ·have e1 : kc op a (n + 1) = kc op a n := if_pos c
   have e2 : pl op a (n + 1) = false := if_pos c
   rw [e1, e2] at hx
   rw [if_pos c, hx]
   split <;> rfl
  ·have e1 : kc op a (n + 1) = kc op a n + 1 := if_neg c
   have e2 : pl op a (n + 1) = if pl op a n = true then (if n = 0 then true else ((ad op (a + n)).toList == ([] : List UInt8))) else false := if_neg c
   rw [e1, e2] at hx
   rw [if_neg c]
   by_cases cp : pl op a n = true
   ·rw [if_pos cp] at hx
    rw [if_pos cp]
    by_cases cn : n = 0
    ·rw [if_pos cn] at hx
     rw [if_pos (by omega), hx]
    ·rw [if_neg cn] at hx
     rw [if_neg (by omega), if_pos (by omega)]
     exact hx
   ·rw [if_neg cp] at hx
    rw [if_neg cp, hx]
theorem keeps_f (l : List Rn) (s : ByteArray) (a b : Int) : ∃ k, jj34.f k l s a b = some true := by
 refine ⟨9000 + 1, ?_⟩
 have hj : jj34.j0 (9000 + 1) l s true a b = some true := by
  simp only [jj34.j0]
  rw [if_pos (by trivial)]; exact lives_b
 unfold jj34.f
 obtain ⟨t, hf1, hf2⟩ := few_f l (9000 + 1) (by decide)
 rw [hf1, Option.bind_some]
 cases t with
 | false => rw [if_neg Bool.false_ne_true]; exact hj
 | true =>
  obtain ⟨hl, hs⟩ := hf2 rfl
  rw [if_pos rfl]
  by_cases c1 : (s.size : Int) > 2000
  ·rw [if_pos c1]; exact hj
  ·have hfit : jj46.f (9000 + 1) l s = some (fitsL l s.size) := by
    unfold jj46.f fitsL
    rw [rgood_f (by omega), Option.bind_some]
    cases hg : good l with
    | false => rw [if_neg Bool.false_ne_true]; rfl
    | true =>
     rw [if_pos rfl, rin_f (by omega) _ (by omega), Option.bind_some, hg, if_pos rfl, Bool.true_and]
     rfl
   rw [if_neg c1, hfit, Option.bind_some]
   cases hft : fitsL l s.size with
   | false => exact hj
   | true =>
    rw [if_pos rfl]
    by_cases c2 : a < 0
    ·rw [if_pos c2]; exact hj
    ·rw [if_neg c2]
     by_cases c3 : a > b
     ·rw [if_pos c3]; exact hj
     ·rw [if_neg c3]
      by_cases c4 : b > (s.size : Int)
      ·rw [decide_eq_true c4]; exact hj
      ·rw [decide_eq_false c4]
       have hft' := hft
       unfold fitsL at hft'
       simp only [Bool.and_eq_true, decide_eq_true_eq] at hft'
       obtain ⟨hg, hin⟩ := hft'
       have h : Fit l := ⟨hl, hg, (hs hg).1, (hs hg).2⟩
       obtain ⟨g1, g2, g3, g4⟩ := good_ok hg
       have hap : run_Apply.f l s = some (apL l s, 0) := by
        unfold run_Apply.f app
        rw [if_pos ⟨by omega, by omega⟩, if_pos hft]
       have hsz := RunL.ap_size hg hin
       have ho := h.o
       have hi := h.i
       have hsp := spanL_st h (a := a) (b := b) (by omega) (by omega) (by omega)
       have iv := inv_ok g4 (a := a) (by omega) (b - a).toNat (by omega)
       have hab : a + ((b - a).toNat : Int) = b := by omega
       have pb := P_le_out l g4 b true (by omega)
       have pa0 := P_nonneg l g4 a false (by omega)
       have pa1 := P_le_out l g4 a false (by omega)
       obtain ⟨F, T, hFT, hF0, hFT1, hT, hzero, hge, hpl⟩ : ∃ F T : Int, tri (spanL l a b) = (F, T, true) ∧ 0 ≤ F ∧ F ≤ T ∧ T ≤ outL l ∧ (kc l a (b - a).toNat = 0 → F = T) ∧ (kc l a (b - a).toNat ≤ T - F) ∧ (kc l a (b - a).toNat ≠ 0 → pl l a (b - a).toNat = true → F = P l a true ∧ T = P l a true + (b - a) ∧ ∀ m : Nat, (m : Int) < b - a → dr l (a + m) = false ∧ P l (a + m) true = P l a true + m) := by
        rw [hsp]
        by_cases ck : kc l a (b - a).toNat = 0
        ·unfold fin
         rw [iv.none ck, if_pos (by decide)]
         exact ⟨_, _, rfl, by omega, by omega, by omega, fun _ => rfl, by omega, fun e => absurd ck e⟩
        ·have e := iv.some ck
         rw [hab] at e
         have hc0 := iv.c0
         unfold fin
         rw [if_neg (by omega)]
         refine ⟨_, _, rfl, by omega, by omega, by omega, fun e2 => absurd e2 ck, by omega, fun _ hp => ?_⟩
         have hn0 : 0 < (b - a).toNat := by have := iv.c1; omega
         obtain ⟨q1, q2, q3, q4⟩ := iv.all hp hn0
         exact ⟨q2, by rw [q3]; omega, fun m hm => q4 m (by omega)⟩
       have htri : (spanL l a b).1.1 = F ∧ (spanL l a b).1.2 = T ∧ (spanL l a b).2 = true := by
        unfold tri at hFT
        simp only [Prod.mk.injEq] at hFT
        exact hFT
       have hc0 := iv.c0
       have hend : ∀ k, jj34.l0 (k + 1) s (apL l s) (addsL l E) (dropsL l) (kc l a (b - a).toNat) (pl l a (b - a).toNat) b a b F T = some true := by
        intro k
        simp only [jj34.l0]
        rw [if_neg (by omega)]
        by_cases ck : kc l a (b - a).toNat = 0
        ·rw [if_pos ck, if_pos (hzero ck)]; exact lives_b
        ·rw [if_neg ck, w64 (x := T - F) (by omega) (by omega)]
         by_cases cp : pl l a (b - a).toNat = true
         ·obtain ⟨q1, q2, q3⟩ := hpl ck cp
          have heq : (apL l s).extract F.toNat T.toNat = s.extract a.toNat b.toNat := by
           apply RunL.L_inj
           rw [RunL.L_cut, RunL.L_cut, RunL.apW_eq]
           apply List.ext_getElem?
           intro m
           rw [List.getElem?_take, List.getElem?_take]
           by_cases cm : m < b.toNat - a.toNat
           ·rw [if_pos cm, if_pos (by omega), List.getElem?_drop, List.getElem?_drop]
            obtain ⟨d1, d2⟩ := q3 m (by omega)
            have hb := byte_at l g4 (RunL.L s) (a.toNat + m) (by rw [RunL.L_len]; exact hin) (by omega) (by unfold dr rdOf at d1; rwa [show (a + (m : Int)).toNat = a.toNat + m by omega] at d1)
            rw [show ((a.toNat + m : Nat) : Int) = a + m by omega, d2, ← q1, show (F + (m : Int)).toNat = F.toNat + m by omega] at hb
            exact hb
           ·rw [if_neg cm, if_neg (by omega)]
          rw [if_pos cp, if_pos hF0, if_pos hFT1, if_pos (by omega), if_pos (by omega), if_pos (by omega), if_pos (by omega), heq, if_pos rfl, if_pos hge]
          exact lives_b
         ·rw [if_neg cp, if_pos hge]; exact lives_b
       obtain ⟨m, hm⟩ : ∃ m, m = 8999 := ⟨_, rfl⟩
       rw [show 9000 = m + 1 by omega]
       simp only [jj34.j0]
       rw [if_neg (by simp), hap, Option.bind_some, pspan_f (by omega), Option.bind_some, htri.1, htri.2.1, htri.2.2, if_pos rfl]
       simp only []
       rw [if_neg (by omega), if_neg (by omega), decide_eq_false (by omega)]
       simp only [jj34.j1]
       rw [if_neg (by simp), adds_f hl hg h.i h.o _ (by omega), Option.bind_some, drops_f hl hg h.i _ (by omega), Option.bind_some]
       have := keeps_loop h s (apL l s) (a := a) (b := b) (F := F) (T := T) (by omega) (by omega) (by omega) hend (b - a).toNat 0 m (by omega) (by omega)
       rw [show a + ((0 : Nat) : Int) = a by omega] at this
       exact this
theorem two {w : World} {x : Int × Int} {cs : Array Value} (h : (Kd.pair (Kd.int .i64) (Kd.int .i64)).K w x cs.toList) : cs = #[.int .i64 x.1, .int .i64 x.2] := by
 obtain ⟨_, _, he, rfl, rfl⟩ := h
 exact Array.toList_inj.1 he
theorem row (A : Option Addr) (c : Nat) (x : List (Int × ByteArray × Int)) (t : ByteArray) (cs : Array Value) (s : Int × Int) (w : World) (h : Kd.C (Kd.pair (Kd.int .i64) (Kd.pair Kd.string (Kd.int .i64))) w A x.length x) (hc : x.length ≤ c)
  (hok : x.length ≤ maxLen ∧ ∀ y ∈ x, (fun x : Int × ByteArray × Int => (Lit.int .i64 x.1).wf = true ∧ x.2.1.size ≤ maxLen ∧ (Lit.int .i64 x.2.2).wf = true) y) (ht : t.size ≤ 140737488351232) (hcs : (Kd.pair (Kd.int .i64) (Kd.int .i64)).K w s cs.toList) (hs : (fun x : Int × Int => (Lit.int .i64 x.1).wf = true ∧ (Lit.int .i64 x.2).wf = true) s) :
  Calls Try.prog 8 #[.slice A x.length c, .string t, .agg cs] w fun e w' => e = .returned (.bool true) ∧ Below w.heap.size w w' := by
 have hC : Kd.C k37 w A x.length (x.map LightF.mk) := Maps1.C_map (d := Kd.pair (Kd.int .i64) (Kd.pair Kd.string (Kd.int .i64))) (d' := k37) rfl LightF.mk (fun x cs hx => hx) h
 obtain rfl := two hcs
 obtain ⟨k, hk⟩ := keeps_f (x.map LightF.mk) t s.1 s.2
 have := jj34.calls k A c (x.map LightF.mk) t s.1 s.2 true w (by rw [List.length_map]; exact hC) (by rw [List.length_map]; exact hc) hk rfl
 rw [List.length_map] at this
 exact this
end Go.Proofs.Ythocalfgeaclgaa.PlaceKeepsL
end
-- MERGED YthocalfgeaclgaaLawPlaceKeeps
section

namespace Go.Proofs.Ythocalfgeaclgaa.placeKeeps
open Go.ChangeShapes Go.WideShapes Go.ChangeAt Go.RowKit Go.Proofs.YthocalfgeaclgaaW.PrintWords
open Go.ChangeMaps (open_string shut_string)
set_option linter.unusedVariables false
theorem own : ownKnob Try.prog.godebug = none := by kernel_rfl
theorem laidOut : laidOutB Try.prog = true := by kernel_rfl
theorem o3 : Opens.Opens Try.prog 3 (Kd.int .i64) (fun n => (Lit.int .i64 n).wf = true) := Opens.int_ (t := 3) Try.underlying3 (by kernel_rfl)
theorem o9 : Opens.Opens Try.prog 9 Kd.string (fun s => s.size ≤ maxLen) := Opens.string_ (t := 9) Try.underlying9 (by kernel_rfl)
theorem o37 : Opens.Opens Try.prog 37 (Kd.pair (Kd.int .i64) (Kd.pair Kd.string (Kd.int .i64))) (fun x => (fun n => (Lit.int .i64 n).wf = true) x.1 ∧ (fun s => s.size ≤ maxLen) x.2.1 ∧ (fun n => (Lit.int .i64 n).wf = true) x.2.2) := Opens.struct3_ (t := 37) Try.underlying37 (by kernel_rfl) o3 o9 o3 rfl rfl rfl
theorem o22 : Opens.Opens Try.prog 22 (Kd.slice 37 (Kd.pair (Kd.int .i64) (Kd.pair Kd.string (Kd.int .i64)))) (fun l => l.length ≤ maxLen ∧ ∀ x ∈ l, (fun x => (fun n => (Lit.int .i64 n).wf = true) x.1 ∧ (fun s => s.size ≤ maxLen) x.2.1 ∧ (fun n => (Lit.int .i64 n).wf = true) x.2.2) x) := Opens.slice_ (t := 22) (e := 37) Try.underlying22 (by kernel_rfl) o37
theorem o24 : Opens.Opens Try.prog 24 (Kd.pair (Kd.int .i64) (Kd.int .i64)) (fun x => (fun n => (Lit.int .i64 n).wf = true) x.1 ∧ (fun n => (Lit.int .i64 n).wf = true) x.2) := Opens.struct2_ (t := 24) Try.underlying24 (by kernel_rfl) o3 o3 rfl rfl
set_option maxRecDepth 100000 in
theorem lifted (os : Os) (started : os.Started) (H : Type) (enc : TypeId × Value → H) :
  ReturnsInHanded {} Try.checked os 8 .any (Rows.placeKeepsSpec.pre6 enc Try.prog Try.f8 Rows.placeKeepsRow.domain false) (Rows.placeKeepsSpec.post enc Try.prog Try.f8 false true false false) := by
 refine returnsInHanded_of_change_sized (C := Try.checked) own started (by kernel_rfl) Try.func8
  (ChangeSpec.witness6 (enc := enc) (C := Try.checked) false ⟨#[], #[(.slice none 0 0), (.string ByteArray.empty), (.agg #[(.int .i64 0), (.int .i64 0)])], []⟩ 8 (by kernel_rfl) (by kernel_rfl) (by kernel_rfl) (by kernel_rfl)) ?_
 intro W base args ds gs before hval0 hW hcnd hsz0 _
 have hsz : (DataW.weightsEach Try.prog (Try.f8.params.toList ++ Rows.placeKeepsSpec.plain.varTypes Try.prog) (ds ++ gs)).all (· ≤ reachBytes) = true := hsz0
 have hval : ∀ (j : Nat) t v, Try.f8.params[j]? = some t → args[j]? = some v → Value.okWide Try.prog W .any base t v := hval0
 have hW' := hW
 obtain ⟨p, q, hA0, hV, rfl, hfz, hnd⟩ := hW
 have hA : DataW.TrodAll enc Try.prog W 0 (fun _ => true) true Try.f8.params.toList args.toList ds p := hA0
 rw [Try.params8] at hA hval hsz
 obtain ⟨v0, vs0, d0, ds0, p0, q0, hargs, rfl, rfl, h0, r0⟩ := trodAll_cons hA
 obtain ⟨v1, vs1, d1, ds1, p1, q1, rfl, rfl, rfl, h1, r1⟩ := trodAll_cons r0
 obtain ⟨v2, vs2, d2, ds2, p2, q2, rfl, rfl, rfl, h2, r2⟩ := trodAll_cons r1
 obtain ⟨rfl, rfl, rfl⟩ := trodAll_nil r2
 obtain rfl : args = #[v0, v1, v2] := by cases args; simp_all
 obtain ⟨rfl, rfl⟩ := trodVars_none hV
 obtain ⟨a0, len0, cap0, rfl⟩ := okWide_slice Try.underlying22 (hval 0 22 v0 rfl rfl)
 have k0 := h0
 have lt0 : ∀ x ∈ p0, x.block < W.heap.size := by obtain ⟨m, hm⟩ := k0; exact DataW.trod_lt m _ _ _ hm
 obtain ⟨x0, hK0, ok0⟩ := Opens.arg_ o22 h0
 obtain ⟨rfl, hc0, hC0⟩ := Opens.slice_shape hK0
 obtain ⟨a1, rfl, rfl, rfl, y1⟩ := open_string Try.underlying9 (hval 1 9 v1 rfl rfl) h1
 have w1 : a1.size ≤ 140737488351232 := by
  have z := sized_string hsz (j := 1) (t := 9) rfl rfl
  rw [Array.length_toList] at z
  exact z
 obtain ⟨cs2, rfl, hcs2⟩ := okWide_struct Try.underlying24 (hval 2 24 v2 rfl rfl)
 have k2 := h2
 have lt2 : ∀ x ∈ p2, x.block < W.heap.size := by obtain ⟨m, hm⟩ := k2; exact DataW.trod_lt m _ _ _ hm
 obtain ⟨x2, hK2, ok2⟩ := Opens.arg_ o24 h2
 clear hA0 hval0 hsz0 hsz
 refine (PlaceKeepsL.row a0 cap0 x0 a1 cs2 x2 W hC0 hc0 ok0 w1 hK2 ok2).mono fun e W' ⟨he, bel⟩ => ?_
 subst he
 exact ⟨_, rfl, _, _, _, [], _, [], hW', trodAll_mk1 (shut_bool Try.underlying4 _), (trodAll_cons_mk (Below.trod laidOut (by kernel_rfl) (of_decide_eq_true (by kernel_rfl)) k0 bel lt0) (trodAll_cons_mk (shut_string Try.underlying9 y1) (trodAll_cons_mk (Below.trod laidOut (by kernel_rfl) (of_decide_eq_true (by kernel_rfl)) k2 bel lt2) trodAll_mk0))), rfl, bel.frame _, fun h => by cases h⟩
theorem over : Rows.placeKeepsRow.holds Try.pinned (OpenSpec.ofChange Rows.placeKeepsSpec) :=
 OpenClaim.holds_of_wide 8 Try.f8 rfl rfl rfl rfl rfl rfl rfl ⟨rfl, rfl, rfl, rfl, rfl⟩ rfl rfl rfl rfl rfl (by kernel_rfl) Try.func8 (by kernel_rfl)
  (of_decide_eq_true (by kernel_rfl)) (by unfold Func.isWrapper; first | (rw [if_pos (by decide +kernel)]; kernel_rfl) | (rw [if_neg (by decide +kernel)]; exact ⟨rfl, rfl⟩))
  (fun os started H enc _ => lifted os started H enc)
theorem proved : Rows.PlaceKeepsSaid := over
#print axioms proved
end Go.Proofs.Ythocalfgeaclgaa.placeKeeps
namespace Go.Proofs.Ythocalfgeaclgaa
theorem placeKeeps_holds : Rows.PlaceKeepsSaid := placeKeeps.proved
end Go.Proofs.Ythocalfgeaclgaa
end

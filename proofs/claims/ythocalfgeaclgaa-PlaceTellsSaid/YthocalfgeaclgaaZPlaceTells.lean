import Derived.Test.YthocalfgeaclgaaRows
import Derived.Test.YthocalfgeaclgaaZF
import Derived.Test.YthocalfgeaclgaaZE
import Derived.Test.YthocalfgeaclgaaZA
import Derived.Test.YthocalfgeaclgaaZD
import Derived.WalkKit
import Derived.ProofKit
import Derived.OpenShut
import Derived.ShutString
import Derived.ChangeOld
import Derived.Below
import Derived.SizedLaws
import Derived.Test.YthocalfgeaclgaaWSized
-- MERGED YthocalfgeaclgaaPvariorumlaw10PlaceTells
section
-- Written by wip/myprint.py of this session, over the kit's print.py: a Lean function for each Go function, and the proof that the code comes to it.
namespace Go.Proofs.Ythocalfgeaclgaa.P
open Go.RowKit Go.Proofs.YthocalfgeaclgaaW.PrintWords Go.Proofs.YthocalfgeaclgaaW.PrintLast Go.Proofs.YthocalfgeaclgaaW.PrintMore
attribute [local go_sem] max2_int min2_int max_two min_two max_three min_three max_four min_four   -- for this text's walks alone
set_option linter.unusedVariables false
set_option linter.unusedSimpArgs false

attribute [local go_sem high] eqA24
/-! ### variorumlaw10_PlaceTells: function 3 -/
def variorumlaw10_PlaceTells.f (k : Nat) (l0 : List (S37)) (a1 : Int) (a2 : Bool) (a3_0 : Int) (a3_1 : Int) : Option (Bool) := (variorumlaw09_Few.f k l0).bind fun t198 => (if t198 = true then ((place_Move.f l0 a1 a2).bind fun bt200 => ((variorumref10_Move.f k l0 a1 a2).bind fun bt202 => ((place_Span.f l0 a3_0 a3_1).bind fun bt204 => ((variorumref10_Span.f k l0 a3_0 a3_1).bind fun bt208 => (if bt200.1 = bt202.1 then (if (bt200.2 == bt202.2) = true then (if (bt204.1 == bt208.1 && (bt204.2.1 == bt208.2.1)) = true then (if (bt204.2.2 == bt208.2.2) = true then ((variorumlaw10_lives.f).bind fun t212 => (some t212)) else (some false)) else (some false)) else (some false)) else (some false)))))) else ((variorumlaw10_lives.f).bind fun t199 => (some t199)))
theorem variorumlaw10_PlaceTells.mono : ∀ a0 a1 a2 a3 a4 k, LeO (variorumlaw10_PlaceTells.f k a0 a1 a2 a3 a4) (variorumlaw10_PlaceTells.f (k + 1) a0 a1 a2 a3 a4) := by
  intro a0 a1 a2 a3 a4 k
  unfold variorumlaw10_PlaceTells.f
  repeat' first | (with_reducible exact variorumlaw09_Few.mono _ _) | (with_reducible exact variorumref10_Move.mono _ _ _ _) | (with_reducible exact variorumref10_Span.mono _ _ _ _) | (with_reducible exact LeO.refl _) | (with_reducible refine LeO.ite ?_ ?_) | (with_reducible refine LeO.bind ?_ (fun _ => ?_))
set_option maxHeartbeats 8000000 in
set_option maxRecDepth 100000 in
theorem variorumlaw10_PlaceTells.calls (k : Nat) (A0 : Option Addr) (c0 : Nat) (l0 : List (S37)) (a1 : Int) (a2 : Bool) (a3_0 : Int) (a3_1 : Int) (r : Bool) (w : World) (hr0 : Kd.C k37 w A0 l0.length l0) (hc0 : l0.length ≤ c0) (h : variorumlaw10_PlaceTells.f k l0 a1 a2 a3_0 a3_1 = some r) (hr1_ : r = true) :
    Calls Try.prog 3 #[.slice A0 l0.length c0, .int .i64 a1, .bool a2, .agg #[.int .i64 a3_0, .int .i64 a3_1]] w fun e w' => e = .returned (.bool r) ∧ Below w.heap.size w w' := by
  have HR1_ := Aside0.mk hr1_
  clear hr1_
  have hu24 := Try.underlying24
  have HR0 := Aside0.mk hr0
  have HC0 := Aside0.mk hc0
  clear hr0 hc0
  have HB := Aside0.mk (Below.refl w.heap.size w)
  have H : ((variorumlaw09_Few.f k l0).bind fun t198 => (if t198 = true then ((place_Move.f l0 a1 a2).bind fun bt200 => ((variorumref10_Move.f k l0 a1 a2).bind fun bt202 => ((place_Span.f l0 a3_0 a3_1).bind fun bt204 => ((variorumref10_Span.f k l0 a3_0 a3_1).bind fun bt208 => (if bt200.1 = bt202.1 then (if (bt200.2 == bt202.2) = true then (if (bt204.1 == bt208.1 && (bt204.2.1 == bt208.2.1)) = true then (if (bt204.2.2 == bt208.2.2) = true then ((variorumlaw10_lives.f).bind fun t212 => (some t212)) else (some false)) else (some false)) else (some false)) else (some false)))))) else ((variorumlaw10_lives.f).bind fun t199 => (some t199)))) = some r := h
  clear h
  replace H := Option.bind_eq_some_iff.mp H
  obtain ⟨t198, A50, H⟩ := H
  replace H : (if t198 = true then ((place_Move.f l0 a1 a2).bind fun bt200 => ((variorumref10_Move.f k l0 a1 a2).bind fun bt202 => ((place_Span.f l0 a3_0 a3_1).bind fun bt204 => ((variorumref10_Span.f k l0 a3_0 a3_1).bind fun bt208 => (if bt200.1 = bt202.1 then (if (bt200.2 == bt202.2) = true then (if (bt204.1 == bt208.1 && (bt204.2.1 == bt208.2.1)) = true then (if (bt204.2.2 == bt208.2.2) = true then ((variorumlaw10_lives.f).bind fun t212 => (some t212)) else (some false)) else (some false)) else (some false)) else (some false)))))) else ((variorumlaw10_lives.f).bind fun t199 => (some t199))) = some r := H
  have A5 := Aside0.mk A50
  clear A50
  by_cases c6 : t198 = true
  · subst c6
    have H1 : ((place_Move.f l0 a1 a2).bind fun bt200 => ((variorumref10_Move.f k l0 a1 a2).bind fun bt202 => ((place_Span.f l0 a3_0 a3_1).bind fun bt204 => ((variorumref10_Span.f k l0 a3_0 a3_1).bind fun bt208 => (if bt200.1 = bt202.1 then (if (bt200.2 == bt202.2) = true then (if (bt204.1 == bt208.1 && (bt204.2.1 == bt208.2.1)) = true then (if (bt204.2.2 == bt208.2.2) = true then ((variorumlaw10_lives.f).bind fun t212 => (some t212)) else (some false)) else (some false)) else (some false)) else (some false)))))) = some r := by rw [if_pos rfl] at H; exact H
    clear H
    have H := H1
    clear H1
    replace H := Option.bind_eq_some_iff.mp H
    obtain ⟨⟨t200, t201⟩, A70, H⟩ := H
    replace H : ((variorumref10_Move.f k l0 a1 a2).bind fun bt202 => ((place_Span.f l0 a3_0 a3_1).bind fun bt204 => ((variorumref10_Span.f k l0 a3_0 a3_1).bind fun bt208 => (if t200 = bt202.1 then (if (t201 == bt202.2) = true then (if (bt204.1 == bt208.1 && (bt204.2.1 == bt208.2.1)) = true then (if (bt204.2.2 == bt208.2.2) = true then ((variorumlaw10_lives.f).bind fun t212 => (some t212)) else (some false)) else (some false)) else (some false)) else (some false))))) = some r := H
    have A7 := Aside0.mk A70
    clear A70
    replace H := Option.bind_eq_some_iff.mp H
    obtain ⟨⟨t202, t203⟩, A80, H⟩ := H
    replace H : ((place_Span.f l0 a3_0 a3_1).bind fun bt204 => ((variorumref10_Span.f k l0 a3_0 a3_1).bind fun bt208 => (if t200 = t202 then (if (t201 == t203) = true then (if (bt204.1 == bt208.1 && (bt204.2.1 == bt208.2.1)) = true then (if (bt204.2.2 == bt208.2.2) = true then ((variorumlaw10_lives.f).bind fun t212 => (some t212)) else (some false)) else (some false)) else (some false)) else (some false)))) = some r := H
    have A8 := Aside0.mk A80
    clear A80
    replace H := Option.bind_eq_some_iff.mp H
    obtain ⟨⟨t204, t205, t206⟩, A90, H⟩ := H
    replace H : ((variorumref10_Span.f k l0 a3_0 a3_1).bind fun bt208 => (if t200 = t202 then (if (t201 == t203) = true then (if (t204 == bt208.1 && (t205 == bt208.2.1)) = true then (if (t206 == bt208.2.2) = true then ((variorumlaw10_lives.f).bind fun t212 => (some t212)) else (some false)) else (some false)) else (some false)) else (some false))) = some r := H
    have A9 := Aside0.mk A90
    clear A90
    replace H := Option.bind_eq_some_iff.mp H
    obtain ⟨⟨t208, t209, t210⟩, A100, H⟩ := H
    replace H : (if t200 = t202 then (if (t201 == t203) = true then (if (t204 == t208 && (t205 == t209)) = true then (if (t206 == t210) = true then ((variorumlaw10_lives.f).bind fun t212 => (some t212)) else (some false)) else (some false)) else (some false)) else (some false)) = some r := H
    have A10 := Aside0.mk A100
    clear A100
    by_cases c11 : t200 = t202
    · rw [if_pos c11] at H
      have c11b0 : (t200 == t202) = true := beq_iff_eq.mpr c11
      have c11b1 : (t200 != t202) = false := bne_eq_false_iff_eq.mpr c11
      clear c11
      by_cases c12 : (t201 == t203) = true
      · rw [if_pos c12] at H
        have c12b0 : (t201 == t203) = true := c12
        (try (have c12b1 : decide (t201 = t203) = true := by simpa using c12))
        (try (have c12b2 : (t201 == t203) = true := by simpa using c12))
        clear c12
        by_cases c13 : (t204 == t208 && (t205 == t209)) = true
        · rw [if_pos c13] at H
          have c13b0 : (t204 == t208 && (t205 == t209)) = true := c13
          (try (have c13b1 : decide (t204 = t208 && (t205 == t209)) = true := by simpa using c13))
          (try (have c13b2 : (t204 == t208 && (t205 == t209)) = true := by simpa using c13))
          clear c13
          by_cases c14 : (t206 == t210) = true
          · rw [if_pos c14] at H
            have c14b0 : (t206 == t210) = true := c14
            (try (have c14b1 : decide (t206 = t210) = true := by simpa using c14))
            (try (have c14b2 : (t206 == t210) = true := by simpa using c14))
            clear c14
            replace H := Option.bind_eq_some_iff.mp H
            obtain ⟨t212, A150, H⟩ := H
            replace H : (some t212) = some r := H
            have A15 := Aside0.mk A150
            clear A150
            obtain rfl := Option.some.inj H
            go_enter Try.func3, Try.ntmps3
            go_wp2_with (first | ((with_reducible refine gate_dst (N := 7) rfl ?_); refine box_event ?hg (N := 7) ?hd (cs := #[.int .i64 a3_0, .int .i64 a3_1]) (t := 24) ?hr ?_; (case hd => rfl); (case hg => rfl); (case hr => (go_simp; done)); intro gb197 hg w16 hbox hb; have n0_ := Aside0.mk (below_step (by repeat ((with_reducible (exact HB.out)))) hb); have n1_ := Aside0.mk (hbox); have n2_ := Aside0.mk ((by rw [hg]; exact (below_size (by repeat ((with_reducible (exact HB.out))))) : w.heap.size ≤ gb197)); have n3_ := Aside0.mk ((by rw [hg]; exact (below_size (by repeat ((with_reducible (exact HB.out))))) : w.heap.size ≤ gb197)); clear HB; have HB := n0_; have BK197 := n1_; have GW197 := n2_; have GE197 := n3_; clear n0_ n1_ n2_ n3_; clear hb hbox hg) | ((with_reducible refine gate_callee (f := 12) rfl ?_); refine goesL_ (some 18) rfl rfl Try.func12 (by kernel_rfl) rfl #[.slice A0 l0.length c0] rfl (by (try simp only [List.map_toArray, List.map_cons, List.map_nil]); (rfl)) ?_; (with_reducible refine (variorumlaw09_Few.calls k _ _ l0 true _ ?side1 ?side2 A5.out).mono ?_); (case side1 => repeat ((exact (Kd.C_below HR0.out HB.out)))); (case side2 => exact HC0.out); rintro e w17 ⟨rfl, hb⟩; refine ⟨_, rfl, ?_⟩; have n0_ := Aside0.mk (blk_below (g := gb197) (o := .cells #[.int .i64 a3_0, .int .i64 a3_1] 24 (0, 0)) (by (with_reducible repeat ((refine blk_drew ?_))); exact BK197.out) hb); have n1_ := Aside0.mk (below_step (by repeat ((with_reducible (exact HB.out)))) hb); clear BK197; clear HB; have BK197 := n0_; have HB := n1_; clear n0_ n1_; (try clear hb); (try clear hb2); (try clear hk); (try clear hi)) | ((with_reducible refine gate_callee (f := 14) rfl ?_); refine goesL_ (some 25) rfl rfl Try.func14 (by kernel_rfl) rfl #[.slice A0 l0.length c0, .int .i64 a1, .bool a2] rfl (by (try simp only [List.map_toArray, List.map_cons, List.map_nil]); (rfl)) ?_; (with_reducible refine (place_Move.calls _ _ l0 a1 a2 t200 t201 _ ?side1 ?side2 A7.out).mono ?_); (case side1 => repeat ((exact (Kd.C_below HR0.out HB.out)))); (case side2 => exact HC0.out); rintro e w18 ⟨rfl, hb⟩; refine ⟨_, rfl, ?_⟩; have n0_ := Aside0.mk (blk_below (g := gb197) (o := .cells #[.int .i64 a3_0, .int .i64 a3_1] 24 (0, 0)) (by (with_reducible repeat ((refine blk_drew ?_))); exact BK197.out) hb); have n1_ := Aside0.mk (below_step (by repeat ((with_reducible (exact HB.out)))) hb); clear BK197; clear HB; have BK197 := n0_; have HB := n1_; clear n0_ n1_; (try clear hb); (try clear hb2); (try clear hk); (try clear hi)) | ((with_reducible refine gate_callee (f := 15) rfl ?_); refine goesL_ (some 32) rfl rfl Try.func15 (by kernel_rfl) rfl #[.slice A0 l0.length c0, .int .i64 a1, .bool a2] rfl (by (try simp only [List.map_toArray, List.map_cons, List.map_nil]); (rfl)) ?_; (with_reducible refine (variorumref10_Move.calls k _ _ l0 a1 a2 t202 t203 _ ?side1 ?side2 A8.out).mono ?_); (case side1 => repeat ((exact (Kd.C_below HR0.out HB.out)))); (case side2 => exact HC0.out); rintro e w19 ⟨rfl, hb⟩; refine ⟨_, rfl, ?_⟩; have n0_ := Aside0.mk (blk_below (g := gb197) (o := .cells #[.int .i64 a3_0, .int .i64 a3_1] 24 (0, 0)) (by (with_reducible repeat ((refine blk_drew ?_))); exact BK197.out) hb); have n1_ := Aside0.mk (below_step (by repeat ((with_reducible (exact HB.out)))) hb); clear BK197; clear HB; have BK197 := n0_; have HB := n1_; clear n0_ n1_; (try clear hb); (try clear hb2); (try clear hk); (try clear hi); have hcz20_0 : w19.cell? ⟨gb197, 0, none⟩ = some (.int .i64 a3_0) := (blk_cell BK197.out 0).trans rfl; have hcz20_1 : w19.cell? ⟨gb197, 1, none⟩ = some (.int .i64 a3_1) := (blk_cell BK197.out 1).trans rfl; have hfz20_0 := blk_frozen BK197.out 0; have hfz20_1 := blk_frozen BK197.out 1) | ((with_reducible refine gate_callee (f := 16) rfl ?_); refine goesL_ (some 38) rfl rfl Try.func16 (by kernel_rfl) rfl #[.slice A0 l0.length c0, .agg #[.int .i64 a3_0, .int .i64 a3_1]] rfl (by (try simp only [List.map_toArray, List.map_cons, List.map_nil]); (rfl)) ?_; (with_reducible refine (place_Span.calls _ _ l0 a3_0 a3_1 t204 t205 t206 _ ?side1 ?side2 A9.out).mono ?_); (case side1 => repeat ((exact (Kd.C_below HR0.out HB.out)))); (case side2 => exact HC0.out); rintro e w21 ⟨rfl, hb⟩; refine ⟨_, rfl, ?_⟩; have n0_ := Aside0.mk (blk_below (g := gb197) (o := .cells #[.int .i64 a3_0, .int .i64 a3_1] 24 (0, 0)) (by (with_reducible repeat ((refine blk_drew ?_))); exact BK197.out) hb); have n1_ := Aside0.mk (below_step (by repeat ((with_reducible (exact HB.out)))) hb); clear BK197; clear HB; have BK197 := n0_; have HB := n1_; clear n0_ n1_; (try clear hb); (try clear hb2); (try clear hk); (try clear hi)) | ((with_reducible refine gate_dst (N := 13) rfl ?_); refine box_event ?hg (N := 13) ?hd (cs := #[.int .i64 0, .int .i64 0]) (t := 24) ?hr ?_; (case hd => rfl); (case hg => rfl); (case hr => (go_simp; done)); intro gb207 hg w22 hbox hb; have n0_ := Aside0.mk (blk_below (g := gb197) (o := .cells #[.int .i64 a3_0, .int .i64 a3_1] 24 (0, 0)) (by (with_reducible repeat ((refine blk_drew ?_))); exact BK197.out) hb); have n1_ := Aside0.mk (below_step (by repeat ((with_reducible (exact HB.out)))) hb); have n2_ := Aside0.mk (hbox); have n3_ := Aside0.mk ((by rw [hg]; exact (below_size (by repeat ((with_reducible (exact HB.out))))) : w.heap.size ≤ gb207)); have n4_ := Aside0.mk ((by rw [hg]; exact (below_size (by repeat ((with_reducible (exact HB.out))))) : w.heap.size ≤ gb207)); have n5_ := Aside0.mk ((by rw [hg]; exact Nat.ne_of_lt (blk_lt (g := gb197) (o := .cells #[.int .i64 a3_0, .int .i64 a3_1] 24 (0, 0)) (by (with_reducible repeat ((refine blk_drew ?_))); exact BK197.out)) : gb197 ≠ gb207)); have n6_ := Aside0.mk ((by rw [hg]; exact Nat.ne_of_gt (blk_lt (g := gb197) (o := .cells #[.int .i64 a3_0, .int .i64 a3_1] 24 (0, 0)) (by (with_reducible repeat ((refine blk_drew ?_))); exact BK197.out)) : gb207 ≠ gb197)); clear BK197; clear HB; have BK197 := n0_; have HB := n1_; have BK207 := n2_; have GW207 := n3_; have GE207 := n4_; have NB197_207 := n5_; have NB207_197 := n6_; clear n0_ n1_ n2_ n3_ n4_ n5_ n6_; clear hb hbox hg; have hnb23 := NB207_197.out; have hnc23 := NB197_207.out; have hcz24_0 : w22.cell? ⟨gb207, 0, none⟩ = some (.int .i64 0) := (blk_cell BK207.out 0).trans rfl; have hcz24_1 : w22.cell? ⟨gb207, 1, none⟩ = some (.int .i64 0) := (blk_cell BK207.out 1).trans rfl; have hfz24_0 := blk_frozen BK207.out 0; have hfz24_1 := blk_frozen BK207.out 1; have hcz25_0 : w22.cell? ⟨gb197, 0, none⟩ = some (.int .i64 a3_0) := (blk_cell BK197.out 0).trans rfl; have hcz25_1 : w22.cell? ⟨gb197, 1, none⟩ = some (.int .i64 a3_1) := (blk_cell BK197.out 1).trans rfl; have hfz25_0 := blk_frozen BK197.out 0; have hfz25_1 := blk_frozen BK197.out 1) | ((with_reducible refine gate_callee (f := 17) rfl ?_); refine goesL_ (some 44) rfl rfl Try.func17 (by kernel_rfl) rfl #[.slice A0 l0.length c0, .agg #[.int .i64 a3_0, .int .i64 a3_1]] rfl (by (try simp only [List.map_toArray, List.map_cons, List.map_nil]); (rfl)) ?_; (with_reducible refine (variorumref10_Span.calls k _ _ l0 a3_0 a3_1 t208 t209 t210 _ ?side1 ?side2 A10.out).mono ?_); (case side1 => exact Kd.C_below HR0.out (by repeat ((with_reducible first | exact HB.out | refine below_set ?_ GE207.out)))); (case side2 => exact HC0.out); rintro e w26 ⟨rfl, hb⟩; refine ⟨_, rfl, ?_⟩; have n0_ := Aside0.mk (blk_below (g := gb197) (o := .cells #[.int .i64 a3_0, .int .i64 a3_1] 24 (0, 0)) (by (with_reducible repeat ((refine blk_drew ?_))); refine blk_far ?_ NB197_207.out _; (with_reducible repeat ((refine blk_drew ?_))); refine blk_far ?_ NB197_207.out _; (with_reducible repeat ((refine blk_drew ?_))); exact BK197.out) hb); have n1_ := Aside0.mk (blk_below (g := gb207) (o := .cells #[.int .i64 t204, .int .i64 t205] 24 (0, 0)) (by (with_reducible repeat ((refine blk_drew ?_))); refine blk_put (cs := #[.int .i64 t204, .int .i64 0]) ?_ 1 _ rfl; (with_reducible repeat ((refine blk_drew ?_))); refine blk_put (cs := #[.int .i64 0, .int .i64 0]) ?_ 0 _ rfl; (with_reducible repeat ((refine blk_drew ?_))); exact BK207.out) hb); have n2_ := Aside0.mk (below_step (by repeat ((with_reducible first | exact HB.out | refine below_set ?_ GE207.out))) hb); clear BK197; clear BK207; clear HB; have BK197 := n0_; have BK207 := n1_; have HB := n2_; clear n0_ n1_ n2_; (try clear hb); (try clear hb2); (try clear hk); (try clear hi)) | ((with_reducible refine gate_dst (N := 15) rfl ?_); refine box_event ?hg (N := 15) ?hd (cs := #[.int .i64 0, .int .i64 0]) (t := 24) ?hr ?_; (case hd => rfl); (case hg => rfl); (case hr => (go_simp; done)); intro gb211 hg w27 hbox hb; have n0_ := Aside0.mk (blk_below (g := gb197) (o := .cells #[.int .i64 a3_0, .int .i64 a3_1] 24 (0, 0)) (by (with_reducible repeat ((refine blk_drew ?_))); exact BK197.out) hb); have n1_ := Aside0.mk (blk_below (g := gb207) (o := .cells #[.int .i64 t204, .int .i64 t205] 24 (0, 0)) (by (with_reducible repeat ((refine blk_drew ?_))); exact BK207.out) hb); have n2_ := Aside0.mk (below_step (by repeat ((with_reducible (exact HB.out)))) hb); have n3_ := Aside0.mk (hbox); have n4_ := Aside0.mk ((by rw [hg]; exact (below_size (by repeat ((with_reducible (exact HB.out))))) : w.heap.size ≤ gb211)); have n5_ := Aside0.mk ((by rw [hg]; exact (below_size (by repeat ((with_reducible (exact HB.out))))) : w.heap.size ≤ gb211)); have n6_ := Aside0.mk ((by rw [hg]; exact Nat.ne_of_lt (blk_lt (g := gb197) (o := .cells #[.int .i64 a3_0, .int .i64 a3_1] 24 (0, 0)) (by (with_reducible repeat ((refine blk_drew ?_))); exact BK197.out)) : gb197 ≠ gb211)); have n7_ := Aside0.mk ((by rw [hg]; exact Nat.ne_of_gt (blk_lt (g := gb197) (o := .cells #[.int .i64 a3_0, .int .i64 a3_1] 24 (0, 0)) (by (with_reducible repeat ((refine blk_drew ?_))); exact BK197.out)) : gb211 ≠ gb197)); have n8_ := Aside0.mk ((by rw [hg]; exact Nat.ne_of_lt (blk_lt (g := gb207) (o := .cells #[.int .i64 t204, .int .i64 t205] 24 (0, 0)) (by (with_reducible repeat ((refine blk_drew ?_))); exact BK207.out)) : gb207 ≠ gb211)); have n9_ := Aside0.mk ((by rw [hg]; exact Nat.ne_of_gt (blk_lt (g := gb207) (o := .cells #[.int .i64 t204, .int .i64 t205] 24 (0, 0)) (by (with_reducible repeat ((refine blk_drew ?_))); exact BK207.out)) : gb211 ≠ gb207)); clear BK197; clear BK207; clear HB; have BK197 := n0_; have BK207 := n1_; have HB := n2_; have BK211 := n3_; have GW211 := n4_; have GE211 := n5_; have NB197_211 := n6_; have NB211_197 := n7_; have NB207_211 := n8_; have NB211_207 := n9_; clear n0_ n1_ n2_ n3_ n4_ n5_ n6_ n7_ n8_ n9_; clear hb hbox hg; have hnb28 := NB211_197.out; have hnc28 := NB197_211.out; have hnb29 := NB211_207.out; have hnc29 := NB207_211.out; have hcz30_0 : w27.cell? ⟨gb211, 0, none⟩ = some (.int .i64 0) := (blk_cell BK211.out 0).trans rfl; have hcz30_1 : w27.cell? ⟨gb211, 1, none⟩ = some (.int .i64 0) := (blk_cell BK211.out 1).trans rfl; have hfz30_0 := blk_frozen BK211.out 0; have hfz30_1 := blk_frozen BK211.out 1; have hcz31_0 : w27.cell? ⟨gb207, 0, none⟩ = some (.int .i64 t204) := (blk_cell BK207.out 0).trans rfl; have hcz31_1 : w27.cell? ⟨gb207, 1, none⟩ = some (.int .i64 t205) := (blk_cell BK207.out 1).trans rfl; have hfz31_0 := blk_frozen BK207.out 0; have hfz31_1 := blk_frozen BK207.out 1) | (go_at_call 13; (with_reducible refine (variorumlaw10_lives.calls  t212 _ A15.out).mono ?_); rintro e w32 ⟨rfl, hb⟩; have n0_ := Aside0.mk (blk_below (g := gb197) (o := .cells #[.int .i64 a3_0, .int .i64 a3_1] 24 (0, 0)) (by (with_reducible repeat ((refine blk_drew ?_))); refine blk_far ?_ NB197_211.out _; (with_reducible repeat ((refine blk_drew ?_))); refine blk_far ?_ NB197_211.out _; (with_reducible repeat ((refine blk_drew ?_))); exact BK197.out) hb); have n1_ := Aside0.mk (blk_below (g := gb207) (o := .cells #[.int .i64 t204, .int .i64 t205] 24 (0, 0)) (by (with_reducible repeat ((refine blk_drew ?_))); refine blk_far ?_ NB207_211.out _; (with_reducible repeat ((refine blk_drew ?_))); refine blk_far ?_ NB207_211.out _; (with_reducible repeat ((refine blk_drew ?_))); exact BK207.out) hb); have n2_ := Aside0.mk (blk_below (g := gb211) (o := .cells #[.int .i64 t208, .int .i64 t209] 24 (0, 0)) (by (with_reducible repeat ((refine blk_drew ?_))); refine blk_put (cs := #[.int .i64 t208, .int .i64 0]) ?_ 1 _ rfl; (with_reducible repeat ((refine blk_drew ?_))); refine blk_put (cs := #[.int .i64 0, .int .i64 0]) ?_ 0 _ rfl; (with_reducible repeat ((refine blk_drew ?_))); exact BK211.out) hb); have n3_ := Aside0.mk (below_step (by repeat ((with_reducible first | exact HB.out | refine below_set ?_ GE211.out))) hb); clear BK197; clear BK207; clear BK211; clear HB; have BK197 := n0_; have BK207 := n1_; have BK211 := n2_; have HB := n3_; clear n0_ n1_ n2_ n3_; (try clear hb); (try clear hb2); (try clear hk); (try clear hi)))
            go_ret
            exact ⟨by (rfl), by repeat ((with_reducible (exact HB.out)))⟩
          · rw [if_neg c14] at H
            have c14b0 : (t206 == t210) = false := by simpa using c14
            (try (have c14b1 : decide (t206 = t210) = false := by simpa using c14))
            (try (have c14b2 : (t206 == t210) = false := by simpa using c14))
            (try (have c14b3 : ¬ (t206 = t210) := by simpa using c14))
            clear c14
            exact absurd (Option.some.inj (show some false = some r from H)) (by rw [HR1_.out]; decide)
        · rw [if_neg c13] at H
          have c13b0 : (t204 == t208 && (t205 == t209)) = false := by simpa using c13
          (try (have c13b1 : decide (t204 = t208 && (t205 == t209)) = false := by simpa using c13))
          (try (have c13b2 : (t204 == t208 && (t205 == t209)) = false := by simpa using c13))
          (try (have c13b3 : ¬ (t204 = t208 && (t205 == t209)) := by simpa using c13))
          clear c13
          exact absurd (Option.some.inj (show some false = some r from H)) (by rw [HR1_.out]; decide)
      · rw [if_neg c12] at H
        have c12b0 : (t201 == t203) = false := by simpa using c12
        (try (have c12b1 : decide (t201 = t203) = false := by simpa using c12))
        (try (have c12b2 : (t201 == t203) = false := by simpa using c12))
        (try (have c12b3 : ¬ (t201 = t203) := by simpa using c12))
        clear c12
        exact absurd (Option.some.inj (show some false = some r from H)) (by rw [HR1_.out]; decide)
    · rw [if_neg c11] at H
      have c11b0 : (t200 == t202) = false := beq_eq_false_iff_ne.mpr c11
      have c11b1 : (t200 != t202) = true := bne_iff_ne.mpr c11
      exact absurd (Option.some.inj (show some false = some r from H)) (by rw [HR1_.out]; decide)
  · replace c6 := Bool.eq_false_iff.mpr c6
    subst c6
    have H1 : ((variorumlaw10_lives.f).bind fun t199 => (some t199)) = some r := by rw [if_neg (show ¬ (false = true) by decide)] at H; exact H
    clear H
    have H := H1
    clear H1
    replace H := Option.bind_eq_some_iff.mp H
    obtain ⟨t199, A950, H⟩ := H
    replace H : (some t199) = some r := H
    have A95 := Aside0.mk A950
    clear A950
    obtain rfl := Option.some.inj H
    go_enter Try.func3, Try.ntmps3
    go_wp2_with (first | ((with_reducible refine gate_dst (N := 7) rfl ?_); refine box_event ?hg (N := 7) ?hd (cs := #[.int .i64 a3_0, .int .i64 a3_1]) (t := 24) ?hr ?_; (case hd => rfl); (case hg => rfl); (case hr => (go_simp; done)); intro gb197 hg w96 hbox hb; have n0_ := Aside0.mk (below_step (by repeat ((with_reducible (exact HB.out)))) hb); have n1_ := Aside0.mk (hbox); have n2_ := Aside0.mk ((by rw [hg]; exact (below_size (by repeat ((with_reducible (exact HB.out))))) : w.heap.size ≤ gb197)); have n3_ := Aside0.mk ((by rw [hg]; exact (below_size (by repeat ((with_reducible (exact HB.out))))) : w.heap.size ≤ gb197)); clear HB; have HB := n0_; have BK197 := n1_; have GW197 := n2_; have GE197 := n3_; clear n0_ n1_ n2_ n3_; clear hb hbox hg) | ((with_reducible refine gate_callee (f := 12) rfl ?_); refine goesL_ (some 18) rfl rfl Try.func12 (by kernel_rfl) rfl #[.slice A0 l0.length c0] rfl (by (try simp only [List.map_toArray, List.map_cons, List.map_nil]); (rfl)) ?_; (with_reducible refine (variorumlaw09_Few.calls k _ _ l0 false _ ?side1 ?side2 A5.out).mono ?_); (case side1 => repeat ((exact (Kd.C_below HR0.out HB.out)))); (case side2 => exact HC0.out); rintro e w97 ⟨rfl, hb⟩; refine ⟨_, rfl, ?_⟩; have n0_ := Aside0.mk (blk_below (g := gb197) (o := .cells #[.int .i64 a3_0, .int .i64 a3_1] 24 (0, 0)) (by (with_reducible repeat ((refine blk_drew ?_))); exact BK197.out) hb); have n1_ := Aside0.mk (below_step (by repeat ((with_reducible (exact HB.out)))) hb); clear BK197; clear HB; have BK197 := n0_; have HB := n1_; clear n0_ n1_; (try clear hb); (try clear hb2); (try clear hk); (try clear hi)) | ((with_reducible refine gate_callee (f := 13) rfl ?_); refine goesL_ (some 20) rfl rfl Try.func13 (by kernel_rfl) rfl #[] rfl (by (try simp only [List.map_toArray, List.map_cons, List.map_nil]); (done)) ?_; (with_reducible refine (variorumlaw10_lives.calls  t199 _ A95.out).mono ?_); rintro e w98 ⟨rfl, hb⟩; refine ⟨_, rfl, ?_⟩; have n0_ := Aside0.mk (blk_below (g := gb197) (o := .cells #[.int .i64 a3_0, .int .i64 a3_1] 24 (0, 0)) (by (with_reducible repeat ((refine blk_drew ?_))); exact BK197.out) hb); have n1_ := Aside0.mk (below_step (by repeat ((with_reducible (exact HB.out)))) hb); clear BK197; clear HB; have BK197 := n0_; have HB := n1_; clear n0_ n1_; (try clear hb); (try clear hb2); (try clear hk); (try clear hi)))
    go_ret
    exact ⟨by (rfl), by repeat ((with_reducible (exact HB.out)))⟩

end Go.Proofs.Ythocalfgeaclgaa.P
end
-- MERGED YthocalfgeaclgaaPlaceTellsL
section
/- The law PlaceTells, over its printed function. -/
namespace Go.Proofs.Ythocalfgeaclgaa.PlaceTellsL
open Go.RowKit Go.Proofs.Ythocalfgeaclgaa.P Go.Proofs.YthocalfgeaclgaaW.PrintWords Go.Proofs.YthocalfgeaclgaaW.PrintLast Go.Proofs.YthocalfgeaclgaaW.PrintMore Go.Proofs.Ythocalfgeaclgaa.EditL Go.Proofs.Ythocalfgeaclgaa.EditK Go.Proofs.Ythocalfgeaclgaa.EditF Go.Proofs.Ythocalfgeaclgaa.EditG Go.Proofs.Ythocalfgeaclgaa.EditH1 Go.Proofs.Ythocalfgeaclgaa.PlaceI Go.Proofs.Ythocalfgeaclgaa.PlaceM Go.Proofs.Ythocalfgeaclgaa.PlaceS Go.Proofs.Ythocalfgeaclgaa.PlaceL Go.Proofs.Ythocalfgeaclgaa.PlaceF Go.Proofs.Ythocalfgeaclgaa.PlaceG
set_option linter.unusedSimpArgs false
set_option linter.unusedVariables false

theorem tells_f (l : List Rn) (n : Int) (b : Bool) (x y : Int) : ∃ k, variorumlaw10_PlaceTells.f k l n b x y = some true := by
  refine ⟨9000, ?_⟩
  unfold variorumlaw10_PlaceTells.f
  obtain ⟨t, h1, h2⟩ := few_f l 9000 (by decide)
  rw [h1, Option.bind_some]
  cases t with
  | false => rw [if_neg Bool.false_ne_true]; exact lives_b
  | true =>
    obtain ⟨hl, hs⟩ := h2 rfl
    rw [if_pos rfl, pmove_f (by omega), Option.bind_some, rmove_f hl hs n b _ (by decide), Option.bind_some, pspan_f (by omega), Option.bind_some, rspan_f hl hs x y _ (by decide), Option.bind_some, if_pos rfl]
    unfold tri
    rw [if_pos (beq_self_eq_true _), if_pos (by rw [beq_self_eq_true, beq_self_eq_true]; rfl), if_pos (beq_self_eq_true _)]
    exact lives_b
theorem two {w : World} {x : Int × Int} {cs : Array Value} (h : (Kd.pair (Kd.int .i64) (Kd.int .i64)).K w x cs.toList) : cs = #[.int .i64 x.1, .int .i64 x.2] := by
  obtain ⟨_, _, he, rfl, rfl⟩ := h
  exact Array.toList_inj.1 he
theorem row (A : Option Addr) (c : Nat) (x : List (Int × ByteArray × Int)) (n : Int) (b : Bool) (cs : Array Value) (s : Int × Int) (w : World) (h : Kd.C (Kd.pair (Kd.int .i64) (Kd.pair Kd.string (Kd.int .i64))) w A x.length x) (hc : x.length ≤ c)
    (hok : x.length ≤ maxLen ∧ ∀ y ∈ x, (fun x : Int × ByteArray × Int => (Lit.int .i64 x.1).wf = true ∧ x.2.1.size ≤ maxLen ∧ (Lit.int .i64 x.2.2).wf = true) y) (hn : (Lit.int .i64 n).wf = true) (hcs : (Kd.pair (Kd.int .i64) (Kd.int .i64)).K w s cs.toList) (hs : (fun x : Int × Int => (Lit.int .i64 x.1).wf = true ∧ (Lit.int .i64 x.2).wf = true) s) :
    Calls Try.prog 3 #[.slice A x.length c, .int .i64 n, .bool b, .agg cs] w fun e w' => e = .returned (.bool true) ∧ Below w.heap.size w w' := by
  have hC : Kd.C k37 w A x.length (x.map LightF.mk) := Maps1.C_map (d := Kd.pair (Kd.int .i64) (Kd.pair Kd.string (Kd.int .i64))) (d' := k37) rfl LightF.mk (fun x cs hx => hx) h
  obtain rfl := two hcs
  obtain ⟨k, hk⟩ := tells_f (x.map LightF.mk) n b s.1 s.2
  have := variorumlaw10_PlaceTells.calls k A c (x.map LightF.mk) n b s.1 s.2 true w (by rw [List.length_map]; exact hC) (by rw [List.length_map]; exact hc) hk rfl
  rw [List.length_map] at this
  exact this
end Go.Proofs.Ythocalfgeaclgaa.PlaceTellsL
end
-- MERGED YthocalfgeaclgaaLawPlaceTells
section
/- Any place, and any span, is behind any edit where the document says, or nowhere: for every edit, place, side and span; no condition. -/
namespace Go.Proofs.Ythocalfgeaclgaa.placeTells
open Go.ChangeShapes Go.WideShapes Go.ChangeAt Go.RowKit Go.Proofs.YthocalfgeaclgaaW.PrintWords
open Go.ChangeMaps (open_string shut_string)
set_option linter.unusedVariables false
theorem own : ownKnob Try.prog.godebug = none := by kernel_rfl
theorem laidOut : laidOutB Try.prog = true := by kernel_rfl
theorem o3 : Opens.Opens Try.prog 3 (Kd.int .i64) (fun n => (Lit.int .i64 n).wf = true) := Opens.int_ (t := 3) Try.underlying3 (by kernel_rfl)
theorem o9 : Opens.Opens Try.prog 9 Kd.string (fun s => s.size ≤ maxLen) := Opens.string_ (t := 9) Try.underlying9 (by kernel_rfl)
theorem o37 : Opens.Opens Try.prog 37 (Kd.pair (Kd.int .i64) (Kd.pair Kd.string (Kd.int .i64))) (fun x => (fun n => (Lit.int .i64 n).wf = true) x.1 ∧ (fun s => s.size ≤ maxLen) x.2.1 ∧ (fun n => (Lit.int .i64 n).wf = true) x.2.2) := Opens.struct3_ (t := 37) Try.underlying37 (by kernel_rfl) o3 o9 o3 rfl rfl rfl
theorem o22 : Opens.Opens Try.prog 22 (Kd.slice 37 (Kd.pair (Kd.int .i64) (Kd.pair Kd.string (Kd.int .i64)))) (fun l => l.length ≤ maxLen ∧ ∀ x ∈ l, (fun x => (fun n => (Lit.int .i64 n).wf = true) x.1 ∧ (fun s => s.size ≤ maxLen) x.2.1 ∧ (fun n => (Lit.int .i64 n).wf = true) x.2.2) x) := Opens.slice_ (t := 22) (e := 37) Try.underlying22 (by kernel_rfl) o37
theorem o24 : Opens.Opens Try.prog 24 (Kd.pair (Kd.int .i64) (Kd.int .i64)) (fun x => (fun n => (Lit.int .i64 n).wf = true) x.1 ∧ (fun n => (Lit.int .i64 n).wf = true) x.2) := Opens.struct2_ (t := 24) Try.underlying24 (by kernel_rfl) o3 o3 rfl rfl
set_option maxRecDepth 100000 in
theorem lifted (os : Os) (started : os.Started) (H : Type) (enc : TypeId × Value → H) :
    ReturnsInHanded {} Try.checked os 3 .any (Rows.placeTellsSpec.pre6 enc Try.prog Try.f3 Rows.placeTellsRow.domain false) (Rows.placeTellsSpec.post enc Try.prog Try.f3 false true false false) := by
  refine returnsInHanded_of_change_sized (C := Try.checked) own started (by kernel_rfl) Try.func3
    (ChangeSpec.witness6 (enc := enc) (C := Try.checked) false ⟨#[], #[(.slice none 0 0), (.int .i64 0), (.bool false), (.agg #[(.int .i64 0), (.int .i64 0)])], []⟩ 8 (by kernel_rfl) (by kernel_rfl) (by kernel_rfl) (by kernel_rfl)) ?_
  intro W base args ds gs before hval0 hW hcnd hsz0 _
  have hsz : (DataW.weightsEach Try.prog (Try.f3.params.toList ++ Rows.placeTellsSpec.plain.varTypes Try.prog) (ds ++ gs)).all (· ≤ reachBytes) = true := hsz0
  have hval : ∀ (j : Nat) t v, Try.f3.params[j]? = some t → args[j]? = some v → Value.okWide Try.prog W .any base t v := hval0
  have hW' := hW
  obtain ⟨p, q, hA0, hV, rfl, hfz, hnd⟩ := hW
  have hA : DataW.TrodAll enc Try.prog W 0 (fun _ => true) true Try.f3.params.toList args.toList ds p := hA0
  rw [Try.params3] at hA hval hsz
  obtain ⟨v0, vs0, d0, ds0, p0, q0, hargs, rfl, rfl, h0, r0⟩ := trodAll_cons hA
  obtain ⟨v1, vs1, d1, ds1, p1, q1, rfl, rfl, rfl, h1, r1⟩ := trodAll_cons r0
  obtain ⟨v2, vs2, d2, ds2, p2, q2, rfl, rfl, rfl, h2, r2⟩ := trodAll_cons r1
  obtain ⟨v3, vs3, d3, ds3, p3, q3, rfl, rfl, rfl, h3, r3⟩ := trodAll_cons r2
  obtain ⟨rfl, rfl, rfl⟩ := trodAll_nil r3
  obtain rfl : args = #[v0, v1, v2, v3] := by cases args; simp_all
  obtain ⟨rfl, rfl⟩ := trodVars_none hV
  obtain ⟨a0, len0, cap0, rfl⟩ := okWide_slice Try.underlying22 (hval 0 22 v0 rfl rfl)
  have k0 := h0
  have lt0 : ∀ x ∈ p0, x.block < W.heap.size := by obtain ⟨m, hm⟩ := k0; exact DataW.trod_lt m _ _ _ hm
  obtain ⟨x0, hK0, ok0⟩ := Opens.arg_ o22 h0
  obtain ⟨rfl, hc0, hC0⟩ := Opens.slice_shape hK0
  obtain ⟨a1, rfl, rfl, rfl, w1⟩ := open_int Try.underlying3 (hval 1 3 v1 rfl rfl) h1
  obtain ⟨a2, rfl, rfl, rfl⟩ := open_bool Try.underlying4 (hval 2 4 v2 rfl rfl) h2
  obtain ⟨cs3, rfl, hcs3⟩ := okWide_struct Try.underlying24 (hval 3 24 v3 rfl rfl)
  have k3 := h3
  have lt3 : ∀ x ∈ p3, x.block < W.heap.size := by obtain ⟨m, hm⟩ := k3; exact DataW.trod_lt m _ _ _ hm
  obtain ⟨x3, hK3, ok3⟩ := Opens.arg_ o24 h3
  clear hA0 hval0 hsz0 hsz
  refine (PlaceTellsL.row a0 cap0 x0 a1 a2 cs3 x3 W hC0 hc0 ok0 w1 hK3 ok3).mono fun e W' ⟨he, bel⟩ => ?_
  subst he
  exact ⟨_, rfl, _, _, _, [], _, [], hW', trodAll_mk1 (shut_bool Try.underlying4 _), (trodAll_cons_mk (Below.trod laidOut (by kernel_rfl) (of_decide_eq_true (by kernel_rfl)) k0 bel lt0) (trodAll_cons_mk (shut_int Try.underlying3 w1) (trodAll_cons_mk (shut_bool Try.underlying4 _) (trodAll_cons_mk (Below.trod laidOut (by kernel_rfl) (of_decide_eq_true (by kernel_rfl)) k3 bel lt3) trodAll_mk0)))), rfl, bel.frame _, fun h => by cases h⟩
theorem over : Rows.placeTellsRow.holds Try.pinned (OpenSpec.ofChange Rows.placeTellsSpec) :=
  OpenClaim.holds_of_wide 3 Try.f3 rfl rfl rfl rfl rfl rfl rfl ⟨rfl, rfl, rfl, rfl, rfl⟩ rfl rfl rfl rfl rfl (by kernel_rfl) Try.func3 (by kernel_rfl)
    (of_decide_eq_true (by kernel_rfl)) (by unfold Func.isWrapper; first | (rw [if_pos (by decide +kernel)]; kernel_rfl) | (rw [if_neg (by decide +kernel)]; exact ⟨rfl, rfl⟩))
    (fun os started H enc _ => lifted os started H enc)
theorem proved : Rows.PlaceTellsSaid := over
#print axioms proved
end Go.Proofs.Ythocalfgeaclgaa.placeTells
namespace Go.Proofs.Ythocalfgeaclgaa
/-- The row, under a short name, for the claim. -/
theorem placeTells_holds : Rows.PlaceTellsSaid := placeTells.proved
end Go.Proofs.Ythocalfgeaclgaa
end

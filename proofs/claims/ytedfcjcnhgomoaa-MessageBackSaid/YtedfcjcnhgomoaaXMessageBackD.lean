/- Shaken: what the claim's theorem needs of our texts, of the printed ones and of the print's words. -/
import Derived.Test.YtedfcjcnhgomoaaXMessageBackC
import Derived.Deep.QuietTactic
import Derived.BigQuiet
import Derived.Outline
import Derived.Maps.AppendAt
import Derived.RangeFuncBox
-- MERGED YtedfcjcnhgomoaaPvariorumref11Same
section
namespace Go.Proofs.Ytedfcjcnhgomoaa.P
open Go.RowKit Go.Proofs.YtedfcjcnhgomoaaW.PrintWords Go.Proofs.YtedfcjcnhgomoaaW.PrintLast Go.Proofs.YtedfcjcnhgomoaaW.PrintMore
attribute [local go_sem] max2_int min2_int max_two min_two max_three min_three max_four min_four   -- for this text's walks alone
set_option linter.unusedVariables false
set_option linter.unusedSimpArgs false
attribute [local go_sem high] eqA104
mutual
def variorumref11_Same.j0 : Nat → Bool → Int → Int → Int → Int → Int → Int → List (S85) → ByteArray → List (S104) → Int → Int → Int → Int → Int → Int → List (S85) → ByteArray → List (S104) → Option (Bool)
 | 0, _, _, _, _, _, _, _, _, _, _, _, _, _, _, _, _, _, _, _ => none
 | k + 1, x69, x352000, x352001, x352002, x352003, x352004, x352005, x352006, x352007, x352008, x353000, x353001, x353002, x353003, x353004, x353005, x353006, x353007, x353008 => if x69 = true then (some false) else (variorumref11_Same.l0 k 0 x352000 x352001 x352002 x352003 x352004 x352005 x352006 x352007 x352008 x353000 x353001 x353002 x353003 x353004 x353005 x353006 x353007 x353008)
def variorumref11_Same.l0 : Nat → Int → Int → Int → Int → Int → Int → Int → List (S85) → ByteArray → List (S104) → Int → Int → Int → Int → Int → Int → List (S85) → ByteArray → List (S104) → Option (Bool)
 | 0, _, _, _, _, _, _, _, _, _, _, _, _, _, _, _, _, _, _, _ => none
 | k + 1, x5, x352000, x352001, x352002, x352003, x352004, x352005, x352006, x352007, x352008, x353000, x353001, x353002, x353003, x353004, x353005, x353006, x353007, x353008 => if x5 < (x352008.length : Int) then (if 0 ≤ x5 then (if x5 < (x353008.length : Int) then (if ((!(((rd_T104 x352008 x5).f0.f0) == ((rd_T104 x353008 x5).f0.f0)) || (!(((rd_T104 x352008 x5).f0.f1) == ((rd_T104 x353008 x5).f0.f1)))) || (!(((rd_T104 x352008 x5).f1) == ((rd_T104 x353008 x5).f1)))) = true then (some false) else (variorumref11_Same.l0 k (wrap64 (x5 + 1)) x352000 x352001 x352002 x352003 x352004 x352005 x352006 x352007 x352008 x353000 x353001 x353002 x353003 x353004 x353005 x353006 x353007 x353008)) else (none)) else (none)) else (some true)
end
def variorumref11_Same.f (k : Nat) (a0_0 : Int) (a0_1 : Int) (a0_2 : Int) (a0_3 : Int) (a0_4 : Int) (a0_5 : Int) (l0_6 : List (S85)) (a0_7 : ByteArray) (l0_8 : List (S104)) (a1_0 : Int) (a1_1 : Int) (a1_2 : Int) (a1_3 : Int) (a1_4 : Int) (a1_5 : Int) (l1_6 : List (S85)) (a1_7 : ByteArray) (l1_8 : List (S104)) : Option (Bool) := if a0_0 = a1_0 then (if a0_1 = a1_1 then (if a0_2 = a1_2 then (if a0_3 = a1_3 then (if a0_4 = a1_4 then (if a0_5 = a1_5 then (if a0_7.toList = a1_7.toList then (if (l0_8.length : Int) = (l1_8.length : Int) then ((variorumref06_Same.f k l0_6 l1_6).bind fun t353 => (variorumref11_Same.j0 k (!t353) a0_0 a0_1 a0_2 a0_3 a0_4 a0_5 l0_6 a0_7 l0_8 a1_0 a1_1 a1_2 a1_3 a1_4 a1_5 l1_6 a1_7 l1_8)) else (variorumref11_Same.j0 k true a0_0 a0_1 a0_2 a0_3 a0_4 a0_5 l0_6 a0_7 l0_8 a1_0 a1_1 a1_2 a1_3 a1_4 a1_5 l1_6 a1_7 l1_8)) else (variorumref11_Same.j0 k true a0_0 a0_1 a0_2 a0_3 a0_4 a0_5 l0_6 a0_7 l0_8 a1_0 a1_1 a1_2 a1_3 a1_4 a1_5 l1_6 a1_7 l1_8)) else (variorumref11_Same.j0 k true a0_0 a0_1 a0_2 a0_3 a0_4 a0_5 l0_6 a0_7 l0_8 a1_0 a1_1 a1_2 a1_3 a1_4 a1_5 l1_6 a1_7 l1_8)) else (variorumref11_Same.j0 k true a0_0 a0_1 a0_2 a0_3 a0_4 a0_5 l0_6 a0_7 l0_8 a1_0 a1_1 a1_2 a1_3 a1_4 a1_5 l1_6 a1_7 l1_8)) else (variorumref11_Same.j0 k true a0_0 a0_1 a0_2 a0_3 a0_4 a0_5 l0_6 a0_7 l0_8 a1_0 a1_1 a1_2 a1_3 a1_4 a1_5 l1_6 a1_7 l1_8)) else (variorumref11_Same.j0 k true a0_0 a0_1 a0_2 a0_3 a0_4 a0_5 l0_6 a0_7 l0_8 a1_0 a1_1 a1_2 a1_3 a1_4 a1_5 l1_6 a1_7 l1_8)) else (variorumref11_Same.j0 k true a0_0 a0_1 a0_2 a0_3 a0_4 a0_5 l0_6 a0_7 l0_8 a1_0 a1_1 a1_2 a1_3 a1_4 a1_5 l1_6 a1_7 l1_8)) else (variorumref11_Same.j0 k true a0_0 a0_1 a0_2 a0_3 a0_4 a0_5 l0_6 a0_7 l0_8 a1_0 a1_1 a1_2 a1_3 a1_4 a1_5 l1_6 a1_7 l1_8)
set_option maxHeartbeats 8000000 in
set_option maxRecDepth 100000 in
theorem variorumref11_Same.calls (k : Nat) (a0_0 : Int) (a0_1 : Int) (a0_2 : Int) (a0_3 : Int) (a0_4 : Int) (a0_5 : Int) (A0_6 : Option Addr) (c0_6 : Nat) (l0_6 : List (S85)) (a0_7 : ByteArray) (A0_8 : Option Addr) (c0_8 : Nat) (l0_8 : List (S104)) (a1_0 : Int) (a1_1 : Int) (a1_2 : Int) (a1_3 : Int) (a1_4 : Int) (a1_5 : Int) (A1_6 : Option Addr) (c1_6 : Nat) (l1_6 : List (S85)) (a1_7 : ByteArray) (A1_8 : Option Addr) (c1_8 : Nat) (l1_8 : List (S104)) (r : Bool) (w : World) (hr0_6 : Kd.C k85 w A0_6 l0_6.length l0_6) (hc0_6 : l0_6.length ≤ c0_6) (hr0_8 : Kd.C k104 w A0_8 l0_8.length l0_8) (hc0_8 : l0_8.length ≤ c0_8) (hr1_6 : Kd.C k85 w A1_6 l1_6.length l1_6) (hc1_6 : l1_6.length ≤ c1_6) (hr1_8 : Kd.C k104 w A1_8 l1_8.length l1_8) (hc1_8 : l1_8.length ≤ c1_8) (h : variorumref11_Same.f k a0_0 a0_1 a0_2 a0_3 a0_4 a0_5 l0_6 a0_7 l0_8 a1_0 a1_1 a1_2 a1_3 a1_4 a1_5 l1_6 a1_7 l1_8 = some r) :
  Calls Try.prog 26 #[.agg #[.int .i64 a0_0, .int .i64 a0_1, .int .i64 a0_2, .int .i64 a0_3, .int .i64 a0_4, .int .i64 a0_5, .slice A0_6 l0_6.length c0_6, .string a0_7, .slice A0_8 l0_8.length c0_8], .agg #[.int .i64 a1_0, .int .i64 a1_1, .int .i64 a1_2, .int .i64 a1_3, .int .i64 a1_4, .int .i64 a1_5, .slice A1_6 l1_6.length c1_6, .string a1_7, .slice A1_8 l1_8.length c1_8]] w fun e w' => e = .returned (.bool r) ∧ Below w.heap.size w w' := by
 have hu44 := Try.underlying44
 have hu104 := Try.underlying104
 have HR0_6 := Aside0.mk hr0_6
 have HC0_6 := Aside0.mk hc0_6
 clear hr0_6 hc0_6
 have HR0_8 := Aside0.mk hr0_8
 have HC0_8 := Aside0.mk hc0_8
 clear hr0_8 hc0_8
 have HR1_6 := Aside0.mk hr1_6
 have HC1_6 := Aside0.mk hc1_6
 clear hr1_6 hc1_6
 have HR1_8 := Aside0.mk hr1_8
 have HC1_8 := Aside0.mk hc1_8
 clear hr1_8 hc1_8
 have HB := Aside0.mk (Below.refl w.heap.size w)
 have H : (if a0_0 = a1_0 then (if a0_1 = a1_1 then (if a0_2 = a1_2 then (if a0_3 = a1_3 then (if a0_4 = a1_4 then (if a0_5 = a1_5 then (if a0_7.toList = a1_7.toList then (if (l0_8.length : Int) = (l1_8.length : Int) then ((variorumref06_Same.f k l0_6 l1_6).bind fun t353 => (variorumref11_Same.j0 k (!t353) a0_0 a0_1 a0_2 a0_3 a0_4 a0_5 l0_6 a0_7 l0_8 a1_0 a1_1 a1_2 a1_3 a1_4 a1_5 l1_6 a1_7 l1_8)) else (variorumref11_Same.j0 k true a0_0 a0_1 a0_2 a0_3 a0_4 a0_5 l0_6 a0_7 l0_8 a1_0 a1_1 a1_2 a1_3 a1_4 a1_5 l1_6 a1_7 l1_8)) else (variorumref11_Same.j0 k true a0_0 a0_1 a0_2 a0_3 a0_4 a0_5 l0_6 a0_7 l0_8 a1_0 a1_1 a1_2 a1_3 a1_4 a1_5 l1_6 a1_7 l1_8)) else (variorumref11_Same.j0 k true a0_0 a0_1 a0_2 a0_3 a0_4 a0_5 l0_6 a0_7 l0_8 a1_0 a1_1 a1_2 a1_3 a1_4 a1_5 l1_6 a1_7 l1_8)) else (variorumref11_Same.j0 k true a0_0 a0_1 a0_2 a0_3 a0_4 a0_5 l0_6 a0_7 l0_8 a1_0 a1_1 a1_2 a1_3 a1_4 a1_5 l1_6 a1_7 l1_8)) else (variorumref11_Same.j0 k true a0_0 a0_1 a0_2 a0_3 a0_4 a0_5 l0_6 a0_7 l0_8 a1_0 a1_1 a1_2 a1_3 a1_4 a1_5 l1_6 a1_7 l1_8)) else (variorumref11_Same.j0 k true a0_0 a0_1 a0_2 a0_3 a0_4 a0_5 l0_6 a0_7 l0_8 a1_0 a1_1 a1_2 a1_3 a1_4 a1_5 l1_6 a1_7 l1_8)) else (variorumref11_Same.j0 k true a0_0 a0_1 a0_2 a0_3 a0_4 a0_5 l0_6 a0_7 l0_8 a1_0 a1_1 a1_2 a1_3 a1_4 a1_5 l1_6 a1_7 l1_8)) else (variorumref11_Same.j0 k true a0_0 a0_1 a0_2 a0_3 a0_4 a0_5 l0_6 a0_7 l0_8 a1_0 a1_1 a1_2 a1_3 a1_4 a1_5 l1_6 a1_7 l1_8)) = some r := h
 clear h
 have HC3 := Aside0.mk H
 clear H
 go_enter Try.func26, Try.ntmps26
 go_upto_region 1 with (first | ((with_reducible refine gate_dst (N := 2) rfl ?_); (try (refine gate_guard (by rfl) ?_; dsimp only)); refine box_event ?hg (N := 2) ?hd (cs := #[.int .i64 a0_0, .int .i64 a0_1, .int .i64 a0_2, .int .i64 a0_3, .int .i64 a0_4, .int .i64 a0_5, .slice A0_6 l0_6.length c0_6, .string a0_7, .slice A0_8 l0_8.length c0_8]) (t := 44) ?hr ?_; (case hd => rfl); (case hg => rfl); (case hr => (go_simp; done)); intro gb351 hg w4 hbox hb; have n0_ := Aside0.mk (below_step (by repeat ((with_reducible (exact HB.out)))) hb); have n1_ := Aside0.mk (hbox); have n2_ := Aside0.mk ((by rw [hg]; exact (below_size (by repeat ((with_reducible (exact HB.out))))) : w.heap.size ≤ gb351)); have n3_ := Aside0.mk ((by rw [hg]; exact (below_size (by repeat ((with_reducible (exact HB.out))))) : w.heap.size ≤ gb351)); clear HB; have HB := n0_; have BK351 := n1_; have GW351 := n2_; have GE351 := n3_; clear n0_ n1_ n2_ n3_; clear hb hbox hg) | ((with_reducible refine gate_dst (N := 3) rfl ?_); (try (refine gate_guard (by rfl) ?_; dsimp only)); refine box_event ?hg (N := 3) ?hd (cs := #[.int .i64 a1_0, .int .i64 a1_1, .int .i64 a1_2, .int .i64 a1_3, .int .i64 a1_4, .int .i64 a1_5, .slice A1_6 l1_6.length c1_6, .string a1_7, .slice A1_8 l1_8.length c1_8]) (t := 44) ?hr ?_; (case hd => rfl); (case hg => rfl); (case hr => (go_simp; done)); intro gb352 hg w5 hbox hb; have n0_ := Aside0.mk (blk_below (g := gb351) (o := .cells #[.int .i64 a0_0, .int .i64 a0_1, .int .i64 a0_2, .int .i64 a0_3, .int .i64 a0_4, .int .i64 a0_5, .slice A0_6 l0_6.length c0_6, .string a0_7, .slice A0_8 l0_8.length c0_8] 44 (0, 0)) (by (with_reducible repeat ((refine blk_drew ?_))); exact BK351.out) hb); have n1_ := Aside0.mk (below_step (by repeat ((with_reducible (exact HB.out)))) hb); have n2_ := Aside0.mk (hbox); have n3_ := Aside0.mk ((by rw [hg]; exact (below_size (by repeat ((with_reducible (exact HB.out))))) : w.heap.size ≤ gb352)); have n4_ := Aside0.mk ((by rw [hg]; exact (below_size (by repeat ((with_reducible (exact HB.out))))) : w.heap.size ≤ gb352)); have n5_ := Aside0.mk ((by rw [hg]; exact Nat.ne_of_lt (blk_lt (g := gb351) (o := .cells #[.int .i64 a0_0, .int .i64 a0_1, .int .i64 a0_2, .int .i64 a0_3, .int .i64 a0_4, .int .i64 a0_5, .slice A0_6 l0_6.length c0_6, .string a0_7, .slice A0_8 l0_8.length c0_8] 44 (0, 0)) (by (with_reducible repeat ((refine blk_drew ?_))); exact BK351.out)) : gb351 ≠ gb352)); have n6_ := Aside0.mk ((by rw [hg]; exact Nat.ne_of_gt (blk_lt (g := gb351) (o := .cells #[.int .i64 a0_0, .int .i64 a0_1, .int .i64 a0_2, .int .i64 a0_3, .int .i64 a0_4, .int .i64 a0_5, .slice A0_6 l0_6.length c0_6, .string a0_7, .slice A0_8 l0_8.length c0_8] 44 (0, 0)) (by (with_reducible repeat ((refine blk_drew ?_))); exact BK351.out)) : gb352 ≠ gb351)); clear BK351; clear HB; have BK351 := n0_; have HB := n1_; have BK352 := n2_; have GW352 := n3_; have GE352 := n4_; have NB351_352 := n5_; have NB352_351 := n6_; clear n0_ n1_ n2_ n3_ n4_ n5_ n6_; clear hb hbox hg))
 repeat (go_quiet (((with_reducible refine gate_dst (N := 2) rfl ?_); (try (refine gate_guard (by rfl) ?_; dsimp only)); refine box_event ?hg (N := 2) ?hd (cs := #[.int .i64 a0_0, .int .i64 a0_1, .int .i64 a0_2, .int .i64 a0_3, .int .i64 a0_4, .int .i64 a0_5, .slice A0_6 l0_6.length c0_6, .string a0_7, .slice A0_8 l0_8.length c0_8]) (t := 44) ?hr ?_; (case hd => rfl); (case hg => rfl); (case hr => (go_simp; rfl)); intro gb351 hg w4 hbox hb; have n0_ := Aside0.mk (below_step (by repeat ((exact HB.out))) hb); have n1_ := Aside0.mk (hbox); have n2_ := Aside0.mk ((by rw [hg]; exact (below_size (by repeat ((exact HB.out)))) : w.heap.size ≤ gb351)); have n3_ := Aside0.mk ((by rw [hg]; exact (below_size (by repeat ((exact HB.out)))) : w.heap.size ≤ gb351)); clear HB; have HB := n0_; have BK351 := n1_; have GW351 := n2_; have GE351 := n3_; clear n0_ n1_ n2_ n3_; clear hb hbox hg)); go_upto_region 1 with (((with_reducible refine gate_dst (N := 2) rfl ?_); (try (refine gate_guard (by rfl) ?_; dsimp only)); refine box_event ?hg (N := 2) ?hd (cs := #[.int .i64 a0_0, .int .i64 a0_1, .int .i64 a0_2, .int .i64 a0_3, .int .i64 a0_4, .int .i64 a0_5, .slice A0_6 l0_6.length c0_6, .string a0_7, .slice A0_8 l0_8.length c0_8]) (t := 44) ?hr ?_; (case hd => rfl); (case hg => rfl); (case hr => (go_simp; rfl)); intro gb351 hg w4 hbox hb; have n0_ := Aside0.mk (below_step (by repeat ((exact HB.out))) hb); have n1_ := Aside0.mk (hbox); have n2_ := Aside0.mk ((by rw [hg]; exact (below_size (by repeat ((exact HB.out)))) : w.heap.size ≤ gb351)); have n3_ := Aside0.mk ((by rw [hg]; exact (below_size (by repeat ((exact HB.out)))) : w.heap.size ≤ gb351)); clear HB; have HB := n0_; have BK351 := n1_; have GW351 := n2_; have GE351 := n3_; clear n0_ n1_ n2_ n3_; clear hb hbox hg)))
 (try simp only [Act.put, List.setIfInBounds_toArray, List.set_cons_zero, List.set_cons_succ])
 go_cut [69] (fun v69 wc => ∃ (kq : Nat) (x69_2 : Bool), v69 = .bool x69_2 ∧ Aside0 (variorumref11_Same.j0 kq x69_2 a0_0 a0_1 a0_2 a0_3 a0_4 a0_5 l0_6 a0_7 l0_8 a1_0 a1_1 a1_2 a1_3 a1_4 a1_5 l1_6 a1_7 l1_8 = some r) ∧ Aside0 (kq ≤ k) ∧ Aside0 (wc.heap[gb351]? = some (.cells #[.int .i64 a0_0, .int .i64 a0_1, .int .i64 a0_2, .int .i64 a0_3, .int .i64 a0_4, .int .i64 a0_5, (.slice A0_6 l0_6.length c0_6), .string a0_7, (.slice A0_8 l0_8.length c0_8)] 44 (0, 0))) ∧ Aside0 (wc.heap[gb352]? = some (.cells #[.int .i64 a1_0, .int .i64 a1_1, .int .i64 a1_2, .int .i64 a1_3, .int .i64 a1_4, .int .i64 a1_5, (.slice A1_6 l1_6.length c1_6), .string a1_7, (.slice A1_8 l1_8.length c1_8)] 44 (0, 0))) ∧ Aside0 (Below w.heap.size w wc))
 case first =>
  have H := HC3.out
  clear HC3
  by_cases c6 : a0_0 = a1_0
  ·rw [if_pos c6] at H
   have c6b0 : (a0_0 == a1_0) = true := beq_iff_eq.mpr c6
   have c6b1 : (a0_0 != a1_0) = false := bne_eq_false_iff_eq.mpr c6
   clear c6
   ((skip))
   by_cases c7 : a0_1 = a1_1
   ·rw [if_pos c7] at H
    have c7b0 : (a0_1 == a1_1) = true := beq_iff_eq.mpr c7
    have c7b1 : (a0_1 != a1_1) = false := bne_eq_false_iff_eq.mpr c7
    clear c7
    by_cases c8 : a0_2 = a1_2
    ·rw [if_pos c8] at H
     have c8b0 : (a0_2 == a1_2) = true := beq_iff_eq.mpr c8
     have c8b1 : (a0_2 != a1_2) = false := bne_eq_false_iff_eq.mpr c8
     clear c8
     by_cases c9 : a0_3 = a1_3
     ·rw [if_pos c9] at H
      have c9b0 : (a0_3 == a1_3) = true := beq_iff_eq.mpr c9
      have c9b1 : (a0_3 != a1_3) = false := bne_eq_false_iff_eq.mpr c9
      clear c9
      by_cases c10 : a0_4 = a1_4
      ·rw [if_pos c10] at H
       have c10b0 : (a0_4 == a1_4) = true := beq_iff_eq.mpr c10
       have c10b1 : (a0_4 != a1_4) = false := bne_eq_false_iff_eq.mpr c10
       clear c10
       by_cases c11 : a0_5 = a1_5
       ·rw [if_pos c11] at H
        have c11b0 : (a0_5 == a1_5) = true := beq_iff_eq.mpr c11
        have c11b1 : (a0_5 != a1_5) = false := bne_eq_false_iff_eq.mpr c11
        clear c11
        by_cases c12 : a0_7.toList = a1_7.toList
        ·rw [if_pos c12] at H
         have c12b0 : (a0_7.toList == a1_7.toList) = true := beq_iff_eq.mpr c12
         have c12b1 : (a0_7.toList != a1_7.toList) = false := bne_eq_false_iff_eq.mpr c12
         clear c12
         by_cases c13 : (l0_8.length : Int) = (l1_8.length : Int)
         ·rw [if_pos c13] at H
          have c13b0 : ((l0_8.length : Int) == (l1_8.length : Int)) = true := beq_iff_eq.mpr c13
          have c13b1 : ((l0_8.length : Int) != (l1_8.length : Int)) = false := bne_eq_false_iff_eq.mpr c13
          have c13b2 : (l0_8.length == l1_8.length) = true := by (simp at c13 ⊢; omega)
          clear c13
          replace H := Option.bind_eq_some_iff.mp H
          obtain ⟨t353, A140, H⟩ := H
          replace H : (variorumref11_Same.j0 k (!t353) a0_0 a0_1 a0_2 a0_3 a0_4 a0_5 l0_6 a0_7 l0_8 a1_0 a1_1 a1_2 a1_3 a1_4 a1_5 l1_6 a1_7 l1_8) = some r := H
          have A14 := Aside0.mk A140
          clear A140
          have H' := Aside0.mk H
          clear H
          have hnb15 := NB351_352.out
          have hnc15 := NB352_351.out
          have hcz16_0 : w5.cell? ⟨gb351, 0, none⟩ = some (.int .i64 a0_0) := (blk_cell BK351.out 0).trans rfl
          have hcz16_1 : w5.cell? ⟨gb351, 1, none⟩ = some (.int .i64 a0_1) := (blk_cell BK351.out 1).trans rfl
          have hcz16_2 : w5.cell? ⟨gb351, 2, none⟩ = some (.int .i64 a0_2) := (blk_cell BK351.out 2).trans rfl
          have hcz16_3 : w5.cell? ⟨gb351, 3, none⟩ = some (.int .i64 a0_3) := (blk_cell BK351.out 3).trans rfl
          have hcz16_4 : w5.cell? ⟨gb351, 4, none⟩ = some (.int .i64 a0_4) := (blk_cell BK351.out 4).trans rfl
          have hcz16_5 : w5.cell? ⟨gb351, 5, none⟩ = some (.int .i64 a0_5) := (blk_cell BK351.out 5).trans rfl
          have hcz16_6 : w5.cell? ⟨gb351, 6, none⟩ = some (.slice A0_6 l0_6.length c0_6) := (blk_cell BK351.out 6).trans rfl
          have hcz16_7 : w5.cell? ⟨gb351, 7, none⟩ = some (.string a0_7) := (blk_cell BK351.out 7).trans rfl
          have hcz16_8 : w5.cell? ⟨gb351, 8, none⟩ = some (.slice A0_8 l0_8.length c0_8) := (blk_cell BK351.out 8).trans rfl
          have hfz16_0 := blk_frozen BK351.out 0
          have hfz16_1 := blk_frozen BK351.out 1
          have hfz16_2 := blk_frozen BK351.out 2
          have hfz16_3 := blk_frozen BK351.out 3
          have hfz16_4 := blk_frozen BK351.out 4
          have hfz16_5 := blk_frozen BK351.out 5
          have hfz16_6 := blk_frozen BK351.out 6
          have hfz16_7 := blk_frozen BK351.out 7
          have hfz16_8 := blk_frozen BK351.out 8
          have hcz17_0 : w5.cell? ⟨gb352, 0, none⟩ = some (.int .i64 a1_0) := (blk_cell BK352.out 0).trans rfl
          have hcz17_1 : w5.cell? ⟨gb352, 1, none⟩ = some (.int .i64 a1_1) := (blk_cell BK352.out 1).trans rfl
          have hcz17_2 : w5.cell? ⟨gb352, 2, none⟩ = some (.int .i64 a1_2) := (blk_cell BK352.out 2).trans rfl
          have hcz17_3 : w5.cell? ⟨gb352, 3, none⟩ = some (.int .i64 a1_3) := (blk_cell BK352.out 3).trans rfl
          have hcz17_4 : w5.cell? ⟨gb352, 4, none⟩ = some (.int .i64 a1_4) := (blk_cell BK352.out 4).trans rfl
          have hcz17_5 : w5.cell? ⟨gb352, 5, none⟩ = some (.int .i64 a1_5) := (blk_cell BK352.out 5).trans rfl
          have hcz17_6 : w5.cell? ⟨gb352, 6, none⟩ = some (.slice A1_6 l1_6.length c1_6) := (blk_cell BK352.out 6).trans rfl
          have hcz17_7 : w5.cell? ⟨gb352, 7, none⟩ = some (.string a1_7) := (blk_cell BK352.out 7).trans rfl
          have hcz17_8 : w5.cell? ⟨gb352, 8, none⟩ = some (.slice A1_8 l1_8.length c1_8) := (blk_cell BK352.out 8).trans rfl
          have hfz17_0 := blk_frozen BK352.out 0
          have hfz17_1 := blk_frozen BK352.out 1
          have hfz17_2 := blk_frozen BK352.out 2
          have hfz17_3 := blk_frozen BK352.out 3
          have hfz17_4 := blk_frozen BK352.out 4
          have hfz17_5 := blk_frozen BK352.out 5
          have hfz17_6 := blk_frozen BK352.out 6
          have hfz17_7 := blk_frozen BK352.out 7
          have hfz17_8 := blk_frozen BK352.out 8
          go_wp2_with (first | (go_at_call 73; (with_reducible refine (variorumref06_Same.calls k _ _ l0_6 _ _ l1_6 t353 _ ?side1 ?side2 ?side3 ?side4 A14.out).mono ?_); (case side1 => repeat ((exact (Kd.C_below HR0_6.out HB.out)))); (case side2 => exact HC0_6.out); (case side3 => repeat ((exact (Kd.C_below HR1_6.out HB.out)))); (case side4 => exact HC1_6.out); rintro e w' ⟨rfl, ⟨nd, rfl⟩⟩; (try (exact ⟨rfl, _, World.drewN_drewN _ _ _⟩))))
          repeat (go_quiet (first | (go_at_call 73; (with_reducible refine (variorumref06_Same.calls k _ _ l0_6 _ _ l1_6 t353 _ ?side1 ?side2 ?side3 ?side4 A14.out).mono ?_); (case side1 => repeat ((exact (Kd.C_below HR0_6.out HB.out)))); (case side2 => exact HC0_6.out); (case side3 => repeat ((exact (Kd.C_below HR1_6.out HB.out)))); (case side4 => exact HC1_6.out); rintro e w' ⟨rfl, ⟨nd, rfl⟩⟩; (try (exact ⟨rfl, _, World.drewN_drewN _ _ _⟩)))); try go_wp2_with (first | (go_at_call 73; (with_reducible refine (variorumref06_Same.calls k _ _ l0_6 _ _ l1_6 t353 _ ?side1 ?side2 ?side3 ?side4 A14.out).mono ?_); (case side1 => repeat ((exact (Kd.C_below HR0_6.out HB.out)))); (case side2 => exact HC0_6.out); (case side3 => repeat ((exact (Kd.C_below HR1_6.out HB.out)))); (case side4 => exact HC1_6.out); rintro e w' ⟨rfl, ⟨nd, rfl⟩⟩; (try (exact ⟨rfl, _, World.drewN_drewN _ _ _⟩)))))
          go_meet
          case rel => exact ⟨_, (!t353), (by (rfl)), H', ⟨by (omega)⟩, ⟨by (with_reducible repeat ((refine blk_drewN ?_ _))); exact BK351.out⟩, ⟨by (with_reducible repeat ((refine blk_drewN ?_ _))); exact BK352.out⟩, ⟨by repeat ((with_reducible first | exact HB.out | apply pw_below_drewN))⟩⟩
         ·rw [if_neg c13] at H
          have c13b0 : ((l0_8.length : Int) == (l1_8.length : Int)) = false := beq_eq_false_iff_ne.mpr c13
          have c13b1 : ((l0_8.length : Int) != (l1_8.length : Int)) = true := bne_iff_ne.mpr c13
          have c13b2 : (l0_8.length == l1_8.length) = false := by (simp at c13 ⊢; omega)
          have H' := Aside0.mk H
          clear H
          have hnb18 := NB351_352.out
          have hnc18 := NB352_351.out
          have hcz19_0 : w5.cell? ⟨gb351, 0, none⟩ = some (.int .i64 a0_0) := (blk_cell BK351.out 0).trans rfl
          have hcz19_1 : w5.cell? ⟨gb351, 1, none⟩ = some (.int .i64 a0_1) := (blk_cell BK351.out 1).trans rfl
          have hcz19_2 : w5.cell? ⟨gb351, 2, none⟩ = some (.int .i64 a0_2) := (blk_cell BK351.out 2).trans rfl
          have hcz19_3 : w5.cell? ⟨gb351, 3, none⟩ = some (.int .i64 a0_3) := (blk_cell BK351.out 3).trans rfl
          have hcz19_4 : w5.cell? ⟨gb351, 4, none⟩ = some (.int .i64 a0_4) := (blk_cell BK351.out 4).trans rfl
          have hcz19_5 : w5.cell? ⟨gb351, 5, none⟩ = some (.int .i64 a0_5) := (blk_cell BK351.out 5).trans rfl
          have hcz19_6 : w5.cell? ⟨gb351, 6, none⟩ = some (.slice A0_6 l0_6.length c0_6) := (blk_cell BK351.out 6).trans rfl
          have hcz19_7 : w5.cell? ⟨gb351, 7, none⟩ = some (.string a0_7) := (blk_cell BK351.out 7).trans rfl
          have hcz19_8 : w5.cell? ⟨gb351, 8, none⟩ = some (.slice A0_8 l0_8.length c0_8) := (blk_cell BK351.out 8).trans rfl
          have hfz19_0 := blk_frozen BK351.out 0
          have hfz19_1 := blk_frozen BK351.out 1
          have hfz19_2 := blk_frozen BK351.out 2
          have hfz19_3 := blk_frozen BK351.out 3
          have hfz19_4 := blk_frozen BK351.out 4
          have hfz19_5 := blk_frozen BK351.out 5
          have hfz19_6 := blk_frozen BK351.out 6
          have hfz19_7 := blk_frozen BK351.out 7
          have hfz19_8 := blk_frozen BK351.out 8
          have hcz20_0 : w5.cell? ⟨gb352, 0, none⟩ = some (.int .i64 a1_0) := (blk_cell BK352.out 0).trans rfl
          have hcz20_1 : w5.cell? ⟨gb352, 1, none⟩ = some (.int .i64 a1_1) := (blk_cell BK352.out 1).trans rfl
          have hcz20_2 : w5.cell? ⟨gb352, 2, none⟩ = some (.int .i64 a1_2) := (blk_cell BK352.out 2).trans rfl
          have hcz20_3 : w5.cell? ⟨gb352, 3, none⟩ = some (.int .i64 a1_3) := (blk_cell BK352.out 3).trans rfl
          have hcz20_4 : w5.cell? ⟨gb352, 4, none⟩ = some (.int .i64 a1_4) := (blk_cell BK352.out 4).trans rfl
          have hcz20_5 : w5.cell? ⟨gb352, 5, none⟩ = some (.int .i64 a1_5) := (blk_cell BK352.out 5).trans rfl
          have hcz20_6 : w5.cell? ⟨gb352, 6, none⟩ = some (.slice A1_6 l1_6.length c1_6) := (blk_cell BK352.out 6).trans rfl
          have hcz20_7 : w5.cell? ⟨gb352, 7, none⟩ = some (.string a1_7) := (blk_cell BK352.out 7).trans rfl
          have hcz20_8 : w5.cell? ⟨gb352, 8, none⟩ = some (.slice A1_8 l1_8.length c1_8) := (blk_cell BK352.out 8).trans rfl
          have hfz20_0 := blk_frozen BK352.out 0
          have hfz20_1 := blk_frozen BK352.out 1
          have hfz20_2 := blk_frozen BK352.out 2
          have hfz20_3 := blk_frozen BK352.out 3
          have hfz20_4 := blk_frozen BK352.out 4
          have hfz20_5 := blk_frozen BK352.out 5
          have hfz20_6 := blk_frozen BK352.out 6
          have hfz20_7 := blk_frozen BK352.out 7
          have hfz20_8 := blk_frozen BK352.out 8
          go_wp2
          repeat (go_quiet (fail); try go_wp2)
          go_meet
          case rel => exact ⟨_, (true), (by (rfl)), H', ⟨by (omega)⟩, ⟨by (with_reducible repeat ((refine blk_drew ?_))); exact BK351.out⟩, ⟨by (with_reducible repeat ((refine blk_drew ?_))); exact BK352.out⟩, ⟨by repeat ((with_reducible (exact HB.out)))⟩⟩
        ·rw [if_neg c12] at H
         have c12b0 : (a0_7.toList == a1_7.toList) = false := beq_eq_false_iff_ne.mpr c12
         have c12b1 : (a0_7.toList != a1_7.toList) = true := bne_iff_ne.mpr c12
         have H' := Aside0.mk H
         clear H
         have hnb21 := NB351_352.out
         have hnc21 := NB352_351.out
         have hcz22_0 : w5.cell? ⟨gb351, 0, none⟩ = some (.int .i64 a0_0) := (blk_cell BK351.out 0).trans rfl
         have hcz22_1 : w5.cell? ⟨gb351, 1, none⟩ = some (.int .i64 a0_1) := (blk_cell BK351.out 1).trans rfl
         have hcz22_2 : w5.cell? ⟨gb351, 2, none⟩ = some (.int .i64 a0_2) := (blk_cell BK351.out 2).trans rfl
         have hcz22_3 : w5.cell? ⟨gb351, 3, none⟩ = some (.int .i64 a0_3) := (blk_cell BK351.out 3).trans rfl
         have hcz22_4 : w5.cell? ⟨gb351, 4, none⟩ = some (.int .i64 a0_4) := (blk_cell BK351.out 4).trans rfl
         have hcz22_5 : w5.cell? ⟨gb351, 5, none⟩ = some (.int .i64 a0_5) := (blk_cell BK351.out 5).trans rfl
         have hcz22_6 : w5.cell? ⟨gb351, 6, none⟩ = some (.slice A0_6 l0_6.length c0_6) := (blk_cell BK351.out 6).trans rfl
         have hcz22_7 : w5.cell? ⟨gb351, 7, none⟩ = some (.string a0_7) := (blk_cell BK351.out 7).trans rfl
         have hcz22_8 : w5.cell? ⟨gb351, 8, none⟩ = some (.slice A0_8 l0_8.length c0_8) := (blk_cell BK351.out 8).trans rfl
         have hfz22_0 := blk_frozen BK351.out 0
         have hfz22_1 := blk_frozen BK351.out 1
         have hfz22_2 := blk_frozen BK351.out 2
         have hfz22_3 := blk_frozen BK351.out 3
         have hfz22_4 := blk_frozen BK351.out 4
         have hfz22_5 := blk_frozen BK351.out 5
         have hfz22_6 := blk_frozen BK351.out 6
         have hfz22_7 := blk_frozen BK351.out 7
         have hfz22_8 := blk_frozen BK351.out 8
         have hcz23_0 : w5.cell? ⟨gb352, 0, none⟩ = some (.int .i64 a1_0) := (blk_cell BK352.out 0).trans rfl
         have hcz23_1 : w5.cell? ⟨gb352, 1, none⟩ = some (.int .i64 a1_1) := (blk_cell BK352.out 1).trans rfl
         have hcz23_2 : w5.cell? ⟨gb352, 2, none⟩ = some (.int .i64 a1_2) := (blk_cell BK352.out 2).trans rfl
         have hcz23_3 : w5.cell? ⟨gb352, 3, none⟩ = some (.int .i64 a1_3) := (blk_cell BK352.out 3).trans rfl
         have hcz23_4 : w5.cell? ⟨gb352, 4, none⟩ = some (.int .i64 a1_4) := (blk_cell BK352.out 4).trans rfl
         have hcz23_5 : w5.cell? ⟨gb352, 5, none⟩ = some (.int .i64 a1_5) := (blk_cell BK352.out 5).trans rfl
         have hcz23_6 : w5.cell? ⟨gb352, 6, none⟩ = some (.slice A1_6 l1_6.length c1_6) := (blk_cell BK352.out 6).trans rfl
         have hcz23_7 : w5.cell? ⟨gb352, 7, none⟩ = some (.string a1_7) := (blk_cell BK352.out 7).trans rfl
         have hcz23_8 : w5.cell? ⟨gb352, 8, none⟩ = some (.slice A1_8 l1_8.length c1_8) := (blk_cell BK352.out 8).trans rfl
         have hfz23_0 := blk_frozen BK352.out 0
         have hfz23_1 := blk_frozen BK352.out 1
         have hfz23_2 := blk_frozen BK352.out 2
         have hfz23_3 := blk_frozen BK352.out 3
         have hfz23_4 := blk_frozen BK352.out 4
         have hfz23_5 := blk_frozen BK352.out 5
         have hfz23_6 := blk_frozen BK352.out 6
         have hfz23_7 := blk_frozen BK352.out 7
         have hfz23_8 := blk_frozen BK352.out 8
         go_wp2
         repeat (go_quiet (fail); try go_wp2)
         go_meet
         case rel => exact ⟨_, (true), (by (rfl)), H', ⟨by (omega)⟩, ⟨by (with_reducible repeat ((refine blk_drew ?_))); exact BK351.out⟩, ⟨by (with_reducible repeat ((refine blk_drew ?_))); exact BK352.out⟩, ⟨by repeat ((with_reducible (exact HB.out)))⟩⟩
       ·rw [if_neg c11] at H
        have c11b0 : (a0_5 == a1_5) = false := beq_eq_false_iff_ne.mpr c11
        have c11b1 : (a0_5 != a1_5) = true := bne_iff_ne.mpr c11
        have H' := Aside0.mk H
        clear H
        have hnb24 := NB351_352.out
        have hnc24 := NB352_351.out
        have hcz25_0 : w5.cell? ⟨gb351, 0, none⟩ = some (.int .i64 a0_0) := (blk_cell BK351.out 0).trans rfl
        have hcz25_1 : w5.cell? ⟨gb351, 1, none⟩ = some (.int .i64 a0_1) := (blk_cell BK351.out 1).trans rfl
        have hcz25_2 : w5.cell? ⟨gb351, 2, none⟩ = some (.int .i64 a0_2) := (blk_cell BK351.out 2).trans rfl
        have hcz25_3 : w5.cell? ⟨gb351, 3, none⟩ = some (.int .i64 a0_3) := (blk_cell BK351.out 3).trans rfl
        have hcz25_4 : w5.cell? ⟨gb351, 4, none⟩ = some (.int .i64 a0_4) := (blk_cell BK351.out 4).trans rfl
        have hcz25_5 : w5.cell? ⟨gb351, 5, none⟩ = some (.int .i64 a0_5) := (blk_cell BK351.out 5).trans rfl
        have hcz25_6 : w5.cell? ⟨gb351, 6, none⟩ = some (.slice A0_6 l0_6.length c0_6) := (blk_cell BK351.out 6).trans rfl
        have hcz25_7 : w5.cell? ⟨gb351, 7, none⟩ = some (.string a0_7) := (blk_cell BK351.out 7).trans rfl
        have hcz25_8 : w5.cell? ⟨gb351, 8, none⟩ = some (.slice A0_8 l0_8.length c0_8) := (blk_cell BK351.out 8).trans rfl
        have hfz25_0 := blk_frozen BK351.out 0
        have hfz25_1 := blk_frozen BK351.out 1
        have hfz25_2 := blk_frozen BK351.out 2
        have hfz25_3 := blk_frozen BK351.out 3
        have hfz25_4 := blk_frozen BK351.out 4
        have hfz25_5 := blk_frozen BK351.out 5
        have hfz25_6 := blk_frozen BK351.out 6
        have hfz25_7 := blk_frozen BK351.out 7
        have hfz25_8 := blk_frozen BK351.out 8
        have hcz26_0 : w5.cell? ⟨gb352, 0, none⟩ = some (.int .i64 a1_0) := (blk_cell BK352.out 0).trans rfl
        have hcz26_1 : w5.cell? ⟨gb352, 1, none⟩ = some (.int .i64 a1_1) := (blk_cell BK352.out 1).trans rfl
        have hcz26_2 : w5.cell? ⟨gb352, 2, none⟩ = some (.int .i64 a1_2) := (blk_cell BK352.out 2).trans rfl
        have hcz26_3 : w5.cell? ⟨gb352, 3, none⟩ = some (.int .i64 a1_3) := (blk_cell BK352.out 3).trans rfl
        have hcz26_4 : w5.cell? ⟨gb352, 4, none⟩ = some (.int .i64 a1_4) := (blk_cell BK352.out 4).trans rfl
        have hcz26_5 : w5.cell? ⟨gb352, 5, none⟩ = some (.int .i64 a1_5) := (blk_cell BK352.out 5).trans rfl
        have hcz26_6 : w5.cell? ⟨gb352, 6, none⟩ = some (.slice A1_6 l1_6.length c1_6) := (blk_cell BK352.out 6).trans rfl
        have hcz26_7 : w5.cell? ⟨gb352, 7, none⟩ = some (.string a1_7) := (blk_cell BK352.out 7).trans rfl
        have hcz26_8 : w5.cell? ⟨gb352, 8, none⟩ = some (.slice A1_8 l1_8.length c1_8) := (blk_cell BK352.out 8).trans rfl
        have hfz26_0 := blk_frozen BK352.out 0
        have hfz26_1 := blk_frozen BK352.out 1
        have hfz26_2 := blk_frozen BK352.out 2
        have hfz26_3 := blk_frozen BK352.out 3
        have hfz26_4 := blk_frozen BK352.out 4
        have hfz26_5 := blk_frozen BK352.out 5
        have hfz26_6 := blk_frozen BK352.out 6
        have hfz26_7 := blk_frozen BK352.out 7
        have hfz26_8 := blk_frozen BK352.out 8
        go_wp2
        repeat (go_quiet (fail); try go_wp2)
        go_meet
        case rel => exact ⟨_, (true), (by (rfl)), H', ⟨by (omega)⟩, ⟨by (with_reducible repeat ((refine blk_drew ?_))); exact BK351.out⟩, ⟨by (with_reducible repeat ((refine blk_drew ?_))); exact BK352.out⟩, ⟨by repeat ((with_reducible (exact HB.out)))⟩⟩
      ·rw [if_neg c10] at H
       have c10b0 : (a0_4 == a1_4) = false := beq_eq_false_iff_ne.mpr c10
       have c10b1 : (a0_4 != a1_4) = true := bne_iff_ne.mpr c10
       have H' := Aside0.mk H
       clear H
       have hnb27 := NB351_352.out
       have hnc27 := NB352_351.out
       have hcz28_0 : w5.cell? ⟨gb351, 0, none⟩ = some (.int .i64 a0_0) := (blk_cell BK351.out 0).trans rfl
       have hcz28_1 : w5.cell? ⟨gb351, 1, none⟩ = some (.int .i64 a0_1) := (blk_cell BK351.out 1).trans rfl
       have hcz28_2 : w5.cell? ⟨gb351, 2, none⟩ = some (.int .i64 a0_2) := (blk_cell BK351.out 2).trans rfl
       have hcz28_3 : w5.cell? ⟨gb351, 3, none⟩ = some (.int .i64 a0_3) := (blk_cell BK351.out 3).trans rfl
       have hcz28_4 : w5.cell? ⟨gb351, 4, none⟩ = some (.int .i64 a0_4) := (blk_cell BK351.out 4).trans rfl
       have hcz28_5 : w5.cell? ⟨gb351, 5, none⟩ = some (.int .i64 a0_5) := (blk_cell BK351.out 5).trans rfl
       have hcz28_6 : w5.cell? ⟨gb351, 6, none⟩ = some (.slice A0_6 l0_6.length c0_6) := (blk_cell BK351.out 6).trans rfl
       have hcz28_7 : w5.cell? ⟨gb351, 7, none⟩ = some (.string a0_7) := (blk_cell BK351.out 7).trans rfl
       have hcz28_8 : w5.cell? ⟨gb351, 8, none⟩ = some (.slice A0_8 l0_8.length c0_8) := (blk_cell BK351.out 8).trans rfl
       have hfz28_0 := blk_frozen BK351.out 0
       have hfz28_1 := blk_frozen BK351.out 1
       have hfz28_2 := blk_frozen BK351.out 2
       have hfz28_3 := blk_frozen BK351.out 3
       have hfz28_4 := blk_frozen BK351.out 4
       have hfz28_5 := blk_frozen BK351.out 5
       have hfz28_6 := blk_frozen BK351.out 6
       have hfz28_7 := blk_frozen BK351.out 7
       have hfz28_8 := blk_frozen BK351.out 8
       have hcz29_0 : w5.cell? ⟨gb352, 0, none⟩ = some (.int .i64 a1_0) := (blk_cell BK352.out 0).trans rfl
       have hcz29_1 : w5.cell? ⟨gb352, 1, none⟩ = some (.int .i64 a1_1) := (blk_cell BK352.out 1).trans rfl
       have hcz29_2 : w5.cell? ⟨gb352, 2, none⟩ = some (.int .i64 a1_2) := (blk_cell BK352.out 2).trans rfl
       have hcz29_3 : w5.cell? ⟨gb352, 3, none⟩ = some (.int .i64 a1_3) := (blk_cell BK352.out 3).trans rfl
       have hcz29_4 : w5.cell? ⟨gb352, 4, none⟩ = some (.int .i64 a1_4) := (blk_cell BK352.out 4).trans rfl
       have hcz29_5 : w5.cell? ⟨gb352, 5, none⟩ = some (.int .i64 a1_5) := (blk_cell BK352.out 5).trans rfl
       have hcz29_6 : w5.cell? ⟨gb352, 6, none⟩ = some (.slice A1_6 l1_6.length c1_6) := (blk_cell BK352.out 6).trans rfl
       have hcz29_7 : w5.cell? ⟨gb352, 7, none⟩ = some (.string a1_7) := (blk_cell BK352.out 7).trans rfl
       have hcz29_8 : w5.cell? ⟨gb352, 8, none⟩ = some (.slice A1_8 l1_8.length c1_8) := (blk_cell BK352.out 8).trans rfl
       have hfz29_0 := blk_frozen BK352.out 0
       have hfz29_1 := blk_frozen BK352.out 1
       have hfz29_2 := blk_frozen BK352.out 2
       have hfz29_3 := blk_frozen BK352.out 3
       have hfz29_4 := blk_frozen BK352.out 4
       have hfz29_5 := blk_frozen BK352.out 5
       have hfz29_6 := blk_frozen BK352.out 6
       have hfz29_7 := blk_frozen BK352.out 7
       have hfz29_8 := blk_frozen BK352.out 8
       go_wp2
       repeat (go_quiet (fail); try go_wp2)
       go_meet
       case rel => exact ⟨_, (true), (by (rfl)), H', ⟨by (omega)⟩, ⟨by (with_reducible repeat ((refine blk_drew ?_))); exact BK351.out⟩, ⟨by (with_reducible repeat ((refine blk_drew ?_))); exact BK352.out⟩, ⟨by repeat ((with_reducible (exact HB.out)))⟩⟩
     ·rw [if_neg c9] at H
      have c9b0 : (a0_3 == a1_3) = false := beq_eq_false_iff_ne.mpr c9
      have c9b1 : (a0_3 != a1_3) = true := bne_iff_ne.mpr c9
      have H' := Aside0.mk H
      clear H
      have hnb30 := NB351_352.out
      have hnc30 := NB352_351.out
      have hcz31_0 : w5.cell? ⟨gb351, 0, none⟩ = some (.int .i64 a0_0) := (blk_cell BK351.out 0).trans rfl
      have hcz31_1 : w5.cell? ⟨gb351, 1, none⟩ = some (.int .i64 a0_1) := (blk_cell BK351.out 1).trans rfl
      have hcz31_2 : w5.cell? ⟨gb351, 2, none⟩ = some (.int .i64 a0_2) := (blk_cell BK351.out 2).trans rfl
      have hcz31_3 : w5.cell? ⟨gb351, 3, none⟩ = some (.int .i64 a0_3) := (blk_cell BK351.out 3).trans rfl
      have hcz31_4 : w5.cell? ⟨gb351, 4, none⟩ = some (.int .i64 a0_4) := (blk_cell BK351.out 4).trans rfl
      have hcz31_5 : w5.cell? ⟨gb351, 5, none⟩ = some (.int .i64 a0_5) := (blk_cell BK351.out 5).trans rfl
      have hcz31_6 : w5.cell? ⟨gb351, 6, none⟩ = some (.slice A0_6 l0_6.length c0_6) := (blk_cell BK351.out 6).trans rfl
      have hcz31_7 : w5.cell? ⟨gb351, 7, none⟩ = some (.string a0_7) := (blk_cell BK351.out 7).trans rfl
      have hcz31_8 : w5.cell? ⟨gb351, 8, none⟩ = some (.slice A0_8 l0_8.length c0_8) := (blk_cell BK351.out 8).trans rfl
      have hfz31_0 := blk_frozen BK351.out 0
      have hfz31_1 := blk_frozen BK351.out 1
      have hfz31_2 := blk_frozen BK351.out 2
      have hfz31_3 := blk_frozen BK351.out 3
      have hfz31_4 := blk_frozen BK351.out 4
      have hfz31_5 := blk_frozen BK351.out 5
      have hfz31_6 := blk_frozen BK351.out 6
      have hfz31_7 := blk_frozen BK351.out 7
      have hfz31_8 := blk_frozen BK351.out 8
      have hcz32_0 : w5.cell? ⟨gb352, 0, none⟩ = some (.int .i64 a1_0) := (blk_cell BK352.out 0).trans rfl
      have hcz32_1 : w5.cell? ⟨gb352, 1, none⟩ = some (.int .i64 a1_1) := (blk_cell BK352.out 1).trans rfl
      have hcz32_2 : w5.cell? ⟨gb352, 2, none⟩ = some (.int .i64 a1_2) := (blk_cell BK352.out 2).trans rfl
      have hcz32_3 : w5.cell? ⟨gb352, 3, none⟩ = some (.int .i64 a1_3) := (blk_cell BK352.out 3).trans rfl
      have hcz32_4 : w5.cell? ⟨gb352, 4, none⟩ = some (.int .i64 a1_4) := (blk_cell BK352.out 4).trans rfl
      have hcz32_5 : w5.cell? ⟨gb352, 5, none⟩ = some (.int .i64 a1_5) := (blk_cell BK352.out 5).trans rfl
      have hcz32_6 : w5.cell? ⟨gb352, 6, none⟩ = some (.slice A1_6 l1_6.length c1_6) := (blk_cell BK352.out 6).trans rfl
      have hcz32_7 : w5.cell? ⟨gb352, 7, none⟩ = some (.string a1_7) := (blk_cell BK352.out 7).trans rfl
      have hcz32_8 : w5.cell? ⟨gb352, 8, none⟩ = some (.slice A1_8 l1_8.length c1_8) := (blk_cell BK352.out 8).trans rfl
      have hfz32_0 := blk_frozen BK352.out 0
      have hfz32_1 := blk_frozen BK352.out 1
      have hfz32_2 := blk_frozen BK352.out 2
      have hfz32_3 := blk_frozen BK352.out 3
      have hfz32_4 := blk_frozen BK352.out 4
      have hfz32_5 := blk_frozen BK352.out 5
      have hfz32_6 := blk_frozen BK352.out 6
      have hfz32_7 := blk_frozen BK352.out 7
      have hfz32_8 := blk_frozen BK352.out 8
      go_wp2
      repeat (go_quiet (fail); try go_wp2)
      go_meet
      case rel => exact ⟨_, (true), (by (rfl)), H', ⟨by (omega)⟩, ⟨by (with_reducible repeat ((refine blk_drew ?_))); exact BK351.out⟩, ⟨by (with_reducible repeat ((refine blk_drew ?_))); exact BK352.out⟩, ⟨by repeat ((with_reducible (exact HB.out)))⟩⟩
    ·rw [if_neg c8] at H
     have c8b0 : (a0_2 == a1_2) = false := beq_eq_false_iff_ne.mpr c8
     have c8b1 : (a0_2 != a1_2) = true := bne_iff_ne.mpr c8
     have H' := Aside0.mk H
     clear H
     have hnb33 := NB351_352.out
     have hnc33 := NB352_351.out
     have hcz34_0 : w5.cell? ⟨gb351, 0, none⟩ = some (.int .i64 a0_0) := (blk_cell BK351.out 0).trans rfl
     have hcz34_1 : w5.cell? ⟨gb351, 1, none⟩ = some (.int .i64 a0_1) := (blk_cell BK351.out 1).trans rfl
     have hcz34_2 : w5.cell? ⟨gb351, 2, none⟩ = some (.int .i64 a0_2) := (blk_cell BK351.out 2).trans rfl
     have hcz34_3 : w5.cell? ⟨gb351, 3, none⟩ = some (.int .i64 a0_3) := (blk_cell BK351.out 3).trans rfl
     have hcz34_4 : w5.cell? ⟨gb351, 4, none⟩ = some (.int .i64 a0_4) := (blk_cell BK351.out 4).trans rfl
     have hcz34_5 : w5.cell? ⟨gb351, 5, none⟩ = some (.int .i64 a0_5) := (blk_cell BK351.out 5).trans rfl
     have hcz34_6 : w5.cell? ⟨gb351, 6, none⟩ = some (.slice A0_6 l0_6.length c0_6) := (blk_cell BK351.out 6).trans rfl
     have hcz34_7 : w5.cell? ⟨gb351, 7, none⟩ = some (.string a0_7) := (blk_cell BK351.out 7).trans rfl
     have hcz34_8 : w5.cell? ⟨gb351, 8, none⟩ = some (.slice A0_8 l0_8.length c0_8) := (blk_cell BK351.out 8).trans rfl
     have hfz34_0 := blk_frozen BK351.out 0
     have hfz34_1 := blk_frozen BK351.out 1
     have hfz34_2 := blk_frozen BK351.out 2
     have hfz34_3 := blk_frozen BK351.out 3
     have hfz34_4 := blk_frozen BK351.out 4
     have hfz34_5 := blk_frozen BK351.out 5
     have hfz34_6 := blk_frozen BK351.out 6
     have hfz34_7 := blk_frozen BK351.out 7
     have hfz34_8 := blk_frozen BK351.out 8
     have hcz35_0 : w5.cell? ⟨gb352, 0, none⟩ = some (.int .i64 a1_0) := (blk_cell BK352.out 0).trans rfl
     have hcz35_1 : w5.cell? ⟨gb352, 1, none⟩ = some (.int .i64 a1_1) := (blk_cell BK352.out 1).trans rfl
     have hcz35_2 : w5.cell? ⟨gb352, 2, none⟩ = some (.int .i64 a1_2) := (blk_cell BK352.out 2).trans rfl
     have hcz35_3 : w5.cell? ⟨gb352, 3, none⟩ = some (.int .i64 a1_3) := (blk_cell BK352.out 3).trans rfl
     have hcz35_4 : w5.cell? ⟨gb352, 4, none⟩ = some (.int .i64 a1_4) := (blk_cell BK352.out 4).trans rfl
     have hcz35_5 : w5.cell? ⟨gb352, 5, none⟩ = some (.int .i64 a1_5) := (blk_cell BK352.out 5).trans rfl
     have hcz35_6 : w5.cell? ⟨gb352, 6, none⟩ = some (.slice A1_6 l1_6.length c1_6) := (blk_cell BK352.out 6).trans rfl
     have hcz35_7 : w5.cell? ⟨gb352, 7, none⟩ = some (.string a1_7) := (blk_cell BK352.out 7).trans rfl
     have hcz35_8 : w5.cell? ⟨gb352, 8, none⟩ = some (.slice A1_8 l1_8.length c1_8) := (blk_cell BK352.out 8).trans rfl
     have hfz35_0 := blk_frozen BK352.out 0
     have hfz35_1 := blk_frozen BK352.out 1
     have hfz35_2 := blk_frozen BK352.out 2
     have hfz35_3 := blk_frozen BK352.out 3
     have hfz35_4 := blk_frozen BK352.out 4
     have hfz35_5 := blk_frozen BK352.out 5
     have hfz35_6 := blk_frozen BK352.out 6
     have hfz35_7 := blk_frozen BK352.out 7
     have hfz35_8 := blk_frozen BK352.out 8
     go_wp2
     repeat (go_quiet (fail); try go_wp2)
     go_meet
     case rel => exact ⟨_, (true), (by (rfl)), H', ⟨by (omega)⟩, ⟨by (with_reducible repeat ((refine blk_drew ?_))); exact BK351.out⟩, ⟨by (with_reducible repeat ((refine blk_drew ?_))); exact BK352.out⟩, ⟨by repeat ((with_reducible (exact HB.out)))⟩⟩
   ·rw [if_neg c7] at H
    have c7b0 : (a0_1 == a1_1) = false := beq_eq_false_iff_ne.mpr c7
    have c7b1 : (a0_1 != a1_1) = true := bne_iff_ne.mpr c7
    have H' := Aside0.mk H
    clear H
    have hnb36 := NB351_352.out
    have hnc36 := NB352_351.out
    have hcz37_0 : w5.cell? ⟨gb351, 0, none⟩ = some (.int .i64 a0_0) := (blk_cell BK351.out 0).trans rfl
    have hcz37_1 : w5.cell? ⟨gb351, 1, none⟩ = some (.int .i64 a0_1) := (blk_cell BK351.out 1).trans rfl
    have hcz37_2 : w5.cell? ⟨gb351, 2, none⟩ = some (.int .i64 a0_2) := (blk_cell BK351.out 2).trans rfl
    have hcz37_3 : w5.cell? ⟨gb351, 3, none⟩ = some (.int .i64 a0_3) := (blk_cell BK351.out 3).trans rfl
    have hcz37_4 : w5.cell? ⟨gb351, 4, none⟩ = some (.int .i64 a0_4) := (blk_cell BK351.out 4).trans rfl
    have hcz37_5 : w5.cell? ⟨gb351, 5, none⟩ = some (.int .i64 a0_5) := (blk_cell BK351.out 5).trans rfl
    have hcz37_6 : w5.cell? ⟨gb351, 6, none⟩ = some (.slice A0_6 l0_6.length c0_6) := (blk_cell BK351.out 6).trans rfl
    have hcz37_7 : w5.cell? ⟨gb351, 7, none⟩ = some (.string a0_7) := (blk_cell BK351.out 7).trans rfl
    have hcz37_8 : w5.cell? ⟨gb351, 8, none⟩ = some (.slice A0_8 l0_8.length c0_8) := (blk_cell BK351.out 8).trans rfl
    have hfz37_0 := blk_frozen BK351.out 0
    have hfz37_1 := blk_frozen BK351.out 1
    have hfz37_2 := blk_frozen BK351.out 2
    have hfz37_3 := blk_frozen BK351.out 3
    have hfz37_4 := blk_frozen BK351.out 4
    have hfz37_5 := blk_frozen BK351.out 5
    have hfz37_6 := blk_frozen BK351.out 6
    have hfz37_7 := blk_frozen BK351.out 7
    have hfz37_8 := blk_frozen BK351.out 8
    have hcz38_0 : w5.cell? ⟨gb352, 0, none⟩ = some (.int .i64 a1_0) := (blk_cell BK352.out 0).trans rfl
    have hcz38_1 : w5.cell? ⟨gb352, 1, none⟩ = some (.int .i64 a1_1) := (blk_cell BK352.out 1).trans rfl
    have hcz38_2 : w5.cell? ⟨gb352, 2, none⟩ = some (.int .i64 a1_2) := (blk_cell BK352.out 2).trans rfl
    have hcz38_3 : w5.cell? ⟨gb352, 3, none⟩ = some (.int .i64 a1_3) := (blk_cell BK352.out 3).trans rfl
    have hcz38_4 : w5.cell? ⟨gb352, 4, none⟩ = some (.int .i64 a1_4) := (blk_cell BK352.out 4).trans rfl
    have hcz38_5 : w5.cell? ⟨gb352, 5, none⟩ = some (.int .i64 a1_5) := (blk_cell BK352.out 5).trans rfl
    have hcz38_6 : w5.cell? ⟨gb352, 6, none⟩ = some (.slice A1_6 l1_6.length c1_6) := (blk_cell BK352.out 6).trans rfl
    have hcz38_7 : w5.cell? ⟨gb352, 7, none⟩ = some (.string a1_7) := (blk_cell BK352.out 7).trans rfl
    have hcz38_8 : w5.cell? ⟨gb352, 8, none⟩ = some (.slice A1_8 l1_8.length c1_8) := (blk_cell BK352.out 8).trans rfl
    have hfz38_0 := blk_frozen BK352.out 0
    have hfz38_1 := blk_frozen BK352.out 1
    have hfz38_2 := blk_frozen BK352.out 2
    have hfz38_3 := blk_frozen BK352.out 3
    have hfz38_4 := blk_frozen BK352.out 4
    have hfz38_5 := blk_frozen BK352.out 5
    have hfz38_6 := blk_frozen BK352.out 6
    have hfz38_7 := blk_frozen BK352.out 7
    have hfz38_8 := blk_frozen BK352.out 8
    go_wp2
    repeat (go_quiet (fail); try go_wp2)
    go_meet
    case rel => exact ⟨_, (true), (by (rfl)), H', ⟨by (omega)⟩, ⟨by (with_reducible repeat ((refine blk_drew ?_))); exact BK351.out⟩, ⟨by (with_reducible repeat ((refine blk_drew ?_))); exact BK352.out⟩, ⟨by repeat ((with_reducible (exact HB.out)))⟩⟩
  ·rw [if_neg c6] at H
   have c6b0 : (a0_0 == a1_0) = false := beq_eq_false_iff_ne.mpr c6
   have c6b1 : (a0_0 != a1_0) = true := bne_iff_ne.mpr c6
   ((skip))
   have H' := Aside0.mk H
   clear H
   have hnb39 := NB351_352.out
   have hnc39 := NB352_351.out
   have hcz40_0 : w5.cell? ⟨gb351, 0, none⟩ = some (.int .i64 a0_0) := (blk_cell BK351.out 0).trans rfl
   have hcz40_1 : w5.cell? ⟨gb351, 1, none⟩ = some (.int .i64 a0_1) := (blk_cell BK351.out 1).trans rfl
   have hcz40_2 : w5.cell? ⟨gb351, 2, none⟩ = some (.int .i64 a0_2) := (blk_cell BK351.out 2).trans rfl
   have hcz40_3 : w5.cell? ⟨gb351, 3, none⟩ = some (.int .i64 a0_3) := (blk_cell BK351.out 3).trans rfl
   have hcz40_4 : w5.cell? ⟨gb351, 4, none⟩ = some (.int .i64 a0_4) := (blk_cell BK351.out 4).trans rfl
   have hcz40_5 : w5.cell? ⟨gb351, 5, none⟩ = some (.int .i64 a0_5) := (blk_cell BK351.out 5).trans rfl
   have hcz40_6 : w5.cell? ⟨gb351, 6, none⟩ = some (.slice A0_6 l0_6.length c0_6) := (blk_cell BK351.out 6).trans rfl
   have hcz40_7 : w5.cell? ⟨gb351, 7, none⟩ = some (.string a0_7) := (blk_cell BK351.out 7).trans rfl
   have hcz40_8 : w5.cell? ⟨gb351, 8, none⟩ = some (.slice A0_8 l0_8.length c0_8) := (blk_cell BK351.out 8).trans rfl
   have hfz40_0 := blk_frozen BK351.out 0
   have hfz40_1 := blk_frozen BK351.out 1
   have hfz40_2 := blk_frozen BK351.out 2
   have hfz40_3 := blk_frozen BK351.out 3
   have hfz40_4 := blk_frozen BK351.out 4
   have hfz40_5 := blk_frozen BK351.out 5
   have hfz40_6 := blk_frozen BK351.out 6
   have hfz40_7 := blk_frozen BK351.out 7
   have hfz40_8 := blk_frozen BK351.out 8
   have hcz41_0 : w5.cell? ⟨gb352, 0, none⟩ = some (.int .i64 a1_0) := (blk_cell BK352.out 0).trans rfl
   have hcz41_1 : w5.cell? ⟨gb352, 1, none⟩ = some (.int .i64 a1_1) := (blk_cell BK352.out 1).trans rfl
   have hcz41_2 : w5.cell? ⟨gb352, 2, none⟩ = some (.int .i64 a1_2) := (blk_cell BK352.out 2).trans rfl
   have hcz41_3 : w5.cell? ⟨gb352, 3, none⟩ = some (.int .i64 a1_3) := (blk_cell BK352.out 3).trans rfl
   have hcz41_4 : w5.cell? ⟨gb352, 4, none⟩ = some (.int .i64 a1_4) := (blk_cell BK352.out 4).trans rfl
   have hcz41_5 : w5.cell? ⟨gb352, 5, none⟩ = some (.int .i64 a1_5) := (blk_cell BK352.out 5).trans rfl
   have hcz41_6 : w5.cell? ⟨gb352, 6, none⟩ = some (.slice A1_6 l1_6.length c1_6) := (blk_cell BK352.out 6).trans rfl
   have hcz41_7 : w5.cell? ⟨gb352, 7, none⟩ = some (.string a1_7) := (blk_cell BK352.out 7).trans rfl
   have hcz41_8 : w5.cell? ⟨gb352, 8, none⟩ = some (.slice A1_8 l1_8.length c1_8) := (blk_cell BK352.out 8).trans rfl
   have hfz41_0 := blk_frozen BK352.out 0
   have hfz41_1 := blk_frozen BK352.out 1
   have hfz41_2 := blk_frozen BK352.out 2
   have hfz41_3 := blk_frozen BK352.out 3
   have hfz41_4 := blk_frozen BK352.out 4
   have hfz41_5 := blk_frozen BK352.out 5
   have hfz41_6 := blk_frozen BK352.out 6
   have hfz41_7 := blk_frozen BK352.out 7
   have hfz41_8 := blk_frozen BK352.out 8
   go_wp2
   repeat (go_quiet (fail); try go_wp2)
   go_meet
   case rel => exact ⟨_, (true), (by (rfl)), H', ⟨by (omega)⟩, ⟨by (with_reducible repeat ((refine blk_drew ?_))); exact BK351.out⟩, ⟨by (with_reducible repeat ((refine blk_drew ?_))); exact BK352.out⟩, ⟨by repeat ((with_reducible (exact HB.out)))⟩⟩
 case rest =>
  clear HC3
  try clear c1
  try clear c2
  try clear p2
  try clear c3
  try clear c6
  try clear c6b0
  try clear c6b1
  try clear c7
  try clear c7b0
  try clear c7b1
  try clear c8
  try clear c8b0
  try clear c8b1
  try clear c9
  try clear c9b0
  try clear c9b1
  try clear c10
  try clear c10b0
  try clear c10b1
  try clear c11
  try clear c11b0
  try clear c11b1
  try clear c12
  try clear c12b0
  try clear c12b1
  try clear c13
  try clear c13b0
  try clear c13b1
  try clear c13b2
  try clear c15
  try clear c18
  try clear c21
  try clear c24
  try clear c26
  try clear c27
  try clear c30
  try clear c33
  try clear c36
  try clear c39
  try clear hcz16_0
  try clear hcz16_1
  try clear hcz16_2
  try clear hcz16_3
  try clear hcz16_4
  try clear hcz16_5
  try clear hcz16_6
  try clear hcz16_7
  try clear hcz16_8
  try clear hcz17_0
  try clear hcz17_1
  try clear hcz17_2
  try clear hcz17_3
  try clear hcz17_4
  try clear hcz17_5
  try clear hcz17_6
  try clear hcz17_7
  try clear hcz17_8
  try clear hcz19_0
  try clear hcz19_1
  try clear hcz19_2
  try clear hcz19_3
  try clear hcz19_4
  try clear hcz19_5
  try clear hcz19_6
  try clear hcz19_7
  try clear hcz19_8
  try clear hcz20_0
  try clear hcz20_1
  try clear hcz20_2
  try clear hcz20_3
  try clear hcz20_4
  try clear hcz20_5
  try clear hcz20_6
  try clear hcz20_7
  try clear hcz20_8
  try clear hcz22_0
  try clear hcz22_1
  try clear hcz22_2
  try clear hcz22_3
  try clear hcz22_4
  try clear hcz22_5
  try clear hcz22_6
  try clear hcz22_7
  try clear hcz22_8
  try clear hcz23_0
  try clear hcz23_1
  try clear hcz23_2
  try clear hcz23_3
  try clear hcz23_4
  try clear hcz23_5
  try clear hcz23_6
  try clear hcz23_7
  try clear hcz23_8
  try clear hcz25_0
  try clear hcz25_1
  try clear hcz25_2
  try clear hcz25_3
  try clear hcz25_4
  try clear hcz25_5
  try clear hcz25_6
  try clear hcz25_7
  try clear hcz25_8
  try clear hcz26_0
  try clear hcz26_1
  try clear hcz26_2
  try clear hcz26_3
  try clear hcz26_4
  try clear hcz26_5
  try clear hcz26_6
  try clear hcz26_7
  try clear hcz26_8
  try clear hcz28_0
  try clear hcz28_1
  try clear hcz28_2
  try clear hcz28_3
  try clear hcz28_4
  try clear hcz28_5
  try clear hcz28_6
  try clear hcz28_7
  try clear hcz28_8
  try clear hcz29_0
  try clear hcz29_1
  try clear hcz29_2
  try clear hcz29_3
  try clear hcz29_4
  try clear hcz29_5
  try clear hcz29_6
  try clear hcz29_7
  try clear hcz29_8
  try clear hcz31_0
  try clear hcz31_1
  try clear hcz31_2
  try clear hcz31_3
  try clear hcz31_4
  try clear hcz31_5
  try clear hcz31_6
  try clear hcz31_7
  try clear hcz31_8
  try clear hcz32_0
  try clear hcz32_1
  try clear hcz32_2
  try clear hcz32_3
  try clear hcz32_4
  try clear hcz32_5
  try clear hcz32_6
  try clear hcz32_7
  try clear hcz32_8
  try clear hcz34_0
  try clear hcz34_1
  try clear hcz34_2
  try clear hcz34_3
  try clear hcz34_4
  try clear hcz34_5
  try clear hcz34_6
  try clear hcz34_7
  try clear hcz34_8
  try clear hcz35_0
  try clear hcz35_1
  try clear hcz35_2
  try clear hcz35_3
  try clear hcz35_4
  try clear hcz35_5
  try clear hcz35_6
  try clear hcz35_7
  try clear hcz35_8
  try clear hcz37_0
  try clear hcz37_1
  try clear hcz37_2
  try clear hcz37_3
  try clear hcz37_4
  try clear hcz37_5
  try clear hcz37_6
  try clear hcz37_7
  try clear hcz37_8
  try clear hcz38_0
  try clear hcz38_1
  try clear hcz38_2
  try clear hcz38_3
  try clear hcz38_4
  try clear hcz38_5
  try clear hcz38_6
  try clear hcz38_7
  try clear hcz38_8
  try clear hcz40_0
  try clear hcz40_1
  try clear hcz40_2
  try clear hcz40_3
  try clear hcz40_4
  try clear hcz40_5
  try clear hcz40_6
  try clear hcz40_7
  try clear hcz40_8
  try clear hcz41_0
  try clear hcz41_1
  try clear hcz41_2
  try clear hcz41_3
  try clear hcz41_4
  try clear hcz41_5
  try clear hcz41_6
  try clear hcz41_7
  try clear hcz41_8
  try clear hfz16_0
  try clear hfz16_1
  try clear hfz16_2
  try clear hfz16_3
  try clear hfz16_4
  try clear hfz16_5
  try clear hfz16_6
  try clear hfz16_7
  try clear hfz16_8
  try clear hfz17_0
  try clear hfz17_1
  try clear hfz17_2
  try clear hfz17_3
  try clear hfz17_4
  try clear hfz17_5
  try clear hfz17_6
  try clear hfz17_7
  try clear hfz17_8
  try clear hfz19_0
  try clear hfz19_1
  try clear hfz19_2
  try clear hfz19_3
  try clear hfz19_4
  try clear hfz19_5
  try clear hfz19_6
  try clear hfz19_7
  try clear hfz19_8
  try clear hfz20_0
  try clear hfz20_1
  try clear hfz20_2
  try clear hfz20_3
  try clear hfz20_4
  try clear hfz20_5
  try clear hfz20_6
  try clear hfz20_7
  try clear hfz20_8
  try clear hfz22_0
  try clear hfz22_1
  try clear hfz22_2
  try clear hfz22_3
  try clear hfz22_4
  try clear hfz22_5
  try clear hfz22_6
  try clear hfz22_7
  try clear hfz22_8
  try clear hfz23_0
  try clear hfz23_1
  try clear hfz23_2
  try clear hfz23_3
  try clear hfz23_4
  try clear hfz23_5
  try clear hfz23_6
  try clear hfz23_7
  try clear hfz23_8
  try clear hfz25_0
  try clear hfz25_1
  try clear hfz25_2
  try clear hfz25_3
  try clear hfz25_4
  try clear hfz25_5
  try clear hfz25_6
  try clear hfz25_7
  try clear hfz25_8
  try clear hfz26_0
  try clear hfz26_1
  try clear hfz26_2
  try clear hfz26_3
  try clear hfz26_4
  try clear hfz26_5
  try clear hfz26_6
  try clear hfz26_7
  try clear hfz26_8
  try clear hfz28_0
  try clear hfz28_1
  try clear hfz28_2
  try clear hfz28_3
  try clear hfz28_4
  try clear hfz28_5
  try clear hfz28_6
  try clear hfz28_7
  try clear hfz28_8
  try clear hfz29_0
  try clear hfz29_1
  try clear hfz29_2
  try clear hfz29_3
  try clear hfz29_4
  try clear hfz29_5
  try clear hfz29_6
  try clear hfz29_7
  try clear hfz29_8
  try clear hfz31_0
  try clear hfz31_1
  try clear hfz31_2
  try clear hfz31_3
  try clear hfz31_4
  try clear hfz31_5
  try clear hfz31_6
  try clear hfz31_7
  try clear hfz31_8
  try clear hfz32_0
  try clear hfz32_1
  try clear hfz32_2
  try clear hfz32_3
  try clear hfz32_4
  try clear hfz32_5
  try clear hfz32_6
  try clear hfz32_7
  try clear hfz32_8
  try clear hfz34_0
  try clear hfz34_1
  try clear hfz34_2
  try clear hfz34_3
  try clear hfz34_4
  try clear hfz34_5
  try clear hfz34_6
  try clear hfz34_7
  try clear hfz34_8
  try clear hfz35_0
  try clear hfz35_1
  try clear hfz35_2
  try clear hfz35_3
  try clear hfz35_4
  try clear hfz35_5
  try clear hfz35_6
  try clear hfz35_7
  try clear hfz35_8
  try clear hfz37_0
  try clear hfz37_1
  try clear hfz37_2
  try clear hfz37_3
  try clear hfz37_4
  try clear hfz37_5
  try clear hfz37_6
  try clear hfz37_7
  try clear hfz37_8
  try clear hfz38_0
  try clear hfz38_1
  try clear hfz38_2
  try clear hfz38_3
  try clear hfz38_4
  try clear hfz38_5
  try clear hfz38_6
  try clear hfz38_7
  try clear hfz38_8
  try clear hfz40_0
  try clear hfz40_1
  try clear hfz40_2
  try clear hfz40_3
  try clear hfz40_4
  try clear hfz40_5
  try clear hfz40_6
  try clear hfz40_7
  try clear hfz40_8
  try clear hfz41_0
  try clear hfz41_1
  try clear hfz41_2
  try clear hfz41_3
  try clear hfz41_4
  try clear hfz41_5
  try clear hfz41_6
  try clear hfz41_7
  try clear hfz41_8
  obtain ⟨kq, x69_2, rfl, HA, HJ2, BK351, BK352, HB⟩ := hcut
  cases kq with
  | zero => exact absurd HA.out (by simp [variorumref11_Same.j0])
  | succ kj2 =>
   have H := HA.out
   clear HA
   simp only [variorumref11_Same.j0] at H
   by_cases c42 : x69_2 = true
   ·subst c42
    have H1 : (some false) = some r := by rw [if_pos rfl] at H; exact H
    clear H
    have H := H1
    clear H1
    obtain rfl := Option.some.inj H
    go_wp2
    repeat (go_quiet (fail); try go_wp2)
    go_ret
    exact ⟨by (rfl), by repeat ((with_reducible (exact HB.out)))⟩
   ·replace c42 := Bool.eq_false_iff.mpr c42
    subst c42
    have H1 : (variorumref11_Same.l0 kj2 0 a0_0 a0_1 a0_2 a0_3 a0_4 a0_5 l0_6 a0_7 l0_8 a1_0 a1_1 a1_2 a1_3 a1_4 a1_5 l1_6 a1_7 l1_8) = some r := by rw [if_neg (show ¬ (false = true) by decide)] at H; exact H
    clear H
    have H := H1
    clear H1
    have H' := Aside0.mk H
    clear H
    go_wp2
    repeat (go_quiet (fail); try go_wp2)
    go_loopg [5] kj2 (fun kq v5 w' => ∃ (x5_2 : Int), v5 = .int .i64 x5_2 ∧ Aside0 (variorumref11_Same.l0 kq x5_2 a0_0 a0_1 a0_2 a0_3 a0_4 a0_5 l0_6 a0_7 l0_8 a1_0 a1_1 a1_2 a1_3 a1_4 a1_5 l1_6 a1_7 l1_8 = some r) ∧ Aside0 (kq ≤ kj2) ∧ Aside0 (w'.heap[gb351]? = some (.cells #[.int .i64 a0_0, .int .i64 a0_1, .int .i64 a0_2, .int .i64 a0_3, .int .i64 a0_4, .int .i64 a0_5, (.slice A0_6 l0_6.length c0_6), .string a0_7, (.slice A0_8 l0_8.length c0_8)] 44 (0, 0))) ∧ Aside0 (w'.heap[gb352]? = some (.cells #[.int .i64 a1_0, .int .i64 a1_1, .int .i64 a1_2, .int .i64 a1_3, .int .i64 a1_4, .int .i64 a1_5, (.slice A1_6 l1_6.length c1_6), .string a1_7, (.slice A1_8 l1_8.length c1_8)] 44 (0, 0))) ∧ Aside0 (Below w.heap.size w w'))
    case atStart => exact ⟨(0), (by (rfl)), H', ⟨Nat.le_refl _⟩, ⟨by (with_reducible repeat ((refine blk_drew ?_))); exact BK351.out⟩, ⟨by (with_reducible repeat ((refine blk_drew ?_))); exact BK352.out⟩, ⟨by repeat ((with_reducible (exact HB.out)))⟩⟩
    case round =>
     clear H'
     try clear c1
     try clear c2
     try clear p2
     try clear c3
     try clear c4
     try clear c6
     try clear c6b0
     try clear c6b1
     try clear c7
     try clear c7b0
     try clear c7b1
     try clear c8
     try clear c8b0
     try clear c8b1
     try clear c9
     try clear c9b0
     try clear c9b1
     try clear c10
     try clear c10b0
     try clear c10b1
     try clear c11
     try clear c11b0
     try clear c11b1
     try clear c12
     try clear c12b0
     try clear c12b1
     try clear c13
     try clear c13b0
     try clear c13b1
     try clear c13b2
     try clear c15
     try clear c18
     try clear c21
     try clear c24
     try clear c26
     try clear c27
     try clear c30
     try clear c33
     try clear c36
     try clear c39
     try clear c42
     try clear hcz16_0
     try clear hcz16_1
     try clear hcz16_2
     try clear hcz16_3
     try clear hcz16_4
     try clear hcz16_5
     try clear hcz16_6
     try clear hcz16_7
     try clear hcz16_8
     try clear hcz17_0
     try clear hcz17_1
     try clear hcz17_2
     try clear hcz17_3
     try clear hcz17_4
     try clear hcz17_5
     try clear hcz17_6
     try clear hcz17_7
     try clear hcz17_8
     try clear hcz19_0
     try clear hcz19_1
     try clear hcz19_2
     try clear hcz19_3
     try clear hcz19_4
     try clear hcz19_5
     try clear hcz19_6
     try clear hcz19_7
     try clear hcz19_8
     try clear hcz20_0
     try clear hcz20_1
     try clear hcz20_2
     try clear hcz20_3
     try clear hcz20_4
     try clear hcz20_5
     try clear hcz20_6
     try clear hcz20_7
     try clear hcz20_8
     try clear hcz22_0
     try clear hcz22_1
     try clear hcz22_2
     try clear hcz22_3
     try clear hcz22_4
     try clear hcz22_5
     try clear hcz22_6
     try clear hcz22_7
     try clear hcz22_8
     try clear hcz23_0
     try clear hcz23_1
     try clear hcz23_2
     try clear hcz23_3
     try clear hcz23_4
     try clear hcz23_5
     try clear hcz23_6
     try clear hcz23_7
     try clear hcz23_8
     try clear hcz25_0
     try clear hcz25_1
     try clear hcz25_2
     try clear hcz25_3
     try clear hcz25_4
     try clear hcz25_5
     try clear hcz25_6
     try clear hcz25_7
     try clear hcz25_8
     try clear hcz26_0
     try clear hcz26_1
     try clear hcz26_2
     try clear hcz26_3
     try clear hcz26_4
     try clear hcz26_5
     try clear hcz26_6
     try clear hcz26_7
     try clear hcz26_8
     try clear hcz28_0
     try clear hcz28_1
     try clear hcz28_2
     try clear hcz28_3
     try clear hcz28_4
     try clear hcz28_5
     try clear hcz28_6
     try clear hcz28_7
     try clear hcz28_8
     try clear hcz29_0
     try clear hcz29_1
     try clear hcz29_2
     try clear hcz29_3
     try clear hcz29_4
     try clear hcz29_5
     try clear hcz29_6
     try clear hcz29_7
     try clear hcz29_8
     try clear hcz31_0
     try clear hcz31_1
     try clear hcz31_2
     try clear hcz31_3
     try clear hcz31_4
     try clear hcz31_5
     try clear hcz31_6
     try clear hcz31_7
     try clear hcz31_8
     try clear hcz32_0
     try clear hcz32_1
     try clear hcz32_2
     try clear hcz32_3
     try clear hcz32_4
     try clear hcz32_5
     try clear hcz32_6
     try clear hcz32_7
     try clear hcz32_8
     try clear hcz34_0
     try clear hcz34_1
     try clear hcz34_2
     try clear hcz34_3
     try clear hcz34_4
     try clear hcz34_5
     try clear hcz34_6
     try clear hcz34_7
     try clear hcz34_8
     try clear hcz35_0
     try clear hcz35_1
     try clear hcz35_2
     try clear hcz35_3
     try clear hcz35_4
     try clear hcz35_5
     try clear hcz35_6
     try clear hcz35_7
     try clear hcz35_8
     try clear hcz37_0
     try clear hcz37_1
     try clear hcz37_2
     try clear hcz37_3
     try clear hcz37_4
     try clear hcz37_5
     try clear hcz37_6
     try clear hcz37_7
     try clear hcz37_8
     try clear hcz38_0
     try clear hcz38_1
     try clear hcz38_2
     try clear hcz38_3
     try clear hcz38_4
     try clear hcz38_5
     try clear hcz38_6
     try clear hcz38_7
     try clear hcz38_8
     try clear hcz40_0
     try clear hcz40_1
     try clear hcz40_2
     try clear hcz40_3
     try clear hcz40_4
     try clear hcz40_5
     try clear hcz40_6
     try clear hcz40_7
     try clear hcz40_8
     try clear hcz41_0
     try clear hcz41_1
     try clear hcz41_2
     try clear hcz41_3
     try clear hcz41_4
     try clear hcz41_5
     try clear hcz41_6
     try clear hcz41_7
     try clear hcz41_8
     try clear hfz16_0
     try clear hfz16_1
     try clear hfz16_2
     try clear hfz16_3
     try clear hfz16_4
     try clear hfz16_5
     try clear hfz16_6
     try clear hfz16_7
     try clear hfz16_8
     try clear hfz17_0
     try clear hfz17_1
     try clear hfz17_2
     try clear hfz17_3
     try clear hfz17_4
     try clear hfz17_5
     try clear hfz17_6
     try clear hfz17_7
     try clear hfz17_8
     try clear hfz19_0
     try clear hfz19_1
     try clear hfz19_2
     try clear hfz19_3
     try clear hfz19_4
     try clear hfz19_5
     try clear hfz19_6
     try clear hfz19_7
     try clear hfz19_8
     try clear hfz20_0
     try clear hfz20_1
     try clear hfz20_2
     try clear hfz20_3
     try clear hfz20_4
     try clear hfz20_5
     try clear hfz20_6
     try clear hfz20_7
     try clear hfz20_8
     try clear hfz22_0
     try clear hfz22_1
     try clear hfz22_2
     try clear hfz22_3
     try clear hfz22_4
     try clear hfz22_5
     try clear hfz22_6
     try clear hfz22_7
     try clear hfz22_8
     try clear hfz23_0
     try clear hfz23_1
     try clear hfz23_2
     try clear hfz23_3
     try clear hfz23_4
     try clear hfz23_5
     try clear hfz23_6
     try clear hfz23_7
     try clear hfz23_8
     try clear hfz25_0
     try clear hfz25_1
     try clear hfz25_2
     try clear hfz25_3
     try clear hfz25_4
     try clear hfz25_5
     try clear hfz25_6
     try clear hfz25_7
     try clear hfz25_8
     try clear hfz26_0
     try clear hfz26_1
     try clear hfz26_2
     try clear hfz26_3
     try clear hfz26_4
     try clear hfz26_5
     try clear hfz26_6
     try clear hfz26_7
     try clear hfz26_8
     try clear hfz28_0
     try clear hfz28_1
     try clear hfz28_2
     try clear hfz28_3
     try clear hfz28_4
     try clear hfz28_5
     try clear hfz28_6
     try clear hfz28_7
     try clear hfz28_8
     try clear hfz29_0
     try clear hfz29_1
     try clear hfz29_2
     try clear hfz29_3
     try clear hfz29_4
     try clear hfz29_5
     try clear hfz29_6
     try clear hfz29_7
     try clear hfz29_8
     try clear hfz31_0
     try clear hfz31_1
     try clear hfz31_2
     try clear hfz31_3
     try clear hfz31_4
     try clear hfz31_5
     try clear hfz31_6
     try clear hfz31_7
     try clear hfz31_8
     try clear hfz32_0
     try clear hfz32_1
     try clear hfz32_2
     try clear hfz32_3
     try clear hfz32_4
     try clear hfz32_5
     try clear hfz32_6
     try clear hfz32_7
     try clear hfz32_8
     try clear hfz34_0
     try clear hfz34_1
     try clear hfz34_2
     try clear hfz34_3
     try clear hfz34_4
     try clear hfz34_5
     try clear hfz34_6
     try clear hfz34_7
     try clear hfz34_8
     try clear hfz35_0
     try clear hfz35_1
     try clear hfz35_2
     try clear hfz35_3
     try clear hfz35_4
     try clear hfz35_5
     try clear hfz35_6
     try clear hfz35_7
     try clear hfz35_8
     try clear hfz37_0
     try clear hfz37_1
     try clear hfz37_2
     try clear hfz37_3
     try clear hfz37_4
     try clear hfz37_5
     try clear hfz37_6
     try clear hfz37_7
     try clear hfz37_8
     try clear hfz38_0
     try clear hfz38_1
     try clear hfz38_2
     try clear hfz38_3
     try clear hfz38_4
     try clear hfz38_5
     try clear hfz38_6
     try clear hfz38_7
     try clear hfz38_8
     try clear hfz40_0
     try clear hfz40_1
     try clear hfz40_2
     try clear hfz40_3
     try clear hfz40_4
     try clear hfz40_5
     try clear hfz40_6
     try clear hfz40_7
     try clear hfz40_8
     try clear hfz41_0
     try clear hfz41_1
     try clear hfz41_2
     try clear hfz41_3
     try clear hfz41_4
     try clear hfz41_5
     try clear hfz41_6
     try clear hfz41_7
     try clear hfz41_8
     try clear p2
     obtain ⟨x5_2, rfl, HA, HK2, BK351, BK352, HB⟩ := hrel
     cases gk with
     | zero => exact absurd HA.out (by simp [variorumref11_Same.l0])
     | succ k2 =>
      have H := HA.out
      clear HA
      simp only [variorumref11_Same.l0] at H
      by_cases c43 : x5_2 < (l0_8.length : Int)
      ·rw [if_pos c43] at H
       have c43b0 : decide (x5_2 < (l0_8.length : Int)) = true := decide_eq_true c43
       clear c43
       by_cases c44 : 0 ≤ x5_2
       ·rw [if_pos c44] at H
        have c44b0 : decide (0 ≤ x5_2) = true := decide_eq_true c44
        clear c44
        by_cases c45 : x5_2 < (l1_8.length : Int)
        ·rw [if_pos c45] at H
         have c45b0 : decide (x5_2 < (l1_8.length : Int)) = true := decide_eq_true c45
         clear c45
         by_cases c46 : ((!(((rd_T104 l0_8 x5_2).f0.f0) == ((rd_T104 l1_8 x5_2).f0.f0)) || (!(((rd_T104 l0_8 x5_2).f0.f1) == ((rd_T104 l1_8 x5_2).f0.f1)))) || (!(((rd_T104 l0_8 x5_2).f1) == ((rd_T104 l1_8 x5_2).f1)))) = true
         ·rw [if_pos c46] at H
          have c46b0 : ((!(((rd_T104 l0_8 x5_2).f0.f0) == ((rd_T104 l1_8 x5_2).f0.f0)) || (!(((rd_T104 l0_8 x5_2).f0.f1) == ((rd_T104 l1_8 x5_2).f0.f1)))) || (!(((rd_T104 l0_8 x5_2).f1) == ((rd_T104 l1_8 x5_2).f1)))) = true := c46
          clear c46
          obtain rfl := Option.some.inj H
          have hnb47 := NB351_352.out
          have hnc47 := NB352_351.out
          have hcz48_0 : wr.cell? ⟨gb351, 0, none⟩ = some (.int .i64 a0_0) := (blk_cell BK351.out 0).trans rfl
          have hcz48_1 : wr.cell? ⟨gb351, 1, none⟩ = some (.int .i64 a0_1) := (blk_cell BK351.out 1).trans rfl
          have hcz48_2 : wr.cell? ⟨gb351, 2, none⟩ = some (.int .i64 a0_2) := (blk_cell BK351.out 2).trans rfl
          have hcz48_3 : wr.cell? ⟨gb351, 3, none⟩ = some (.int .i64 a0_3) := (blk_cell BK351.out 3).trans rfl
          have hcz48_4 : wr.cell? ⟨gb351, 4, none⟩ = some (.int .i64 a0_4) := (blk_cell BK351.out 4).trans rfl
          have hcz48_5 : wr.cell? ⟨gb351, 5, none⟩ = some (.int .i64 a0_5) := (blk_cell BK351.out 5).trans rfl
          have hcz48_6 : wr.cell? ⟨gb351, 6, none⟩ = some (.slice A0_6 l0_6.length c0_6) := (blk_cell BK351.out 6).trans rfl
          have hcz48_7 : wr.cell? ⟨gb351, 7, none⟩ = some (.string a0_7) := (blk_cell BK351.out 7).trans rfl
          have hcz48_8 : wr.cell? ⟨gb351, 8, none⟩ = some (.slice A0_8 l0_8.length c0_8) := (blk_cell BK351.out 8).trans rfl
          have hfz48_0 := blk_frozen BK351.out 0
          have hfz48_1 := blk_frozen BK351.out 1
          have hfz48_2 := blk_frozen BK351.out 2
          have hfz48_3 := blk_frozen BK351.out 3
          have hfz48_4 := blk_frozen BK351.out 4
          have hfz48_5 := blk_frozen BK351.out 5
          have hfz48_6 := blk_frozen BK351.out 6
          have hfz48_7 := blk_frozen BK351.out 7
          have hfz48_8 := blk_frozen BK351.out 8
          have p354 : 0 ≤ (x5_2 : Int) := of_decide_eq_true (by (with_reducible assumption))
          have q354 : x5_2 < (l0_8.length : Int) := of_decide_eq_true (by (with_reducible assumption))
          obtain ⟨ad354, e354, hx354_0, hx354_1, hx354_2⟩ := at_T104 HR0_8.out x5_2 p354 q354
          cases e354
          replace hx354_0 := (HB.out.cell (World.block_lt_of_cell? w _ hx354_0)).trans hx354_0
          replace hx354_1 := (HB.out.cell (World.block_lt_of_cell? w _ hx354_1)).trans hx354_1
          replace hx354_2 := (HB.out.cell (World.block_lt_of_cell? w _ hx354_2)).trans hx354_2
          replace p354 := eq_true p354
          replace q354 := eq_true q354
          have hcz49_0 : wr.cell? ⟨gb352, 0, none⟩ = some (.int .i64 a1_0) := (blk_cell BK352.out 0).trans rfl
          have hcz49_1 : wr.cell? ⟨gb352, 1, none⟩ = some (.int .i64 a1_1) := (blk_cell BK352.out 1).trans rfl
          have hcz49_2 : wr.cell? ⟨gb352, 2, none⟩ = some (.int .i64 a1_2) := (blk_cell BK352.out 2).trans rfl
          have hcz49_3 : wr.cell? ⟨gb352, 3, none⟩ = some (.int .i64 a1_3) := (blk_cell BK352.out 3).trans rfl
          have hcz49_4 : wr.cell? ⟨gb352, 4, none⟩ = some (.int .i64 a1_4) := (blk_cell BK352.out 4).trans rfl
          have hcz49_5 : wr.cell? ⟨gb352, 5, none⟩ = some (.int .i64 a1_5) := (blk_cell BK352.out 5).trans rfl
          have hcz49_6 : wr.cell? ⟨gb352, 6, none⟩ = some (.slice A1_6 l1_6.length c1_6) := (blk_cell BK352.out 6).trans rfl
          have hcz49_7 : wr.cell? ⟨gb352, 7, none⟩ = some (.string a1_7) := (blk_cell BK352.out 7).trans rfl
          have hcz49_8 : wr.cell? ⟨gb352, 8, none⟩ = some (.slice A1_8 l1_8.length c1_8) := (blk_cell BK352.out 8).trans rfl
          have hfz49_0 := blk_frozen BK352.out 0
          have hfz49_1 := blk_frozen BK352.out 1
          have hfz49_2 := blk_frozen BK352.out 2
          have hfz49_3 := blk_frozen BK352.out 3
          have hfz49_4 := blk_frozen BK352.out 4
          have hfz49_5 := blk_frozen BK352.out 5
          have hfz49_6 := blk_frozen BK352.out 6
          have hfz49_7 := blk_frozen BK352.out 7
          have hfz49_8 := blk_frozen BK352.out 8
          have p355 : 0 ≤ (x5_2 : Int) := of_decide_eq_true (by (with_reducible assumption))
          have q355 : x5_2 < (l1_8.length : Int) := of_decide_eq_true (by (with_reducible assumption))
          obtain ⟨ad355, e355, hx355_0, hx355_1, hx355_2⟩ := at_T104 HR1_8.out x5_2 p355 q355
          cases e355
          replace hx355_0 := (HB.out.cell (World.block_lt_of_cell? w _ hx355_0)).trans hx355_0
          replace hx355_1 := (HB.out.cell (World.block_lt_of_cell? w _ hx355_1)).trans hx355_1
          replace hx355_2 := (HB.out.cell (World.block_lt_of_cell? w _ hx355_2)).trans hx355_2
          replace p355 := eq_true p355
          replace q355 := eq_true q355
          go_wp2
          repeat (go_quiet (fail); try go_wp2)
          go_ret
          exact ⟨by (rfl), by repeat ((with_reducible first | exact HB.out | apply pw_below_drewN))⟩
         ·rw [if_neg c46] at H
          have c46b0 : ((!(((rd_T104 l0_8 x5_2).f0.f0) == ((rd_T104 l1_8 x5_2).f0.f0)) || (!(((rd_T104 l0_8 x5_2).f0.f1) == ((rd_T104 l1_8 x5_2).f0.f1)))) || (!(((rd_T104 l0_8 x5_2).f1) == ((rd_T104 l1_8 x5_2).f1)))) = false := by simpa using c46
          clear c46
          have H' := Aside0.mk H
          clear H
          have hnb50 := NB351_352.out
          have hnc50 := NB352_351.out
          have hcz51_0 : wr.cell? ⟨gb351, 0, none⟩ = some (.int .i64 a0_0) := (blk_cell BK351.out 0).trans rfl
          have hcz51_1 : wr.cell? ⟨gb351, 1, none⟩ = some (.int .i64 a0_1) := (blk_cell BK351.out 1).trans rfl
          have hcz51_2 : wr.cell? ⟨gb351, 2, none⟩ = some (.int .i64 a0_2) := (blk_cell BK351.out 2).trans rfl
          have hcz51_3 : wr.cell? ⟨gb351, 3, none⟩ = some (.int .i64 a0_3) := (blk_cell BK351.out 3).trans rfl
          have hcz51_4 : wr.cell? ⟨gb351, 4, none⟩ = some (.int .i64 a0_4) := (blk_cell BK351.out 4).trans rfl
          have hcz51_5 : wr.cell? ⟨gb351, 5, none⟩ = some (.int .i64 a0_5) := (blk_cell BK351.out 5).trans rfl
          have hcz51_6 : wr.cell? ⟨gb351, 6, none⟩ = some (.slice A0_6 l0_6.length c0_6) := (blk_cell BK351.out 6).trans rfl
          have hcz51_7 : wr.cell? ⟨gb351, 7, none⟩ = some (.string a0_7) := (blk_cell BK351.out 7).trans rfl
          have hcz51_8 : wr.cell? ⟨gb351, 8, none⟩ = some (.slice A0_8 l0_8.length c0_8) := (blk_cell BK351.out 8).trans rfl
          have hfz51_0 := blk_frozen BK351.out 0
          have hfz51_1 := blk_frozen BK351.out 1
          have hfz51_2 := blk_frozen BK351.out 2
          have hfz51_3 := blk_frozen BK351.out 3
          have hfz51_4 := blk_frozen BK351.out 4
          have hfz51_5 := blk_frozen BK351.out 5
          have hfz51_6 := blk_frozen BK351.out 6
          have hfz51_7 := blk_frozen BK351.out 7
          have hfz51_8 := blk_frozen BK351.out 8
          have p354 : 0 ≤ (x5_2 : Int) := of_decide_eq_true (by (with_reducible assumption))
          have q354 : x5_2 < (l0_8.length : Int) := of_decide_eq_true (by (with_reducible assumption))
          obtain ⟨ad354, e354, hx354_0, hx354_1, hx354_2⟩ := at_T104 HR0_8.out x5_2 p354 q354
          cases e354
          replace hx354_0 := (HB.out.cell (World.block_lt_of_cell? w _ hx354_0)).trans hx354_0
          replace hx354_1 := (HB.out.cell (World.block_lt_of_cell? w _ hx354_1)).trans hx354_1
          replace hx354_2 := (HB.out.cell (World.block_lt_of_cell? w _ hx354_2)).trans hx354_2
          replace p354 := eq_true p354
          replace q354 := eq_true q354
          have hcz52_0 : wr.cell? ⟨gb352, 0, none⟩ = some (.int .i64 a1_0) := (blk_cell BK352.out 0).trans rfl
          have hcz52_1 : wr.cell? ⟨gb352, 1, none⟩ = some (.int .i64 a1_1) := (blk_cell BK352.out 1).trans rfl
          have hcz52_2 : wr.cell? ⟨gb352, 2, none⟩ = some (.int .i64 a1_2) := (blk_cell BK352.out 2).trans rfl
          have hcz52_3 : wr.cell? ⟨gb352, 3, none⟩ = some (.int .i64 a1_3) := (blk_cell BK352.out 3).trans rfl
          have hcz52_4 : wr.cell? ⟨gb352, 4, none⟩ = some (.int .i64 a1_4) := (blk_cell BK352.out 4).trans rfl
          have hcz52_5 : wr.cell? ⟨gb352, 5, none⟩ = some (.int .i64 a1_5) := (blk_cell BK352.out 5).trans rfl
          have hcz52_6 : wr.cell? ⟨gb352, 6, none⟩ = some (.slice A1_6 l1_6.length c1_6) := (blk_cell BK352.out 6).trans rfl
          have hcz52_7 : wr.cell? ⟨gb352, 7, none⟩ = some (.string a1_7) := (blk_cell BK352.out 7).trans rfl
          have hcz52_8 : wr.cell? ⟨gb352, 8, none⟩ = some (.slice A1_8 l1_8.length c1_8) := (blk_cell BK352.out 8).trans rfl
          have hfz52_0 := blk_frozen BK352.out 0
          have hfz52_1 := blk_frozen BK352.out 1
          have hfz52_2 := blk_frozen BK352.out 2
          have hfz52_3 := blk_frozen BK352.out 3
          have hfz52_4 := blk_frozen BK352.out 4
          have hfz52_5 := blk_frozen BK352.out 5
          have hfz52_6 := blk_frozen BK352.out 6
          have hfz52_7 := blk_frozen BK352.out 7
          have hfz52_8 := blk_frozen BK352.out 8
          have p355 : 0 ≤ (x5_2 : Int) := of_decide_eq_true (by (with_reducible assumption))
          have q355 : x5_2 < (l1_8.length : Int) := of_decide_eq_true (by (with_reducible assumption))
          obtain ⟨ad355, e355, hx355_0, hx355_1, hx355_2⟩ := at_T104 HR1_8.out x5_2 p355 q355
          cases e355
          replace hx355_0 := (HB.out.cell (World.block_lt_of_cell? w _ hx355_0)).trans hx355_0
          replace hx355_1 := (HB.out.cell (World.block_lt_of_cell? w _ hx355_1)).trans hx355_1
          replace hx355_2 := (HB.out.cell (World.block_lt_of_cell? w _ hx355_2)).trans hx355_2
          replace p355 := eq_true p355
          replace q355 := eq_true q355
          go_wp2
          repeat (go_quiet (fail); try go_wp2)
          go_roundg k2
          case measure => have := HJ2.out; have := HK2.out; omega
          case rel => exact ⟨(wrap64 (x5_2 + 1)), (by (rfl)), H', ⟨by have := HJ2.out; have := HK2.out; omega⟩, ⟨by (with_reducible repeat ((refine blk_drewN ?_ _))); exact BK351.out⟩, ⟨by (with_reducible repeat ((refine blk_drewN ?_ _))); exact BK352.out⟩, ⟨by repeat ((with_reducible first | exact HB.out | apply pw_below_drewN))⟩⟩
        ·rw [if_neg c45] at H
         exact absurd H (by simp)
       ·rw [if_neg c44] at H
        exact absurd H (by simp)
      ·rw [if_neg c43] at H
       have c43b0 : decide (x5_2 < (l0_8.length : Int)) = false := decide_eq_false c43
       clear c43
       obtain rfl := Option.some.inj H
       have hnb53 := NB351_352.out
       have hnc53 := NB352_351.out
       have hcz54_0 : wr.cell? ⟨gb351, 0, none⟩ = some (.int .i64 a0_0) := (blk_cell BK351.out 0).trans rfl
       have hcz54_1 : wr.cell? ⟨gb351, 1, none⟩ = some (.int .i64 a0_1) := (blk_cell BK351.out 1).trans rfl
       have hcz54_2 : wr.cell? ⟨gb351, 2, none⟩ = some (.int .i64 a0_2) := (blk_cell BK351.out 2).trans rfl
       have hcz54_3 : wr.cell? ⟨gb351, 3, none⟩ = some (.int .i64 a0_3) := (blk_cell BK351.out 3).trans rfl
       have hcz54_4 : wr.cell? ⟨gb351, 4, none⟩ = some (.int .i64 a0_4) := (blk_cell BK351.out 4).trans rfl
       have hcz54_5 : wr.cell? ⟨gb351, 5, none⟩ = some (.int .i64 a0_5) := (blk_cell BK351.out 5).trans rfl
       have hcz54_6 : wr.cell? ⟨gb351, 6, none⟩ = some (.slice A0_6 l0_6.length c0_6) := (blk_cell BK351.out 6).trans rfl
       have hcz54_7 : wr.cell? ⟨gb351, 7, none⟩ = some (.string a0_7) := (blk_cell BK351.out 7).trans rfl
       have hcz54_8 : wr.cell? ⟨gb351, 8, none⟩ = some (.slice A0_8 l0_8.length c0_8) := (blk_cell BK351.out 8).trans rfl
       have hfz54_0 := blk_frozen BK351.out 0
       have hfz54_1 := blk_frozen BK351.out 1
       have hfz54_2 := blk_frozen BK351.out 2
       have hfz54_3 := blk_frozen BK351.out 3
       have hfz54_4 := blk_frozen BK351.out 4
       have hfz54_5 := blk_frozen BK351.out 5
       have hfz54_6 := blk_frozen BK351.out 6
       have hfz54_7 := blk_frozen BK351.out 7
       have hfz54_8 := blk_frozen BK351.out 8
       go_wp2
       repeat (go_quiet (fail); try go_wp2)
       go_ret
       exact ⟨by (rfl), by repeat ((with_reducible (exact HB.out)))⟩
end Go.Proofs.Ytedfcjcnhgomoaa.P
end
-- MERGED YtedfcjcnhgomoaaPapiRun71
section
namespace Go.Proofs.Ytedfcjcnhgomoaa.P
open Go.RowKit Go.Proofs.YtedfcjcnhgomoaaW.PrintWords Go.Proofs.YtedfcjcnhgomoaaW.PrintLast Go.Proofs.YtedfcjcnhgomoaaW.PrintMore
attribute [local go_sem] max2_int min2_int max_two min_two max_three min_three max_four min_four   -- for this text's walks alone
set_option linter.unusedVariables false
set_option linter.unusedSimpArgs false
attribute [local go_sem high] eqA85
def api_Run_71.l0 : Nat → List (S85) → List (S85) → Int → Int → Option (Bool)
 | 0, _, _, _, _ => none
 | k + 1, x0, x1, x12, x13 => if x13 < x12 then (if 0 ≤ x13 then (if x13 < (x0.length : Int) then (if x13 < (x1.length : Int) then (if (!(((rd_T85 x0 x13).f0) == ((rd_T85 x1 x13).f0)) || (!((((rd_T85 x0 x13).f1).toList) == (((rd_T85 x1 x13).f1).toList)) || (!(((rd_T85 x0 x13).f2) == ((rd_T85 x1 x13).f2))))) = true then (some false) else (api_Run_71.l0 k x0 x1 x12 (wrap64 (x13 + 1)))) else (none)) else (none)) else (none)) else (some true)
def api_Run_71.f (k : Nat) (l0 : List (S85)) (l1 : List (S85)) : Option (Bool) := if (l0.length : Int) = (l1.length : Int) then (api_Run_71.l0 k l0 l1 (l0.length : Int) 0) else (some false)
end Go.Proofs.Ytedfcjcnhgomoaa.P
end
-- MERGED YtedfcjcnhgomoaaPapiNote72
section
namespace Go.Proofs.Ytedfcjcnhgomoaa.P
open Go.RowKit Go.Proofs.YtedfcjcnhgomoaaW.PrintWords Go.Proofs.YtedfcjcnhgomoaaW.PrintLast Go.Proofs.YtedfcjcnhgomoaaW.PrintMore
attribute [local go_sem] max2_int min2_int max_two min_two max_three min_three max_four min_four   -- for this text's walks alone
set_option linter.unusedVariables false
set_option linter.unusedSimpArgs false
attribute [local go_sem high] eqA104
def api_Note_72.l0 : Nat → List (S104) → List (S104) → Int → Int → Option (Bool)
 | 0, _, _, _, _ => none
 | k + 1, x0, x1, x12, x13 => if x13 < x12 then (if 0 ≤ x13 then (if x13 < (x0.length : Int) then (if x13 < (x1.length : Int) then (if ((!(((rd_T104 x0 x13).f0.f0) == ((rd_T104 x1 x13).f0.f0)) || (!(((rd_T104 x0 x13).f0.f1) == ((rd_T104 x1 x13).f0.f1)))) || (!(((rd_T104 x0 x13).f1) == ((rd_T104 x1 x13).f1)))) = true then (some false) else (api_Note_72.l0 k x0 x1 x12 (wrap64 (x13 + 1)))) else (none)) else (none)) else (none)) else (some true)
def api_Note_72.f (k : Nat) (l0 : List (S104)) (l1 : List (S104)) : Option (Bool) := if (l0.length : Int) = (l1.length : Int) then (api_Note_72.l0 k l0 l1 (l0.length : Int) 0) else (some false)
end Go.Proofs.Ytedfcjcnhgomoaa.P
end
-- MERGED YtedfcjcnhgomoaaMsgS
section
namespace Go.Proofs.Ytedfcjcnhgomoaa.MsgS
open Go.RowKit Go.Proofs.Ytedfcjcnhgomoaa.EditK Go.Proofs.Ytedfcjcnhgomoaa.P Go.Proofs.YtedfcjcnhgomoaaW.PrintWords Go.Proofs.YtedfcjcnhgomoaaW.PrintLast Go.Proofs.YtedfcjcnhgomoaaW.PrintMore Go.Proofs.Ytedfcjcnhgomoaa.Own Go.Proofs.Ytedfcjcnhgomoaa.NoteN Go.Proofs.Ytedfcjcnhgomoaa.MsgA Go.Proofs.Ytedfcjcnhgomoaa.MsgD Go.Proofs.Ytedfcjcnhgomoaa.MsgW Go.Proofs.Ytedfcjcnhgomoaa.MsgE
set_option linter.unusedSimpArgs false
set_option linter.unusedVariables false
abbrev Rn := EditL.Rn
theorem tl_inj {a b : ByteArray} (h : a.toList = b.toList) : a = b := by
 rw [ByteArray.toList_eq, ByteArray.toList_eq] at h
 obtain ⟨⟨x⟩⟩ := a
 obtain ⟨⟨y⟩⟩ := b
 have : x = y := h
 rw [this]
theorem run_ne {x y : Rn} : (!(x.f0 == y.f0) || (!(x.f1.toList == y.f1.toList) || (!(x.f2 == y.f2)))) = true ↔ x ≠ y := by
 rw [Bool.or_eq_true, Bool.or_eq_true, Bool.not_eq_true', Bool.not_eq_true', Bool.not_eq_true', beq_eq_false_iff_ne, beq_eq_false_iff_ne, beq_eq_false_iff_ne]
 obtain ⟨a, b, c⟩ := x
 obtain ⟨a', b', c'⟩ := y
 simp only
 constructor
 ·rintro h e
  injection e with e1 e2 e3
  subst e1; subst e2; subst e3
  rcases h with h | h | h <;> exact h rfl
 ·intro h
  by_cases h1 : a = a'
  ·by_cases h3 : c = c'
   ·refine .inr (.inl fun e => h ?_)
    rw [h1, h3, tl_inj e]
   ·exact .inr (.inr h3)
  ·exact .inl h1
theorem note_ne {x y : Nt} : ((!(x.f0.f0 == y.f0.f0) || (!(x.f0.f1 == y.f0.f1))) || (!(x.f1 == y.f1))) = true ↔ x ≠ y := by
 rw [Bool.or_eq_true, Bool.or_eq_true, Bool.not_eq_true', Bool.not_eq_true', Bool.not_eq_true', beq_eq_false_iff_ne, beq_eq_false_iff_ne, beq_eq_false_iff_ne]
 obtain ⟨⟨a, b⟩, c⟩ := x
 obtain ⟨⟨a', b'⟩, c'⟩ := y
 simp only
 constructor
 ·rintro h e
  injection e with e1 e3
  injection e1 with e1 e2
  subst e1; subst e2; subst e3
  rcases h with (h | h) | h <;> exact h rfl
 ·intro h
  by_cases h1 : a = a'
  ·by_cases h2 : b = b'
   ·exact .inr fun e => h (by rw [h1, h2, e])
   ·exact .inl (.inr h2)
  ·exact .inl (.inl h1)
theorem snoc' {α : Type} {l pre suf : List α} {r : α} (h : l = pre ++ r :: suf) : l = (pre ++ [r]) ++ suf ∧ ((pre ++ [r]).length : Int) = (pre.length : Int) + 1 ∧ (pre.length : Int) < (l.length : Int) := by
 refine ⟨by rw [h]; simp, by simp, by rw [h]; simp; omega⟩
theorem nt_at {l pre suf : List Nt} {r : Nt} (h : l = pre ++ r :: suf) : rd_T104 l (pre.length : Int) = r := by
 subst h
 unfold rd_T104
 rw [Int.toNat_natCast, List.getD_eq_getElem?_getD, List.getElem?_append_right (Nat.le_refl _), Nat.sub_self]; rfl
theorem r6_l (x y : List Rn) (hx : x.length ≤ 140737488351232) : ∀ (s t pre pre' : List Rn) (k : Nat), x = pre ++ s → y = pre' ++ t → pre.length = pre'.length → s.length = t.length → s.length < k →
  ∃ b, variorumref06_Same.l0 k x y (pre.length : Int) = some b ∧ (b = true ↔ s = t) := by
 intro s
 induction s with
 | nil =>
  intro t pre pre' k hxe hye hpp hst hk
  obtain ⟨k, rfl⟩ : ∃ m, k = m + 1 := ⟨k - 1, by omega⟩
  obtain rfl : t = [] := List.eq_nil_of_length_eq_zero hst.symm
  have : x.length = pre.length := by rw [hxe]; simp
  simp only [variorumref06_Same.l0]
  rw [if_neg (by omega)]
  exact ⟨true, rfl, by simp⟩
 | cons r s ih =>
  intro t pre pre' k hxe hye hpp hst hk
  obtain ⟨k, rfl⟩ : ∃ m, k = m + 1 := ⟨k - 1, by omega⟩
  cases t with
  | nil => simp at hst
  | cons q t =>
   obtain ⟨hl2, hn, hlt⟩ := snoc' hxe
   obtain ⟨hl2', hn', hlt'⟩ := snoc' hye
   obtain ⟨b, hb, hb2⟩ := ih t (pre ++ [r]) (pre' ++ [q]) k hl2 hl2' (by simp [hpp]) (by simpa using hst) (by simp at hk; omega)
   rw [hn] at hb
   have e1 := rd_at hxe
   have e2 := rd_at hye
   rw [← hpp] at e2
   simp only [variorumref06_Same.l0]
   rw [if_pos hlt, if_pos (by omega), if_pos (by omega), e1, e2, w64 (x := (pre.length : Int) + 1) (by omega) (by omega), hb]
   by_cases h : r = q
   ·rw [if_neg (fun h2 => run_ne.1 h2 h)]
    exact ⟨b, rfl, by rw [hb2]; simp [h]⟩
   ·rw [if_pos (run_ne.2 h)]
    exact ⟨false, rfl, by simp [h]⟩
theorem r6_f {x y : List Rn} (hx : x.length ≤ 140737488351232) (k : Nat) (hk : x.length < k) : ∃ b, variorumref06_Same.f k x y = some b ∧ (b = true ↔ x = y) := by
 unfold variorumref06_Same.f
 by_cases h : x.length = y.length
 ·rw [if_pos (by omega)]
  exact r6_l x y hx x y [] [] k rfl rfl rfl h hk
 ·rw [if_neg (by omega)]
  exact ⟨false, rfl, by simp; intro e; exact h (by rw [e])⟩
theorem r11_l (x y : List Nt) (hx : x.length ≤ 140737488351232) (p0 p1 p2 p3 p4 p5 : Int) (p6 : List Rn) (p7 : ByteArray) (q0 q1 q2 q3 q4 q5 : Int) (q6 : List Rn) (q7 : ByteArray) : ∀ (s t pre pre' : List Nt) (k : Nat), x = pre ++ s → y = pre' ++ t → pre.length = pre'.length → s.length = t.length → s.length < k →
  ∃ b, variorumref11_Same.l0 k (pre.length : Int) p0 p1 p2 p3 p4 p5 p6 p7 x q0 q1 q2 q3 q4 q5 q6 q7 y = some b ∧ (b = true ↔ s = t) := by
 intro s
 induction s with
 | nil =>
  intro t pre pre' k hxe hye hpp hst hk
  obtain ⟨k, rfl⟩ : ∃ m, k = m + 1 := ⟨k - 1, by omega⟩
  obtain rfl : t = [] := List.eq_nil_of_length_eq_zero hst.symm
  have : x.length = pre.length := by rw [hxe]; simp
  simp only [variorumref11_Same.l0]
  rw [if_neg (by omega)]
  exact ⟨true, rfl, by simp⟩
 | cons r s ih =>
  intro t pre pre' k hxe hye hpp hst hk
  obtain ⟨k, rfl⟩ : ∃ m, k = m + 1 := ⟨k - 1, by omega⟩
  cases t with
  | nil => simp at hst
  | cons q t =>
   obtain ⟨hl2, hn, hlt⟩ := snoc' hxe
   obtain ⟨hl2', hn', hlt'⟩ := snoc' hye
   obtain ⟨b, hb, hb2⟩ := ih t (pre ++ [r]) (pre' ++ [q]) k hl2 hl2' (by simp [hpp]) (by simpa using hst) (by simp at hk; omega)
   rw [hn] at hb
   have e1 := nt_at hxe
   have e2 := nt_at hye
   rw [← hpp] at e2
   simp only [variorumref11_Same.l0]
   rw [if_pos hlt, if_pos (by omega), if_pos (by omega), e1, e2, w64 (x := (pre.length : Int) + 1) (by omega) (by omega), hb]
   by_cases h : r = q
   ·rw [if_neg (fun h2 => note_ne.1 h2 h)]
    exact ⟨b, rfl, by rw [hb2]; simp [h]⟩
   ·rw [if_pos (note_ne.2 h)]
    exact ⟨false, rfl, by simp [h]⟩
theorem j0_r (k : Nat) (z : Bool) (a b : Ms) (hz : z = false → ∃ r, variorumref11_Same.l0 k 0 a.k a.c a.e a.r a.s a.d a.o a.t a.n b.k b.c b.e b.r b.s b.d b.o b.t b.n = some r ∧ (r = true ↔ a.n = b.n)) : ∃ r, variorumref11_Same.j0 (k + 1) z a.k a.c a.e a.r a.s a.d a.o a.t a.n b.k b.c b.e b.r b.s b.d b.o b.t b.n = some r ∧ (r = true ↔ (z = false ∧ a.n = b.n)) := by
 simp only [variorumref11_Same.j0]
 cases z with
 | true => exact ⟨false, by rw [if_pos (by trivial)], by simp⟩
 | false =>
  obtain ⟨r, h1, h2⟩ := hz rfl
  exact ⟨r, by rw [if_neg (by simp)]; exact h1, by rw [h2]; simp⟩
theorem rsame_f (a b : Ms) (ho : a.o.length ≤ 1000000) (hn : a.n.length ≤ 1000000) (k : Nat) (hk : 2000000 ≤ k) : ∃ r, variorumref11_Same.f k a.k a.c a.e a.r a.s a.d a.o a.t a.n b.k b.c b.e b.r b.s b.d b.o b.t b.n = some r ∧ (r = true ↔ a = b) := by
 obtain ⟨k, rfl⟩ : ∃ m, k = m + 1 := ⟨k - 1, by omega⟩
 unfold variorumref11_Same.f
 have no : ∀ (P : Prop), (P → a ≠ b) → P → ∃ r, variorumref11_Same.j0 (k + 1) true a.k a.c a.e a.r a.s a.d a.o a.t a.n b.k b.c b.e b.r b.s b.d b.o b.t b.n = some r ∧ (r = true ↔ a = b) := fun P h hp => by
  obtain ⟨r, h1, h2⟩ := j0_r k true a b (fun h => by cases h)
  exact ⟨r, h1, by rw [h2]; simp [h hp]⟩
 by_cases h0 : a.k = b.k
 ·rw [if_pos h0]
  by_cases h1 : a.c = b.c
  ·rw [if_pos h1]
   by_cases h2 : a.e = b.e
   ·rw [if_pos h2]
    by_cases h3 : a.r = b.r
    ·rw [if_pos h3]
     by_cases h4 : a.s = b.s
     ·rw [if_pos h4]
      by_cases h5 : a.d = b.d
      ·rw [if_pos h5]
       by_cases h6 : a.t.toList = b.t.toList
       ·rw [if_pos h6]
        by_cases h7 : a.n.length = b.n.length
        ·rw [if_pos (by omega)]
         obtain ⟨q, hq, hq2⟩ := r6_f (x := a.o) (y := b.o) (by omega) (k + 1) (by omega)
         rw [hq, Option.bind_some]
         obtain ⟨r, e1, e2⟩ := j0_r k (!q) a b (fun _ => r11_l a.n b.n (by omega) a.k a.c a.e a.r a.s a.d a.o a.t b.k b.c b.e b.r b.s b.d b.o b.t a.n b.n [] [] k rfl rfl rfl h7 (by omega))
         refine ⟨r, e1, ?_⟩
         rw [e2, Bool.not_eq_false', hq2]
         obtain ⟨a0, a1, a2, a3, a4, a5, a6, a7, a8⟩ := a
         obtain ⟨b0, b1, b2, b3, b4, b5, b6, b7, b8⟩ := b
         simp only at h0 h1 h2 h3 h4 h5 h6 ⊢
         have h6 := tl_inj h6
         subst h0 h1 h2 h3 h4 h5 h6
         simp
        ·rw [if_neg (by omega)]; exact no _ (fun h e => h (by rw [e])) h7
       ·rw [if_neg h6]; exact no _ (fun h e => h (by rw [e])) h6
      ·rw [if_neg h5]; exact no _ (fun h e => h (by rw [e])) h5
     ·rw [if_neg h4]; exact no _ (fun h e => h (by rw [e])) h4
    ·rw [if_neg h3]; exact no _ (fun h e => h (by rw [e])) h3
   ·rw [if_neg h2]; exact no _ (fun h e => h (by rw [e])) h2
  ·rw [if_neg h1]; exact no _ (fun h e => h (by rw [e])) h1
 ·rw [if_neg h0]; exact no _ (fun h e => h (by rw [e])) h0
end Go.Proofs.Ytedfcjcnhgomoaa.MsgS
end
-- MERGED YtedfcjcnhgomoaaPvariorumlaw06Light
section
namespace Go.Proofs.Ytedfcjcnhgomoaa.P
open Go.RowKit Go.Proofs.YtedfcjcnhgomoaaW.PrintWords Go.Proofs.YtedfcjcnhgomoaaW.PrintLast Go.Proofs.YtedfcjcnhgomoaaW.PrintMore
attribute [local go_sem] max2_int min2_int max_two min_two max_three min_three max_four min_four   -- for this text's walks alone
set_option linter.unusedVariables false
set_option linter.unusedSimpArgs false
def variorumlaw06_Light.l0 : Nat → List (S85) → Int → Int → Option (Bool)
 | 0, _, _, _ => none
 | k + 1, x8, x9, x10 => if x10 < x9 then (if 0 ≤ x10 then (if x10 < (x8.length : Int) then (if (((rd_T85 x8 x10).f1).size : Int) > 200 then (some false) else (variorumlaw06_Light.l0 k x8 x9 (wrap64 (x10 + 1)))) else (none)) else (none)) else (some true)
def variorumlaw06_Light.f (k : Nat) (l0 : List (S85)) : Option (Bool) := if (l0.length : Int) > 100 then (some false) else (variorumlaw06_Light.l0 k l0 (l0.length : Int) 0)
set_option maxHeartbeats 8000000 in
set_option maxRecDepth 100000 in
theorem variorumlaw06_Light.calls (k : Nat) (A0 : Option Addr) (c0 : Nat) (l0 : List (S85)) (r : Bool) (w : World) (hr0 : Kd.C k85 w A0 l0.length l0) (hc0 : l0.length ≤ c0) (h : variorumlaw06_Light.f k l0 = some r) :
  Calls Try.prog 56 #[.slice A0 l0.length c0] w fun e w' => e = .returned (.bool r) ∧ Below w.heap.size w w' := by
 have hu85 := Try.underlying85
 have HR0 := Aside0.mk hr0
 have HC0 := Aside0.mk hc0
 clear hr0 hc0
 have HB := Aside0.mk (Below.refl w.heap.size w)
 have H : (if (l0.length : Int) > 100 then (some false) else (variorumlaw06_Light.l0 k l0 (l0.length : Int) 0)) = some r := h
 clear h
 by_cases c2 : (l0.length : Int) > 100
 ·rw [if_pos c2] at H
  have c2b0 : decide (100 < (l0.length : Int)) = true := decide_eq_true c2
  have c2b1 : decide (100 < l0.length) = true := decide_eq_true (by omega)
  clear c2
  obtain rfl := Option.some.inj H
  go_enter Try.func56, Try.ntmps56
  go_wp2
  go_ret
  exact ⟨by first | rfl | (simp [errW_none, errW_some] <;> rfl) | (simp [*, errW_none, errW_some] <;> rfl), by repeat (first | (with_reducible first | exact HB.out | apply below_alloc | apply pw_below_drewN | apply below_drew1) | exact HB.out)⟩
 ·rw [if_neg c2] at H
  have c2b0 : decide (100 < (l0.length : Int)) = false := decide_eq_false c2
  have c2b1 : decide (100 < l0.length) = false := decide_eq_false (by omega)
  clear c2
  have H' := Aside0.mk H
  clear H
  go_enter Try.func56, Try.ntmps56
  go_wp2
  go_loopg [10] k (fun kq v10 w' => ∃ (x10_1 : Int), v10 = .int .i64 x10_1 ∧ Aside0 (variorumlaw06_Light.l0 kq l0 (l0.length : Int) x10_1 = some r) ∧ Aside0 (kq ≤ k) ∧ Aside0 (Below w.heap.size w w'))
  case atStart => exact ⟨(0), (by first | rfl | (simp; done) | (simp [*]; done)), H', ⟨Nat.le_refl _⟩, ⟨by repeat (first | (with_reducible first | exact HB.out | apply below_alloc | apply pw_below_drewN | apply below_drew1) | exact HB.out)⟩⟩
  case round =>
   clear H'
   try clear c2
   try clear c2b0
   try clear c2b1
   try clear p2
   obtain ⟨x10_1, rfl, HA, HK1, HB⟩ := hrel
   cases gk with
   | zero => exact absurd HA.out (by simp [variorumlaw06_Light.l0])
   | succ k1 =>
    have H := HA.out
    clear HA
    simp only [variorumlaw06_Light.l0] at H
    by_cases c3 : x10_1 < (l0.length : Int)
    ·rw [if_pos c3] at H
     have c3b0 : decide (x10_1 < (l0.length : Int)) = true := decide_eq_true c3
     clear c3
     by_cases c4 : 0 ≤ x10_1
     ·rw [if_pos c4] at H
      have c4b0 : decide (0 ≤ x10_1) = true := decide_eq_true c4
      clear c4
      by_cases c5 : x10_1 < (l0.length : Int)
      ·rw [if_pos c5] at H
       have c5b0 : decide (x10_1 < (l0.length : Int)) = true := decide_eq_true c5
       clear c5
       by_cases c6 : (((rd_T85 l0 x10_1).f1).size : Int) > 200
       ·rw [if_pos c6] at H
        have c6b0 : decide (200 < (((rd_T85 l0 x10_1).f1).size : Int)) = true := decide_eq_true c6
        have c6b1 : decide (200 < ((rd_T85 l0 x10_1).f1).size) = true := decide_eq_true (by omega)
        clear c6
        obtain rfl := Option.some.inj H
        have p217 : 0 ≤ (x10_1 : Int) := of_decide_eq_true (by first | (with_reducible assumption) | assumption)
        have q217 : x10_1 < (l0.length : Int) := of_decide_eq_true (by first | (with_reducible assumption) | assumption)
        obtain ⟨ad217, e217, hx217_0, hx217_1, hx217_2⟩ := at_T85 HR0.out x10_1 p217 q217
        cases e217
        replace hx217_0 := (HB.out.cell (World.block_lt_of_cell? w _ hx217_0)).trans hx217_0
        replace hx217_1 := (HB.out.cell (World.block_lt_of_cell? w _ hx217_1)).trans hx217_1
        replace hx217_2 := (HB.out.cell (World.block_lt_of_cell? w _ hx217_2)).trans hx217_2
        replace p217 := eq_true p217
        replace q217 := eq_true q217
        go_wp2_with (first | ((with_reducible refine gate_dst (N := 4) rfl ?_); refine box_event ?hg (N := 4) ?hd (cs := #[.int .i64 0, .string (⟨#[]⟩ : ByteArray), .int .i64 0]) (t := 85) ?hr ?_; (case hd => rfl); (case hg => rfl); (case hr => first | (go_simp; done) | (go_simp; rfl)); intro gb218 hg w7 hbox hb; have n0_ := Aside0.mk (below_step (by repeat (first | (with_reducible first | exact HB.out | apply below_alloc | apply pw_below_drewN | apply below_drew1) | exact HB.out)) hb); have n1_ := Aside0.mk (hbox); have n2_ := Aside0.mk ((by rw [hg]; exact (below_size (by repeat (first | (with_reducible first | exact HB.out | apply below_alloc | apply pw_below_drewN | apply below_drew1) | exact HB.out))) : w.heap.size ≤ gb218)); have n3_ := Aside0.mk ((by rw [hg]; exact (below_size (by repeat (first | (with_reducible first | exact HB.out | apply below_alloc | apply pw_below_drewN | apply below_drew1) | exact HB.out))) : w.heap.size ≤ gb218)); clear HB; have HB := n0_; have BK218 := n1_; have GW218 := n2_; have GE218 := n3_; clear n0_ n1_ n2_ n3_; clear hb hbox hg; have hcz8_0 : w7.cell? ⟨gb218, 0, none⟩ = some (.int .i64 0) := (blk_cell BK218.out 0).trans rfl; have hcz8_1 : w7.cell? ⟨gb218, 1, none⟩ = some (.string (⟨#[]⟩ : ByteArray)) := (blk_cell BK218.out 1).trans rfl; have hcz8_2 : w7.cell? ⟨gb218, 2, none⟩ = some (.int .i64 0) := (blk_cell BK218.out 2).trans rfl; have hfz8_0 := blk_frozen BK218.out 0; have hfz8_1 := blk_frozen BK218.out 1; have hfz8_2 := blk_frozen BK218.out 2))
        go_ret
        exact ⟨by first | rfl | (simp [errW_none, errW_some] <;> rfl) | (simp [*, errW_none, errW_some] <;> rfl), by repeat (first | (with_reducible first | exact HB.out | apply below_alloc | apply pw_below_drewN | apply below_drew1 | refine below_set ?_ GE218.out) | exact HB.out)⟩
       ·rw [if_neg c6] at H
        have c6b0 : decide (200 < (((rd_T85 l0 x10_1).f1).size : Int)) = false := decide_eq_false c6
        have c6b1 : decide (200 < ((rd_T85 l0 x10_1).f1).size) = false := decide_eq_false (by omega)
        clear c6
        have H' := Aside0.mk H
        clear H
        have p217 : 0 ≤ (x10_1 : Int) := of_decide_eq_true (by first | (with_reducible assumption) | assumption)
        have q217 : x10_1 < (l0.length : Int) := of_decide_eq_true (by first | (with_reducible assumption) | assumption)
        obtain ⟨ad217, e217, hx217_0, hx217_1, hx217_2⟩ := at_T85 HR0.out x10_1 p217 q217
        cases e217
        replace hx217_0 := (HB.out.cell (World.block_lt_of_cell? w _ hx217_0)).trans hx217_0
        replace hx217_1 := (HB.out.cell (World.block_lt_of_cell? w _ hx217_1)).trans hx217_1
        replace hx217_2 := (HB.out.cell (World.block_lt_of_cell? w _ hx217_2)).trans hx217_2
        replace p217 := eq_true p217
        replace q217 := eq_true q217
        go_wp2_with (first | ((with_reducible refine gate_dst (N := 4) rfl ?_); refine box_event ?hg (N := 4) ?hd (cs := #[.int .i64 0, .string (⟨#[]⟩ : ByteArray), .int .i64 0]) (t := 85) ?hr ?_; (case hd => rfl); (case hg => rfl); (case hr => first | (go_simp; done) | (go_simp; rfl)); intro gb218 hg w9 hbox hb; have n0_ := Aside0.mk (below_step (by repeat (first | (with_reducible first | exact HB.out | apply below_alloc | apply pw_below_drewN | apply below_drew1) | exact HB.out)) hb); have n1_ := Aside0.mk (hbox); have n2_ := Aside0.mk ((by rw [hg]; exact (below_size (by repeat (first | (with_reducible first | exact HB.out | apply below_alloc | apply pw_below_drewN | apply below_drew1) | exact HB.out))) : w.heap.size ≤ gb218)); have n3_ := Aside0.mk ((by rw [hg]; exact (below_size (by repeat (first | (with_reducible first | exact HB.out | apply below_alloc | apply pw_below_drewN | apply below_drew1) | exact HB.out))) : w.heap.size ≤ gb218)); clear HB; have HB := n0_; have BK218 := n1_; have GW218 := n2_; have GE218 := n3_; clear n0_ n1_ n2_ n3_; clear hb hbox hg; have hcz10_0 : w9.cell? ⟨gb218, 0, none⟩ = some (.int .i64 0) := (blk_cell BK218.out 0).trans rfl; have hcz10_1 : w9.cell? ⟨gb218, 1, none⟩ = some (.string (⟨#[]⟩ : ByteArray)) := (blk_cell BK218.out 1).trans rfl; have hcz10_2 : w9.cell? ⟨gb218, 2, none⟩ = some (.int .i64 0) := (blk_cell BK218.out 2).trans rfl; have hfz10_0 := blk_frozen BK218.out 0; have hfz10_1 := blk_frozen BK218.out 1; have hfz10_2 := blk_frozen BK218.out 2))
        go_roundg k1
        case measure => have := HK1.out; omega
        case rel => exact ⟨(wrap64 (x10_1 + 1)), (by first | rfl | (simp; done) | (simp [*]; done)), H', ⟨by have := HK1.out; omega⟩, ⟨by repeat (first | (with_reducible first | exact HB.out | apply below_alloc | apply pw_below_drewN | apply below_drew1 | refine below_set ?_ GE218.out) | exact HB.out)⟩⟩
      ·rw [if_neg c5] at H
       exact absurd H (by simp)
     ·rw [if_neg c4] at H
      exact absurd H (by simp)
    ·rw [if_neg c3] at H
     have c3b0 : decide (x10_1 < (l0.length : Int)) = false := decide_eq_false c3
     clear c3
     obtain rfl := Option.some.inj H
     go_wp2
     go_ret
     exact ⟨by first | rfl | (simp [errW_none, errW_some] <;> rfl) | (simp [*, errW_none, errW_some] <;> rfl), by repeat (first | (with_reducible first | exact HB.out | apply below_alloc | apply pw_below_drewN | apply below_drew1) | exact HB.out)⟩
end Go.Proofs.Ytedfcjcnhgomoaa.P
end
-- MERGED YtedfcjcnhgomoaaPvariorumlaw11Light
section
namespace Go.Proofs.Ytedfcjcnhgomoaa.P
open Go.RowKit Go.Proofs.YtedfcjcnhgomoaaW.PrintWords Go.Proofs.YtedfcjcnhgomoaaW.PrintLast Go.Proofs.YtedfcjcnhgomoaaW.PrintMore
attribute [local go_sem] max2_int min2_int max_two min_two max_three min_three max_four min_four   -- for this text's walks alone
set_option linter.unusedVariables false
set_option linter.unusedSimpArgs false
def variorumlaw11_Light.f (k : Nat) (a0_0 : Int) (a0_1 : Int) (a0_2 : Int) (a0_3 : Int) (a0_4 : Int) (a0_5 : Int) (l0_6 : List (S85)) (a0_7 : ByteArray) (l0_8 : List (S104)) : Option (Bool) := (variorumlaw06_Light.f k l0_6).bind fun t220 => (if t220 = true then (if (a0_7.size : Int) ≤ 4000 then (some (decide ((l0_8.length : Int) ≤ 200))) else (some false)) else (some false))
set_option maxHeartbeats 8000000 in
set_option maxRecDepth 100000 in
theorem variorumlaw11_Light.calls (k : Nat) (a0_0 : Int) (a0_1 : Int) (a0_2 : Int) (a0_3 : Int) (a0_4 : Int) (a0_5 : Int) (A0_6 : Option Addr) (c0_6 : Nat) (l0_6 : List (S85)) (a0_7 : ByteArray) (A0_8 : Option Addr) (c0_8 : Nat) (l0_8 : List (S104)) (r : Bool) (w : World) (hr0_6 : Kd.C k85 w A0_6 l0_6.length l0_6) (hc0_6 : l0_6.length ≤ c0_6) (hr0_8 : Kd.C k104 w A0_8 l0_8.length l0_8) (hc0_8 : l0_8.length ≤ c0_8) (h : variorumlaw11_Light.f k a0_0 a0_1 a0_2 a0_3 a0_4 a0_5 l0_6 a0_7 l0_8 = some r) :
  Calls Try.prog 19 #[.agg #[.int .i64 a0_0, .int .i64 a0_1, .int .i64 a0_2, .int .i64 a0_3, .int .i64 a0_4, .int .i64 a0_5, .slice A0_6 l0_6.length c0_6, .string a0_7, .slice A0_8 l0_8.length c0_8]] w fun e w' => e = .returned (.bool r) ∧ Below w.heap.size w w' := by
 have hu44 := Try.underlying44
 have HR0_6 := Aside0.mk hr0_6
 have HC0_6 := Aside0.mk hc0_6
 clear hr0_6 hc0_6
 have HR0_8 := Aside0.mk hr0_8
 have HC0_8 := Aside0.mk hc0_8
 clear hr0_8 hc0_8
 have HB := Aside0.mk (Below.refl w.heap.size w)
 have H : ((variorumlaw06_Light.f k l0_6).bind fun t220 => (if t220 = true then (if (a0_7.size : Int) ≤ 4000 then (some (decide ((l0_8.length : Int) ≤ 200))) else (some false)) else (some false))) = some r := h
 clear h
 replace H := Option.bind_eq_some_iff.mp H
 obtain ⟨t220, A20, H⟩ := H
 replace H : (if t220 = true then (if (a0_7.size : Int) ≤ 4000 then (some (decide ((l0_8.length : Int) ≤ 200))) else (some false)) else (some false)) = some r := H
 have A2 := Aside0.mk A20
 clear A20
 by_cases c3 : t220 = true
 ·subst c3
  have H1 : (if (a0_7.size : Int) ≤ 4000 then (some (decide ((l0_8.length : Int) ≤ 200))) else (some false)) = some r := by rw [if_pos rfl] at H; exact H
  clear H
  have H := H1
  clear H1
  by_cases c4 : (a0_7.size : Int) ≤ 4000
  ·rw [if_pos c4] at H
   have c4b0 : decide ((a0_7.size : Int) ≤ 4000) = true := decide_eq_true c4
   have c4b1 : decide (a0_7.size ≤ 4000) = true := decide_eq_true (by omega)
   clear c4
   obtain rfl := Option.some.inj H
   go_enter Try.func19, Try.ntmps19
   go_wp2_with (first | ((with_reducible refine gate_dst (N := 1) rfl ?_); (try (refine gate_guard (by rfl) ?_; dsimp only)); refine box_event ?hg (N := 1) ?hd (cs := #[.int .i64 a0_0, .int .i64 a0_1, .int .i64 a0_2, .int .i64 a0_3, .int .i64 a0_4, .int .i64 a0_5, .slice A0_6 l0_6.length c0_6, .string a0_7, .slice A0_8 l0_8.length c0_8]) (t := 44) ?hr ?_; (case hd => rfl); (case hg => rfl); (case hr => (go_simp; done)); intro gb219 hg w5 hbox hb; have n0_ := Aside0.mk (below_step (by repeat ((with_reducible (exact HB.out)))) hb); have n1_ := Aside0.mk (hbox); have n2_ := Aside0.mk ((by rw [hg]; exact (below_size (by repeat ((with_reducible (exact HB.out))))) : w.heap.size ≤ gb219)); have n3_ := Aside0.mk ((by rw [hg]; exact (below_size (by repeat ((with_reducible (exact HB.out))))) : w.heap.size ≤ gb219)); clear HB; have HB := n0_; have BK219 := n1_; have GW219 := n2_; have GE219 := n3_; clear n0_ n1_ n2_ n3_; clear hb hbox hg; have hcz6_0 : w5.cell? ⟨gb219, 0, none⟩ = some (.int .i64 a0_0) := (blk_cell BK219.out 0).trans rfl; have hcz6_1 : w5.cell? ⟨gb219, 1, none⟩ = some (.int .i64 a0_1) := (blk_cell BK219.out 1).trans rfl; have hcz6_2 : w5.cell? ⟨gb219, 2, none⟩ = some (.int .i64 a0_2) := (blk_cell BK219.out 2).trans rfl; have hcz6_3 : w5.cell? ⟨gb219, 3, none⟩ = some (.int .i64 a0_3) := (blk_cell BK219.out 3).trans rfl; have hcz6_4 : w5.cell? ⟨gb219, 4, none⟩ = some (.int .i64 a0_4) := (blk_cell BK219.out 4).trans rfl; have hcz6_5 : w5.cell? ⟨gb219, 5, none⟩ = some (.int .i64 a0_5) := (blk_cell BK219.out 5).trans rfl; have hcz6_6 : w5.cell? ⟨gb219, 6, none⟩ = some (.slice A0_6 l0_6.length c0_6) := (blk_cell BK219.out 6).trans rfl; have hcz6_7 : w5.cell? ⟨gb219, 7, none⟩ = some (.string a0_7) := (blk_cell BK219.out 7).trans rfl; have hcz6_8 : w5.cell? ⟨gb219, 8, none⟩ = some (.slice A0_8 l0_8.length c0_8) := (blk_cell BK219.out 8).trans rfl; have hfz6_0 := blk_frozen BK219.out 0; have hfz6_1 := blk_frozen BK219.out 1; have hfz6_2 := blk_frozen BK219.out 2; have hfz6_3 := blk_frozen BK219.out 3; have hfz6_4 := blk_frozen BK219.out 4; have hfz6_5 := blk_frozen BK219.out 5; have hfz6_6 := blk_frozen BK219.out 6; have hfz6_7 := blk_frozen BK219.out 7; have hfz6_8 := blk_frozen BK219.out 8) | ((with_reducible refine gate_callee (f := 56) rfl ?_); refine goesL_ (some 5) rfl rfl Try.func56 (by kernel_rfl) rfl #[.slice A0_6 l0_6.length c0_6] rfl (by (try simp only [List.map_toArray, List.map_cons, List.map_nil]); (rfl)) ?_; (with_reducible refine (variorumlaw06_Light.calls k _ _ l0_6 true _ ?side1 ?side2 A2.out).mono ?_); (case side1 => repeat ((exact (Kd.C_below HR0_6.out HB.out)))); (case side2 => exact HC0_6.out); rintro e w7 ⟨rfl, hb⟩; refine ⟨_, rfl, ?_⟩; have n0_ := Aside0.mk (blk_below (g := gb219) (o := .cells #[.int .i64 a0_0, .int .i64 a0_1, .int .i64 a0_2, .int .i64 a0_3, .int .i64 a0_4, .int .i64 a0_5, .slice A0_6 l0_6.length c0_6, .string a0_7, .slice A0_8 l0_8.length c0_8] 44 (0, 0)) (by (with_reducible repeat ((refine blk_drew ?_))); exact BK219.out) hb); have n1_ := Aside0.mk (below_step (by repeat ((with_reducible (exact HB.out)))) hb); clear BK219; clear HB; have BK219 := n0_; have HB := n1_; clear n0_ n1_; (try clear hb); (try clear hb2); (try clear hk); (try clear hi); have hcz8_0 : w7.cell? ⟨gb219, 0, none⟩ = some (.int .i64 a0_0) := (blk_cell BK219.out 0).trans rfl; have hcz8_1 : w7.cell? ⟨gb219, 1, none⟩ = some (.int .i64 a0_1) := (blk_cell BK219.out 1).trans rfl; have hcz8_2 : w7.cell? ⟨gb219, 2, none⟩ = some (.int .i64 a0_2) := (blk_cell BK219.out 2).trans rfl; have hcz8_3 : w7.cell? ⟨gb219, 3, none⟩ = some (.int .i64 a0_3) := (blk_cell BK219.out 3).trans rfl; have hcz8_4 : w7.cell? ⟨gb219, 4, none⟩ = some (.int .i64 a0_4) := (blk_cell BK219.out 4).trans rfl; have hcz8_5 : w7.cell? ⟨gb219, 5, none⟩ = some (.int .i64 a0_5) := (blk_cell BK219.out 5).trans rfl; have hcz8_6 : w7.cell? ⟨gb219, 6, none⟩ = some (.slice A0_6 l0_6.length c0_6) := (blk_cell BK219.out 6).trans rfl; have hcz8_7 : w7.cell? ⟨gb219, 7, none⟩ = some (.string a0_7) := (blk_cell BK219.out 7).trans rfl; have hcz8_8 : w7.cell? ⟨gb219, 8, none⟩ = some (.slice A0_8 l0_8.length c0_8) := (blk_cell BK219.out 8).trans rfl; have hfz8_0 := blk_frozen BK219.out 0; have hfz8_1 := blk_frozen BK219.out 1; have hfz8_2 := blk_frozen BK219.out 2; have hfz8_3 := blk_frozen BK219.out 3; have hfz8_4 := blk_frozen BK219.out 4; have hfz8_5 := blk_frozen BK219.out 5; have hfz8_6 := blk_frozen BK219.out 6; have hfz8_7 := blk_frozen BK219.out 7; have hfz8_8 := blk_frozen BK219.out 8))
   go_ret
   exact ⟨by (rfl), by repeat ((with_reducible (exact HB.out)))⟩
  ·rw [if_neg c4] at H
   have c4b0 : decide ((a0_7.size : Int) ≤ 4000) = false := decide_eq_false c4
   have c4b1 : decide (a0_7.size ≤ 4000) = false := decide_eq_false (by omega)
   clear c4
   obtain rfl := Option.some.inj H
   go_enter Try.func19, Try.ntmps19
   go_wp2_with (first | ((with_reducible refine gate_dst (N := 1) rfl ?_); (try (refine gate_guard (by rfl) ?_; dsimp only)); refine box_event ?hg (N := 1) ?hd (cs := #[.int .i64 a0_0, .int .i64 a0_1, .int .i64 a0_2, .int .i64 a0_3, .int .i64 a0_4, .int .i64 a0_5, .slice A0_6 l0_6.length c0_6, .string a0_7, .slice A0_8 l0_8.length c0_8]) (t := 44) ?hr ?_; (case hd => rfl); (case hg => rfl); (case hr => (go_simp; done)); intro gb219 hg w9 hbox hb; have n0_ := Aside0.mk (below_step (by repeat ((with_reducible (exact HB.out)))) hb); have n1_ := Aside0.mk (hbox); have n2_ := Aside0.mk ((by rw [hg]; exact (below_size (by repeat ((with_reducible (exact HB.out))))) : w.heap.size ≤ gb219)); have n3_ := Aside0.mk ((by rw [hg]; exact (below_size (by repeat ((with_reducible (exact HB.out))))) : w.heap.size ≤ gb219)); clear HB; have HB := n0_; have BK219 := n1_; have GW219 := n2_; have GE219 := n3_; clear n0_ n1_ n2_ n3_; clear hb hbox hg; have hcz10_0 : w9.cell? ⟨gb219, 0, none⟩ = some (.int .i64 a0_0) := (blk_cell BK219.out 0).trans rfl; have hcz10_1 : w9.cell? ⟨gb219, 1, none⟩ = some (.int .i64 a0_1) := (blk_cell BK219.out 1).trans rfl; have hcz10_2 : w9.cell? ⟨gb219, 2, none⟩ = some (.int .i64 a0_2) := (blk_cell BK219.out 2).trans rfl; have hcz10_3 : w9.cell? ⟨gb219, 3, none⟩ = some (.int .i64 a0_3) := (blk_cell BK219.out 3).trans rfl; have hcz10_4 : w9.cell? ⟨gb219, 4, none⟩ = some (.int .i64 a0_4) := (blk_cell BK219.out 4).trans rfl; have hcz10_5 : w9.cell? ⟨gb219, 5, none⟩ = some (.int .i64 a0_5) := (blk_cell BK219.out 5).trans rfl; have hcz10_6 : w9.cell? ⟨gb219, 6, none⟩ = some (.slice A0_6 l0_6.length c0_6) := (blk_cell BK219.out 6).trans rfl; have hcz10_7 : w9.cell? ⟨gb219, 7, none⟩ = some (.string a0_7) := (blk_cell BK219.out 7).trans rfl; have hcz10_8 : w9.cell? ⟨gb219, 8, none⟩ = some (.slice A0_8 l0_8.length c0_8) := (blk_cell BK219.out 8).trans rfl; have hfz10_0 := blk_frozen BK219.out 0; have hfz10_1 := blk_frozen BK219.out 1; have hfz10_2 := blk_frozen BK219.out 2; have hfz10_3 := blk_frozen BK219.out 3; have hfz10_4 := blk_frozen BK219.out 4; have hfz10_5 := blk_frozen BK219.out 5; have hfz10_6 := blk_frozen BK219.out 6; have hfz10_7 := blk_frozen BK219.out 7; have hfz10_8 := blk_frozen BK219.out 8) | ((with_reducible refine gate_callee (f := 56) rfl ?_); refine goesL_ (some 5) rfl rfl Try.func56 (by kernel_rfl) rfl #[.slice A0_6 l0_6.length c0_6] rfl (by (try simp only [List.map_toArray, List.map_cons, List.map_nil]); (rfl)) ?_; (with_reducible refine (variorumlaw06_Light.calls k _ _ l0_6 true _ ?side1 ?side2 A2.out).mono ?_); (case side1 => repeat ((exact (Kd.C_below HR0_6.out HB.out)))); (case side2 => exact HC0_6.out); rintro e w11 ⟨rfl, hb⟩; refine ⟨_, rfl, ?_⟩; have n0_ := Aside0.mk (blk_below (g := gb219) (o := .cells #[.int .i64 a0_0, .int .i64 a0_1, .int .i64 a0_2, .int .i64 a0_3, .int .i64 a0_4, .int .i64 a0_5, .slice A0_6 l0_6.length c0_6, .string a0_7, .slice A0_8 l0_8.length c0_8] 44 (0, 0)) (by (with_reducible repeat ((refine blk_drew ?_))); exact BK219.out) hb); have n1_ := Aside0.mk (below_step (by repeat ((with_reducible (exact HB.out)))) hb); clear BK219; clear HB; have BK219 := n0_; have HB := n1_; clear n0_ n1_; (try clear hb); (try clear hb2); (try clear hk); (try clear hi); have hcz12_0 : w11.cell? ⟨gb219, 0, none⟩ = some (.int .i64 a0_0) := (blk_cell BK219.out 0).trans rfl; have hcz12_1 : w11.cell? ⟨gb219, 1, none⟩ = some (.int .i64 a0_1) := (blk_cell BK219.out 1).trans rfl; have hcz12_2 : w11.cell? ⟨gb219, 2, none⟩ = some (.int .i64 a0_2) := (blk_cell BK219.out 2).trans rfl; have hcz12_3 : w11.cell? ⟨gb219, 3, none⟩ = some (.int .i64 a0_3) := (blk_cell BK219.out 3).trans rfl; have hcz12_4 : w11.cell? ⟨gb219, 4, none⟩ = some (.int .i64 a0_4) := (blk_cell BK219.out 4).trans rfl; have hcz12_5 : w11.cell? ⟨gb219, 5, none⟩ = some (.int .i64 a0_5) := (blk_cell BK219.out 5).trans rfl; have hcz12_6 : w11.cell? ⟨gb219, 6, none⟩ = some (.slice A0_6 l0_6.length c0_6) := (blk_cell BK219.out 6).trans rfl; have hcz12_7 : w11.cell? ⟨gb219, 7, none⟩ = some (.string a0_7) := (blk_cell BK219.out 7).trans rfl; have hcz12_8 : w11.cell? ⟨gb219, 8, none⟩ = some (.slice A0_8 l0_8.length c0_8) := (blk_cell BK219.out 8).trans rfl; have hfz12_0 := blk_frozen BK219.out 0; have hfz12_1 := blk_frozen BK219.out 1; have hfz12_2 := blk_frozen BK219.out 2; have hfz12_3 := blk_frozen BK219.out 3; have hfz12_4 := blk_frozen BK219.out 4; have hfz12_5 := blk_frozen BK219.out 5; have hfz12_6 := blk_frozen BK219.out 6; have hfz12_7 := blk_frozen BK219.out 7; have hfz12_8 := blk_frozen BK219.out 8))
   go_ret
   exact ⟨by (rfl), by repeat ((with_reducible (exact HB.out)))⟩
 ·replace c3 := Bool.eq_false_iff.mpr c3
  subst c3
  have H1 : (some false) = some r := by rw [if_neg (show ¬ (false = true) by decide)] at H; exact H
  clear H
  have H := H1
  clear H1
  obtain rfl := Option.some.inj H
  go_enter Try.func19, Try.ntmps19
  go_wp2_with (first | ((with_reducible refine gate_dst (N := 1) rfl ?_); (try (refine gate_guard (by rfl) ?_; dsimp only)); refine box_event ?hg (N := 1) ?hd (cs := #[.int .i64 a0_0, .int .i64 a0_1, .int .i64 a0_2, .int .i64 a0_3, .int .i64 a0_4, .int .i64 a0_5, .slice A0_6 l0_6.length c0_6, .string a0_7, .slice A0_8 l0_8.length c0_8]) (t := 44) ?hr ?_; (case hd => rfl); (case hg => rfl); (case hr => (go_simp; done)); intro gb219 hg w13 hbox hb; have n0_ := Aside0.mk (below_step (by repeat ((with_reducible (exact HB.out)))) hb); have n1_ := Aside0.mk (hbox); have n2_ := Aside0.mk ((by rw [hg]; exact (below_size (by repeat ((with_reducible (exact HB.out))))) : w.heap.size ≤ gb219)); have n3_ := Aside0.mk ((by rw [hg]; exact (below_size (by repeat ((with_reducible (exact HB.out))))) : w.heap.size ≤ gb219)); clear HB; have HB := n0_; have BK219 := n1_; have GW219 := n2_; have GE219 := n3_; clear n0_ n1_ n2_ n3_; clear hb hbox hg; have hcz14_0 : w13.cell? ⟨gb219, 0, none⟩ = some (.int .i64 a0_0) := (blk_cell BK219.out 0).trans rfl; have hcz14_1 : w13.cell? ⟨gb219, 1, none⟩ = some (.int .i64 a0_1) := (blk_cell BK219.out 1).trans rfl; have hcz14_2 : w13.cell? ⟨gb219, 2, none⟩ = some (.int .i64 a0_2) := (blk_cell BK219.out 2).trans rfl; have hcz14_3 : w13.cell? ⟨gb219, 3, none⟩ = some (.int .i64 a0_3) := (blk_cell BK219.out 3).trans rfl; have hcz14_4 : w13.cell? ⟨gb219, 4, none⟩ = some (.int .i64 a0_4) := (blk_cell BK219.out 4).trans rfl; have hcz14_5 : w13.cell? ⟨gb219, 5, none⟩ = some (.int .i64 a0_5) := (blk_cell BK219.out 5).trans rfl; have hcz14_6 : w13.cell? ⟨gb219, 6, none⟩ = some (.slice A0_6 l0_6.length c0_6) := (blk_cell BK219.out 6).trans rfl; have hcz14_7 : w13.cell? ⟨gb219, 7, none⟩ = some (.string a0_7) := (blk_cell BK219.out 7).trans rfl; have hcz14_8 : w13.cell? ⟨gb219, 8, none⟩ = some (.slice A0_8 l0_8.length c0_8) := (blk_cell BK219.out 8).trans rfl; have hfz14_0 := blk_frozen BK219.out 0; have hfz14_1 := blk_frozen BK219.out 1; have hfz14_2 := blk_frozen BK219.out 2; have hfz14_3 := blk_frozen BK219.out 3; have hfz14_4 := blk_frozen BK219.out 4; have hfz14_5 := blk_frozen BK219.out 5; have hfz14_6 := blk_frozen BK219.out 6; have hfz14_7 := blk_frozen BK219.out 7; have hfz14_8 := blk_frozen BK219.out 8) | ((with_reducible refine gate_callee (f := 56) rfl ?_); refine goesL_ (some 5) rfl rfl Try.func56 (by kernel_rfl) rfl #[.slice A0_6 l0_6.length c0_6] rfl (by (try simp only [List.map_toArray, List.map_cons, List.map_nil]); (rfl)) ?_; (with_reducible refine (variorumlaw06_Light.calls k _ _ l0_6 false _ ?side1 ?side2 A2.out).mono ?_); (case side1 => repeat ((exact (Kd.C_below HR0_6.out HB.out)))); (case side2 => exact HC0_6.out); rintro e w15 ⟨rfl, hb⟩; refine ⟨_, rfl, ?_⟩; have n0_ := Aside0.mk (blk_below (g := gb219) (o := .cells #[.int .i64 a0_0, .int .i64 a0_1, .int .i64 a0_2, .int .i64 a0_3, .int .i64 a0_4, .int .i64 a0_5, .slice A0_6 l0_6.length c0_6, .string a0_7, .slice A0_8 l0_8.length c0_8] 44 (0, 0)) (by (with_reducible repeat ((refine blk_drew ?_))); exact BK219.out) hb); have n1_ := Aside0.mk (below_step (by repeat ((with_reducible (exact HB.out)))) hb); clear BK219; clear HB; have BK219 := n0_; have HB := n1_; clear n0_ n1_; (try clear hb); (try clear hb2); (try clear hk); (try clear hi)))
  go_ret
  exact ⟨by (rfl), by repeat ((with_reducible (exact HB.out)))⟩
end Go.Proofs.Ytedfcjcnhgomoaa.P
end
-- MERGED YtedfcjcnhgomoaaMsgLaw
section
namespace Go.Proofs.Ytedfcjcnhgomoaa.MsgLaw
open Go.RowKit Go.Proofs.Ytedfcjcnhgomoaa.EditK Go.Proofs.Ytedfcjcnhgomoaa.P Go.Proofs.YtedfcjcnhgomoaaW.PrintWords Go.Proofs.YtedfcjcnhgomoaaW.PrintLast Go.Proofs.YtedfcjcnhgomoaaW.PrintMore Go.Proofs.Ytedfcjcnhgomoaa.Own Go.Proofs.Ytedfcjcnhgomoaa.Vy Go.Proofs.Ytedfcjcnhgomoaa.NoteN Go.Proofs.Ytedfcjcnhgomoaa.MsgA Go.Proofs.Ytedfcjcnhgomoaa.MsgD Go.Proofs.Ytedfcjcnhgomoaa.MsgW Go.Proofs.Ytedfcjcnhgomoaa.MsgE Go.Proofs.Ytedfcjcnhgomoaa.MsgR Go.Proofs.Ytedfcjcnhgomoaa.MsgQ Go.Proofs.Ytedfcjcnhgomoaa.MsgS Go.Proofs.Ytedfcjcnhgomoaa.MsgLives
set_option linter.unusedSimpArgs false
set_option linter.unusedVariables false
theorem light_l (l : List EditL.Rn) (hl : l.length ≤ 140737488351232) : ∀ (suf pre : List EditL.Rn) (k : Nat), l = pre ++ suf → suf.length < k → ∃ b, variorumlaw06_Light.l0 k l (l.length : Int) (pre.length : Int) = some b ∧ (b = true → wgt suf ≤ 218 * suf.length) := by
 intro suf
 induction suf with
 | nil =>
  intro pre k hfe hk
  obtain ⟨k, rfl⟩ : ∃ m, k = m + 1 := ⟨k - 1, by omega⟩
  have : l.length = pre.length := by rw [hfe]; simp
  simp only [variorumlaw06_Light.l0]
  rw [if_neg (by omega)]
  exact ⟨true, rfl, fun _ => by simp [wgt]⟩
 | cons r suf ih =>
  intro pre k hfe hk
  obtain ⟨k, rfl⟩ : ∃ m, k = m + 1 := ⟨k - 1, by omega⟩
  obtain ⟨hl2, hn, hlt⟩ := snoc hfe
  obtain ⟨b, hb, hb2⟩ := ih (pre ++ [r]) k hl2 (by simp at hk; omega)
  rw [hn] at hb
  simp only [variorumlaw06_Light.l0]
  rw [if_pos hlt, if_pos (by omega), if_pos hlt, rd_at hfe, w64 (x := (pre.length : Int) + 1) (by omega) (by omega), hb]
  by_cases h : (r.f1.size : Int) > 200
  ·rw [if_pos h]; exact ⟨false, rfl, fun h => by cases h⟩
  ·rw [if_neg h]
   refine ⟨b, rfl, fun e => ?_⟩
   have := hb2 e
   simp only [wgt, List.length_cons]
   omega
theorem cells_ms {P : Nat} {m : Ms} {A6 A8 : Option Addr} {c6 c8 : Nat} {W : World} (h : Blk P (m.mg A6 c6 A8 c8) W) : (W.cell? ⟨P, 0, none⟩ = some (.int .i64 m.k) ∧ W.cell? ⟨P, 1, none⟩ = some (.int .i64 m.c) ∧ W.cell? ⟨P, 2, none⟩ = some (.int .i64 m.e) ∧ W.cell? ⟨P, 3, none⟩ = some (.int .i64 m.r) ∧ W.cell? ⟨P, 4, none⟩ = some (.int .i64 m.s) ∧ W.cell? ⟨P, 5, none⟩ = some (.int .i64 m.d)) ∧ W.cell? ⟨P, 6, none⟩ = some (.slice A6 m.o.length c6) ∧ W.cell? ⟨P, 7, none⟩ = some (.string m.t) ∧ W.cell? ⟨P, 8, none⟩ = some (.slice A8 m.n.length c8) := h.cells
end Go.Proofs.Ytedfcjcnhgomoaa.MsgLaw
end
-- MERGED YtedfcjcnhgomoaaVaryM
section
namespace Go.Proofs.Ytedfcjcnhgomoaa.VaryR
open Go.RowKit Go.Proofs.Ytedfcjcnhgomoaa.P Go.Proofs.YtedfcjcnhgomoaaW.PrintWords Go.Proofs.YtedfcjcnhgomoaaW.PrintLast Go.Proofs.YtedfcjcnhgomoaaW.PrintMore Go.Proofs.Ytedfcjcnhgomoaa.Own Go.Proofs.Ytedfcjcnhgomoaa.Vy
set_option maxHeartbeats 1000000 in
theorem num_read (g : Nat) (w : World) (v : Value) (l : List Int) (a : Nat) (h : RdAt g w v l a false) (hok : Byt.Ok l) :
  Calls Try.prog 85 #[.pointer (some ⟨g, 0, none⟩), .func (.func 86) #[] #[]] w (RdPost g v l a false (if (numL (l.drop a)).2 = 0 then (.int .i64 0) else (.int .i64 (numL (l.drop a)).1)) (numL (l.drop a)).2 w) := by
 have H := Aside0.mk h
 clear h
 by_cases hk : (numL (l.drop a)).2 = 0
 ·have HK := Aside0.mk hk
  rw [if_pos hk]
  clear hk
  go_enter Try.func85, Try.ntmps85
  go_wp2_with fail
  refine (bad_c g _ v l a false H.out).mono ?_
  rintro e w' ⟨rfl, rfl⟩
  go_wp2_with fail
  refine (numFn_c g _ v l a H.out hok).mono ?_
  rintro e w' ⟨a', rfl, h1, h2, h3⟩
  have H1 := Aside0.mk h1
  have H2 := Aside0.mk h2
  have H3 := Aside0.mk h3
  rw [decide_eq_true HK.out] at h1
  have H4 := Aside0.mk h1
  clear h1 h2 h3
  go_wp2_with fail
  refine (bad_c g _ v l a' true H4.out).mono ?_
  rintro e w' ⟨rfl, rfl⟩
  go_wp2_with fail
  go_ret
  exact RdPost.mk H1.out H2.out H3.out
 ·have HK := Aside0.mk hk
  rw [if_neg hk]
  clear hk
  go_enter Try.func85, Try.ntmps85
  go_wp2_with fail
  refine (bad_c g _ v l a false H.out).mono ?_
  rintro e w' ⟨rfl, rfl⟩
  go_wp2_with fail
  refine (numFn_c g _ v l a H.out hok).mono ?_
  rintro e w' ⟨a', rfl, h1, h2, h3⟩
  have H1 := Aside0.mk h1
  have H2 := Aside0.mk h2
  have H3 := Aside0.mk h3
  rw [decide_eq_false HK.out] at h1
  have H4 := Aside0.mk h1
  clear h1 h2 h3
  go_wp2_with fail
  refine (bad_c g _ v l a' false H4.out).mono ?_
  rintro e w' ⟨rfl, rfl⟩
  go_wp2_with fail
  go_ret
  exact RdPost.mk H1.out H2.out H3.out
set_option maxHeartbeats 1000000 in
theorem signed_read (g : Nat) (w : World) (v : Value) (l : List Int) (a : Nat) (h : RdAt g w v l a false) (hok : Byt.Ok l) :
  Calls Try.prog 85 #[.pointer (some ⟨g, 0, none⟩), .func (.func 112) #[] #[]] w (RdPost g v l a false (if (sgnL (l.drop a)).2 = 0 then (.int .i64 0) else (.int .i64 (sgnL (l.drop a)).1)) (sgnL (l.drop a)).2 w) := by
 have H := Aside0.mk h
 clear h
 by_cases hk : (sgnL (l.drop a)).2 = 0
 ·have HK := Aside0.mk hk
  rw [if_pos hk]
  clear hk
  go_enter Try.func85, Try.ntmps85
  go_wp2_with fail
  refine (bad_c g _ v l a false H.out).mono ?_
  rintro e w' ⟨rfl, rfl⟩
  go_wp2_with fail
  refine (signed_c g _ v l a H.out hok).mono ?_
  rintro e w' ⟨a', rfl, h1, h2, h3⟩
  have H1 := Aside0.mk h1
  have H2 := Aside0.mk h2
  have H3 := Aside0.mk h3
  rw [decide_eq_true HK.out] at h1
  have H4 := Aside0.mk h1
  clear h1 h2 h3
  go_wp2_with fail
  refine (bad_c g _ v l a' true H4.out).mono ?_
  rintro e w' ⟨rfl, rfl⟩
  go_wp2_with fail
  go_ret
  exact RdPost.mk H1.out H2.out H3.out
 ·have HK := Aside0.mk hk
  rw [if_neg hk]
  clear hk
  go_enter Try.func85, Try.ntmps85
  go_wp2_with fail
  refine (bad_c g _ v l a false H.out).mono ?_
  rintro e w' ⟨rfl, rfl⟩
  go_wp2_with fail
  refine (signed_c g _ v l a H.out hok).mono ?_
  rintro e w' ⟨a', rfl, h1, h2, h3⟩
  have H1 := Aside0.mk h1
  have H2 := Aside0.mk h2
  have H3 := Aside0.mk h3
  rw [decide_eq_false HK.out] at h1
  have H4 := Aside0.mk h1
  clear h1 h2 h3
  go_wp2_with fail
  refine (bad_c g _ v l a' false H4.out).mono ?_
  rintro e w' ⟨rfl, rfl⟩
  go_wp2_with fail
  go_ret
  exact RdPost.mk H1.out H2.out H3.out
set_option maxHeartbeats 1000000 in
theorem text_read (g : Nat) (w : World) (v : Value) (l : List Int) (a : Nat) (h : RdAt g w v l a false) (hok : Byt.Ok l) :
  Calls Try.prog 89 #[.pointer (some ⟨g, 0, none⟩), .func (.func 90) #[] #[]] w (RdPost g v l a false (if (textL (l.drop a)).2 = 0 then (.string ⟨#[]⟩) else (.string (strOfNums (textL (l.drop a)).1))) (textL (l.drop a)).2 w) := by
 have H := Aside0.mk h
 clear h
 by_cases hk : (textL (l.drop a)).2 = 0
 ·have HK := Aside0.mk hk
  rw [if_pos hk]
  clear hk
  go_enter Try.func89, Try.ntmps89
  go_wp2_with fail
  refine (bad_c g _ v l a false H.out).mono ?_
  rintro e w' ⟨rfl, rfl⟩
  go_wp2_with fail
  refine (text_c g _ v l a H.out hok).mono ?_
  rintro e w' ⟨a', rfl, h1, h2, h3⟩
  have H1 := Aside0.mk h1
  have H2 := Aside0.mk h2
  have H3 := Aside0.mk h3
  rw [decide_eq_true HK.out] at h1
  have H4 := Aside0.mk h1
  clear h1 h2 h3
  go_wp2_with fail
  refine (bad_c g _ v l a' true H4.out).mono ?_
  rintro e w' ⟨rfl, rfl⟩
  go_wp2_with fail
  go_ret
  exact RdPost.mk H1.out H2.out H3.out
 ·have HK := Aside0.mk hk
  rw [if_neg hk]
  clear hk
  go_enter Try.func89, Try.ntmps89
  go_wp2_with fail
  refine (bad_c g _ v l a false H.out).mono ?_
  rintro e w' ⟨rfl, rfl⟩
  go_wp2_with fail
  refine (text_c g _ v l a H.out hok).mono ?_
  rintro e w' ⟨a', rfl, h1, h2, h3⟩
  have H1 := Aside0.mk h1
  have H2 := Aside0.mk h2
  have H3 := Aside0.mk h3
  rw [decide_eq_false HK.out] at h1
  have H4 := Aside0.mk h1
  clear h1 h2 h3
  go_wp2_with fail
  refine (bad_c g _ v l a' false H4.out).mono ?_
  rintro e w' ⟨rfl, rfl⟩
  go_wp2_with fail
  go_ret
  exact RdPost.mk H1.out H2.out H3.out
set_option maxHeartbeats 1000000 in
theorem readStr_bad (F : Nat) (g : Nat) (w : World) (v : Value) (l : List Int) (a : Nat) (k : Nat) (h : Rd g w v l a true) :
  Calls Try.prog 89 #[.pointer (some ⟨g, 0, none⟩), .func (.func F) #[] #[]] w (RdPost g v l a true (.string ⟨#[]⟩) k w) := by
 obtain ⟨a', h, _⟩ := h
 have H := Aside0.mk h
 clear h
 go_enter Try.func89, Try.ntmps89
 go_wp2_with fail
 refine (bad_c g _ v l a' true H.out).mono ?_
 rintro e w' ⟨rfl, rfl⟩
 go_wp2_with fail
 go_ret
 exact ⟨rfl, ⟨a', H.out, fun h => by cases h⟩, But.refl g _⟩
theorem num_zero {l : List Int} (h : (numL l).2 = 0) : (numL l).1 = 0 := numL_zero h
theorem sgn_zero {l : List Int} (h : (sgnL l).2 = 0) : (sgnL l).1 = 0 := by
 unfold sgnL at h ⊢; simp only at h ⊢; rw [numL_zero h]; rfl
theorem text_zero {l : List Int} (h : (textL l).2 = 0) : (textL l).1 = [] := by
 unfold textL at h ⊢
 split
 ·rfl
 ·rename_i h1
  rw [if_neg h1] at h
  exact absurd h (by simp only; omega)
theorem stepV_true {α : Type} (z : α) (k : Nat) (x : α) : stepV z true k x = z := rfl
theorem stepV_false {α : Type} {z : α} {k : Nat} {x : α} (h : k = 0 → x = z) : stepV z false k x = x := by
 unfold stepV stepB
 by_cases hk : k = 0
 ·simp [hk, h hk]
 ·simp [hk]
set_option maxHeartbeats 1000000 in
theorem nNum (g : Nat) (w : World) (v : Value) (l : List Int) (a : Nat) (bad : Bool) (h : Rd g w v l a bad) (hok : Byt.Ok l) :
  Calls Try.prog 45 #[.pointer (some ⟨g, 0, none⟩)] w (RdPost g v l a bad (.int .i64 (stepV 0 bad (numL (l.drop a)).2 (numL (l.drop a)).1)) (numL (l.drop a)).2 w) := by
 cases bad with
 | true =>
  have H := Aside0.mk h
  clear h
  rw [stepV_true]
  go_enter Try.func45, Try.ntmps45
  go_wp2_with fail
  refine (readInt_bad _ g _ v l a (numL (l.drop a)).2 H.out).mono ?_
  rintro e w' ⟨rfl, h1, h2⟩
  have H1 := Aside0.mk h1
  have H2 := Aside0.mk h2
  clear h1 h2
  go_wp2_with fail
  go_ret
  exact ⟨rfl, H1.out, H2.out⟩
 | false =>
  obtain ⟨a', h, ha⟩ := h
  obtain rfl := ha rfl
  have H := Aside0.mk h
  clear h ha
  rw [stepV_false num_zero]
  go_enter Try.func45, Try.ntmps45
  go_wp2_with fail
  refine (num_read g _ v l a' H.out hok).mono ?_
  rintro e w' ⟨rfl, h1, h2⟩
  have H1 := Aside0.mk h1
  have H2 := Aside0.mk h2
  clear h1 h2
  by_cases hk : (numL (l.drop a')).2 = 0
  ·have HZ := Aside0.mk (num_zero hk)
   rw [if_pos hk]
   clear hk
   go_wp2_with fail
   go_ret
   exact ⟨by rw [HZ.out]; rfl, H1.out, H2.out⟩
  ·rw [if_neg hk]
   clear hk
   go_wp2_with fail
   go_ret
   exact ⟨rfl, H1.out, H2.out⟩
set_option maxHeartbeats 1000000 in
theorem nSigned (g : Nat) (w : World) (v : Value) (l : List Int) (a : Nat) (bad : Bool) (h : Rd g w v l a bad) (hok : Byt.Ok l) :
  Calls Try.prog 102 #[.pointer (some ⟨g, 0, none⟩)] w (RdPost g v l a bad (.int .i64 (stepV 0 bad (sgnL (l.drop a)).2 (sgnL (l.drop a)).1)) (sgnL (l.drop a)).2 w) := by
 cases bad with
 | true =>
  have H := Aside0.mk h
  clear h
  rw [stepV_true]
  go_enter Try.func102, Try.ntmps102
  go_wp2_with fail
  refine (readInt_bad _ g _ v l a (sgnL (l.drop a)).2 H.out).mono ?_
  rintro e w' ⟨rfl, h1, h2⟩
  have H1 := Aside0.mk h1
  have H2 := Aside0.mk h2
  clear h1 h2
  go_wp2_with fail
  go_ret
  exact ⟨rfl, H1.out, H2.out⟩
 | false =>
  obtain ⟨a', h, ha⟩ := h
  obtain rfl := ha rfl
  have H := Aside0.mk h
  clear h ha
  rw [stepV_false sgn_zero]
  go_enter Try.func102, Try.ntmps102
  go_wp2_with fail
  refine (signed_read g _ v l a' H.out hok).mono ?_
  rintro e w' ⟨rfl, h1, h2⟩
  have H1 := Aside0.mk h1
  have H2 := Aside0.mk h2
  clear h1 h2
  by_cases hk : (sgnL (l.drop a')).2 = 0
  ·have HZ := Aside0.mk (sgn_zero hk)
   rw [if_pos hk]
   clear hk
   go_wp2_with fail
   go_ret
   exact ⟨by rw [HZ.out]; rfl, H1.out, H2.out⟩
  ·rw [if_neg hk]
   clear hk
   go_wp2_with fail
   go_ret
   exact ⟨rfl, H1.out, H2.out⟩
set_option maxHeartbeats 1000000 in
theorem nText (g : Nat) (w : World) (v : Value) (l : List Int) (a : Nat) (bad : Bool) (h : Rd g w v l a bad) (hok : Byt.Ok l) :
  Calls Try.prog 51 #[.pointer (some ⟨g, 0, none⟩)] w (RdPost g v l a bad (.string (strOfNums (stepV [] bad (textL (l.drop a)).2 (textL (l.drop a)).1))) (textL (l.drop a)).2 w) := by
 cases bad with
 | true =>
  have H := Aside0.mk h
  clear h
  rw [stepV_true]
  go_enter Try.func51, Try.ntmps51
  go_wp2_with fail
  refine (readStr_bad _ g _ v l a (textL (l.drop a)).2 H.out).mono ?_
  rintro e w' ⟨rfl, h1, h2⟩
  have H1 := Aside0.mk h1
  have H2 := Aside0.mk h2
  clear h1 h2
  go_wp2_with fail
  go_ret
  exact ⟨rfl, H1.out, H2.out⟩
 | false =>
  obtain ⟨a', h, ha⟩ := h
  obtain rfl := ha rfl
  have H := Aside0.mk h
  clear h ha
  rw [stepV_false text_zero]
  go_enter Try.func51, Try.ntmps51
  go_wp2_with fail
  refine (text_read g _ v l a' H.out hok).mono ?_
  rintro e w' ⟨rfl, h1, h2⟩
  have H1 := Aside0.mk h1
  have H2 := Aside0.mk h2
  clear h1 h2
  by_cases hk : (textL (l.drop a')).2 = 0
  ·have HZ := Aside0.mk (text_zero hk)
   rw [if_pos hk]
   clear hk
   go_wp2_with fail
   go_ret
   exact ⟨by rw [HZ.out]; rfl, H1.out, H2.out⟩
  ·rw [if_neg hk]
   clear hk
   go_wp2_with fail
   go_ret
   exact ⟨rfl, H1.out, H2.out⟩
theorem nBad (g : Nat) (w : World) (v : Value) (l : List Int) (a : Nat) (bad : Bool) (h : Rd g w v l a bad) :
  Calls Try.prog 48 #[.pointer (some ⟨g, 0, none⟩)] w fun e w' => e = .returned (.bool bad) ∧ w' = w := by
 obtain ⟨a', h, _⟩ := h
 exact bad_c g w v l a' bad h
def leftL (l : List Int) (a : Nat) (bad : Bool) : Nat := if bad then 0 else l.length - a
set_option maxHeartbeats 1000000 in
theorem nLeft (g : Nat) (w : World) (v : Value) (l : List Int) (a : Nat) (bad : Bool) (h : Rd g w v l a bad) :
  Calls Try.prog 47 #[.pointer (some ⟨g, 0, none⟩)] w fun e w' => e = .returned (.int .i64 ((leftL l a bad : Nat) : Int)) ∧ Drawn0 w w' := by
 obtain ⟨a', h, ha⟩ := h
 have H := Aside0.mk h
 clear h
 cases bad with
 | true =>
  clear ha
  go_enter Try.func47, Try.ntmps47
  go_wp2_with fail
  refine (bad_c g _ v l a' true H.out).mono ?_
  rintro e w' ⟨rfl, rfl⟩
  go_wp2_with fail
  go_ret
  exact ⟨rfl, ⟨0, rfl⟩⟩
 | false =>
  obtain rfl := ha rfl
  clear ha
  obtain ⟨q, hq⟩ : ∃ q, q = l.length - a' := ⟨_, rfl⟩
  have HQ := Aside0.mk hq
  have hc := fun w => ahead_c g w v l a' false
  rw [← hq] at hc
  clear hq
  go_enter Try.func47, Try.ntmps47
  go_wp2_with fail
  refine (bad_c g _ v l a' false H.out).mono ?_
  rintro e w' ⟨rfl, rfl⟩
  go_wp2_with fail
  refine (hc _ H.out).mono ?_
  rintro e w' ⟨rfl, n, rfl⟩
  go_wp2_with fail
  go_ret
  exact ⟨by unfold leftL; rw [if_neg (by simp), ← HQ.out]; rfl, ⟨n, rfl⟩⟩
set_option maxHeartbeats 1000000 in
theorem nDone (g : Nat) (w : World) (v : Value) (l : List Int) (a : Nat) (bad : Bool) (h : Rd g w v l a bad) :
  Calls Try.prog 52 #[.pointer (some ⟨g, 0, none⟩)] w fun e w' => e = .returned (.bool (!bad && decide (l.length - a = 0))) ∧ Drawn0 w w' := by
 obtain ⟨a', h, ha⟩ := h
 have H := Aside0.mk h
 clear h
 cases bad with
 | true =>
  clear ha
  go_enter Try.func52, Try.ntmps52
  go_wp2_with fail
  refine (bad_c g _ v l a' true H.out).mono ?_
  rintro e w' ⟨rfl, rfl⟩
  go_wp2_with fail
  go_ret
  exact ⟨rfl, ⟨0, rfl⟩⟩
 | false =>
  obtain rfl := ha rfl
  clear ha
  obtain ⟨q, hq⟩ : ∃ q, q = l.length - a' := ⟨_, rfl⟩
  have HQ := Aside0.mk hq
  have hc := fun w => ahead_c g w v l a' false
  rw [← hq] at hc
  clear hq
  by_cases hz : q = 0
  ·subst hz
   go_enter Try.func52, Try.ntmps52
   go_wp2_with fail
   refine (bad_c g _ v l a' false H.out).mono ?_
   rintro e w' ⟨rfl, rfl⟩
   go_wp2_with fail
   refine (hc _ H.out).mono ?_
   rintro e w' ⟨rfl, n, rfl⟩
   go_wp2_with fail
   go_ret
   exact ⟨by rw [← HQ.out]; rfl, ⟨n, rfl⟩⟩
  ·have hz2 : ((q : Int) == 0) = false := by simp; omega
   have HZ := Aside0.mk hz
   clear hz
   go_enter Try.func52, Try.ntmps52
   go_wp2_with fail
   refine (bad_c g _ v l a' false H.out).mono ?_
   rintro e w' ⟨rfl, rfl⟩
   go_wp2_with fail
   refine (hc _ H.out).mono ?_
   rintro e w' ⟨rfl, n, rfl⟩
   go_wp2_with fail
   go_ret
   exact ⟨by rw [← HQ.out, decide_eq_false HZ.out]; rfl, ⟨n, rfl⟩⟩
set_option maxHeartbeats 1000000 in
theorem nRead (w : World) (v : Value) (l : List Int) (h : Sl w v l) (hl : l.length ≤ 140737488355000) :
  Calls Try.prog 44 #[v] w fun e w' => e = .returned (.pointer (some ⟨w.heap.size, 0, none⟩)) ∧ Rd w.heap.size w' v l 0 false ∧ Below w.heap.size w w' ∧ w'.heap.size = w.heap.size + 1 := by
 have H := Aside0.mk h
 have HL := Aside0.mk hl
 obtain ⟨A, c, rfl, hc, hC⟩ := h
 clear hC hl
 go_enter Try.func44, Try.ntmps44
 go_wp2_with fail
 go_ret
 exact ⟨rfl, ⟨0, ⟨by rw [Own.heap_new]; rfl, H.out.alloc _, Nat.zero_le _, HL.out⟩, fun _ => rfl⟩, below_alloc (Below.refl _ _) _, by show (w.heap.push _).size = _; simp⟩
end Go.Proofs.Ytedfcjcnhgomoaa.VaryR
end
-- MERGED YtedfcjcnhgomoaaDecA
section
namespace Go.Proofs.Ytedfcjcnhgomoaa.DecA
open Go.RowKit Go.Proofs.Ytedfcjcnhgomoaa.P Go.Proofs.YtedfcjcnhgomoaaW.PrintWords Go.Proofs.YtedfcjcnhgomoaaW.PrintLast Go.Proofs.YtedfcjcnhgomoaaW.PrintMore Go.Proofs.Ytedfcjcnhgomoaa.Own Go.Proofs.Ytedfcjcnhgomoaa.Vy Go.Proofs.Ytedfcjcnhgomoaa.VaryR Go.Proofs.Ytedfcjcnhgomoaa.NoteN Go.Proofs.Ytedfcjcnhgomoaa.MsgA
attribute [local go_sem] max2_int min2_int max_two min_two
set_option linter.unusedSimpArgs false
set_option linter.unusedVariables false
theorem but_far {g R : Nat} {w w2 : World} (h : But g w w2) (hR : w.heap.size ≤ R) (o : Nat) (u : Value) : But g w (w2.setCell ⟨R, o, none⟩ u) := by
 have h2 := But.setCell R o w2 u
 exact ⟨h2.os.trans h.os, h2.tape.trans h.tape, h2.output.trans h.output, Nat.le_trans h.size h2.size, fun k hk hn => (h2.block k (Nat.lt_of_lt_of_le hk h.size) (fun e => by have := Option.some.inj e; omega)).trans (h.block k hk hn)⟩
theorem run_noByte {R : Nat} {w : World} {x : Int} {s : ByteArray} {y : Int} (h : w.heap[R]? = some (.cells #[.int .i64 x, .string s, .int .i64 y] 85 (0, 0))) : ∀ o q, w.cell? ⟨R, o, none⟩ ≠ some (.int .u8 q) := by
 intro o q hq
 rw [cell_of_row w _ o _ _ _ h] at hq
 rcases o with _ | _ | _ | o <;> simp at hq
theorem rd_set {g R : Nat} {w : World} {v : Value} {l : List Int} {a : Nat} {bad : Bool} {x : Int} {s : ByteArray} {y : Int} (h : Rd g w v l a bad) (hT : w.heap[R]? = some (.cells #[.int .i64 x, .string s, .int .i64 y] 85 (0, 0))) (hne : g ≠ R) (x' : Int) (s' : ByteArray) (y' : Int) :
  Rd g (((w.setCell ⟨R, 0, none⟩ (.int .i64 x')).setCell ⟨R, 1, none⟩ (.string s')).setCell ⟨R, 2, none⟩ (.int .i64 y')) v l a bad :=
 h.but (((But.setCell R 0 w _).trans (But.setCell R 1 _ _)).trans (But.setCell R 2 _ _)) hne (run_noByte hT)
structure At where
 a : Nat
 bad : Bool
def At.num (l : List Int) (s : At) : Int × At := (stepV 0 s.bad (numL (l.drop s.a)).2 (numL (l.drop s.a)).1, ⟨stepA s.bad s.a (numL (l.drop s.a)).2, stepB s.bad (numL (l.drop s.a)).2⟩)
def At.signed (l : List Int) (s : At) : Int × At := (stepV 0 s.bad (sgnL (l.drop s.a)).2 (sgnL (l.drop s.a)).1, ⟨stepA s.bad s.a (sgnL (l.drop s.a)).2, stepB s.bad (sgnL (l.drop s.a)).2⟩)
def At.text (l : List Int) (s : At) : ByteArray × At := (strOfNums (stepV [] s.bad (textL (l.drop s.a)).2 (textL (l.drop s.a)).1), ⟨stepA s.bad s.a (textL (l.drop s.a)).2, stepB s.bad (textL (l.drop s.a)).2⟩)
def At.run (l : List Int) (s : At) : EditL.Rn × At :=
 if (s.signed l).1 = 0 then (⟨0, ((s.signed l).2.text l).1, 0⟩, ((s.signed l).2.text l).2)
 else (⟨if (s.signed l).1 < 0 then 0 else (s.signed l).1, ⟨#[]⟩, if wrap64 (-(s.signed l).1) < 0 then 0 else wrap64 (-(s.signed l).1)⟩, (s.signed l).2)
def RunPost (g : Nat) (v : Value) (l : List Int) (s : At) (w : World) (e : Ending) (w' : World) : Prop :=
 e = .returned (.agg #[.int .i64 (s.run l).1.f0, .string (s.run l).1.f1, .int .i64 (s.run l).1.f2]) ∧ Rd g w' v l (s.run l).2.a (s.run l).2.bad ∧ But g w w'
set_option maxHeartbeats 4000000 in
set_option maxRecDepth 100000 in
theorem run_c (g X : Nat) (w : World) (v : Value) (l : List Int) (s : At) (h : Rd g w v l s.a s.bad) (hok : Byt.Ok l) (hX : w.heap[X]? = some (.cells #[.pointer (some ⟨g, 0, none⟩)] 73 (0, 0))) (hne : X ≠ g) :
  Calls Try.prog 101 #[.pointer (some ⟨X, 0, none⟩)] w (RunPost g v l s w) := by
 obtain ⟨R, hR⟩ : ∃ R, R = w.heap.size := ⟨_, rfl⟩
 obtain ⟨w1, hw1⟩ : ∃ w1, w1 = w.alloc (.cells #[.int .i64 0, .string ⟨#[]⟩, .int .i64 0] 85) := ⟨_, rfl⟩
 have hb1 : Below w.heap.size w w1 := by rw [hw1]; exact below_alloc (Below.refl _ _) _
 have HX := Aside0.mk (show w1.heap[X]? = some (.cells #[.pointer (some ⟨g, 0, none⟩)] 73 (0, 0)) from (hb1.block _ (Array.getElem?_eq_some_iff.1 hX).1).trans hX)
 have HT := Aside0.mk (show w1.heap[R]? = some (.cells #[.int .i64 0, .string ⟨#[]⟩, .int .i64 0] 85 (0, 0)) by rw [hw1, hR]; exact Own.heap_new _ _)
 have HS := Aside0.mk (VaryR.nSigned g w1 v l s.a s.bad (h.below hb1) hok)
 have HGR := Aside0.mk (show g ≠ R by
  obtain ⟨a', h1, _⟩ := h
  have := (Array.getElem?_eq_some_iff.1 h1.heap).1
  omega)
 have HB1 := Aside0.mk (grown_of_below hb1 (some g))
 have HOK := Aside0.mk hok
 have HNE := Aside0.mk hne
 have HW1 := Aside0.mk hw1
 have HRE := Aside0.mk hR
 have x0 : w1.cell? ⟨X, 0, none⟩ = some (.pointer (some ⟨g, 0, none⟩)) := by rw [cell_of_row _ _ 0 _ _ _ HX.out]; rfl
 obtain ⟨n, hn⟩ : ∃ n, n = (s.signed l).1 := ⟨_, rfl⟩
 obtain ⟨s1, hs1⟩ : ∃ s1, s1 = (s.signed l).2 := ⟨_, rfl⟩
 have hrun : s.run l = if n = 0 then (⟨0, (s1.text l).1, 0⟩, (s1.text l).2) else (⟨if n < 0 then 0 else n, ⟨#[]⟩, if wrap64 (-n) < 0 then 0 else wrap64 (-n)⟩, s1) := by unfold At.run; rw [← hn, ← hs1]
 have HRUN := Aside0.mk hrun
 have HSN := Aside0.mk (show stepV 0 s.bad (sgnL (l.drop s.a)).2 (sgnL (l.drop s.a)).1 = n from hn.symm)
 have HSA := Aside0.mk (show stepA s.bad s.a (sgnL (l.drop s.a)).2 = s1.a by rw [hs1]; rfl)
 have HSB := Aside0.mk (show stepB s.bad (sgnL (l.drop s.a)).2 = s1.bad by rw [hs1]; rfl)
 clear hX h hok hne hw1 hR hn hs1 hrun hb1
 unfold RdPost at HS
 rw [HSN.out, HSA.out, HSB.out] at HS
 unfold RunPost
 rw [HRUN.out]
 go_enter Try.func101, Try.ntmps101
 go_wp2_with (first | rw [← HRE.out, ← HW1.out])
 refine HS.out.mono ?_
 rintro e w2 ⟨rfl, hrd, hb2⟩
 have HRD2 := Aside0.mk hrd
 have HB2 := Aside0.mk (HB1.out.trans hb2)
 have HT2 := Aside0.mk ((hb2.block R (Array.getElem?_eq_some_iff.1 HT.out).1 (fun e => HGR.out (Option.some.inj e).symm)).trans HT.out)
 have HX2 := Aside0.mk ((hb2.block X (Array.getElem?_eq_some_iff.1 HX.out).1 (fun e => HNE.out (Option.some.inj e))).trans HX.out)
 clear hrd hb2 x0 HS
 have x0 : w2.cell? ⟨X, 0, none⟩ = some (.pointer (some ⟨g, 0, none⟩)) := by rw [cell_of_row _ _ 0 _ _ _ HX2.out]; rfl
 have t0 : w2.cell? ⟨R, 0, none⟩ = some (.int .i64 0) := by rw [cell_of_row _ _ 0 _ _ _ HT2.out]; rfl
 have t1 : w2.cell? ⟨R, 1, none⟩ = some (.string ⟨#[]⟩) := by rw [cell_of_row _ _ 1 _ _ _ HT2.out]; rfl
 have t2 : w2.cell? ⟨R, 2, none⟩ = some (.int .i64 0) := by rw [cell_of_row _ _ 2 _ _ _ HT2.out]; rfl
 have f0 := frozen_of_row _ _ 0 _ _ HT2.out
 have f1 := frozen_of_row _ _ 1 _ _ HT2.out
 have f2 := frozen_of_row _ _ 2 _ _ HT2.out
 by_cases h0 : n = 0
 ·subst h0
  have HTX := Aside0.mk (VaryR.nText g w2 v l s1.a s1.bad HRD2.out HOK.out)
  go_wp2_with fail
  refine HTX.out.mono ?_
  rintro e w3 ⟨rfl, hrd, hb3⟩
  have HRD3 := Aside0.mk hrd
  have HB3 := Aside0.mk (HB2.out.trans hb3)
  have HT3 := Aside0.mk ((hb3.block R (Array.getElem?_eq_some_iff.1 HT2.out).1 (fun e => HGR.out (Option.some.inj e).symm)).trans HT2.out)
  clear hrd hb3 x0 t0 t1 t2 f0 f1 f2 HTX
  have t0 : w3.cell? ⟨R, 0, none⟩ = some (.int .i64 0) := by rw [cell_of_row _ _ 0 _ _ _ HT3.out]; rfl
  have t1 : w3.cell? ⟨R, 1, none⟩ = some (.string ⟨#[]⟩) := by rw [cell_of_row _ _ 1 _ _ _ HT3.out]; rfl
  have t2 : w3.cell? ⟨R, 2, none⟩ = some (.int .i64 0) := by rw [cell_of_row _ _ 2 _ _ _ HT3.out]; rfl
  have f0 := frozen_of_row _ _ 0 _ _ HT3.out
  have f1 := frozen_of_row _ _ 1 _ _ HT3.out
  have f2 := frozen_of_row _ _ 2 _ _ HT3.out
  go_wp2_with fail
  refine bodyPost_ret (results_cell_row rfl _ _ R 85 #[_, _, _] (0, 0) _ rfl (set3 HT3.out _ _ _) Try.underlying85 rfl (by kernel_rfl)) rfl ?_
  exact ⟨rfl, rd_set HRD3.out HT3.out HGR.out _ _ _, but_far (but_far (but_far HB3.out (by rw [HRE.out]; exact Nat.le_refl _) 0 _) (by rw [HRE.out]; exact Nat.le_refl _) 1 _) (by rw [HRE.out]; exact Nat.le_refl _) 2 _⟩
 ·have HNZ := Aside0.mk h0
  have hq : (n == 0) = false := by simpa using h0
  go_wp2_with fail
  ·refine bodyPost_ret (results_cell_row rfl _ _ R 85 #[.int .i64 0, .string ⟨#[]⟩, .int .i64 0] (0, 0) _ rfl (set3 HT2.out _ _ _) Try.underlying85 rfl (by kernel_rfl)) rfl ?_
   exact ⟨rfl, rd_set HRD2.out HT2.out HGR.out _ _ _, but_far (but_far (but_far HB2.out (by rw [HRE.out]; exact Nat.le_refl _) 0 _) (by rw [HRE.out]; exact Nat.le_refl _) 1 _) (by rw [HRE.out]; exact Nat.le_refl _) 2 _⟩
  ·refine bodyPost_ret (results_cell_row rfl _ _ R 85 #[.int .i64 0, .string ⟨#[]⟩, .int .i64 (wrap64 (-n))] (0, 0) _ rfl (set3 HT2.out _ _ _) Try.underlying85 rfl (by kernel_rfl)) rfl ?_
   exact ⟨rfl, rd_set HRD2.out HT2.out HGR.out _ _ _, but_far (but_far (but_far HB2.out (by rw [HRE.out]; exact Nat.le_refl _) 0 _) (by rw [HRE.out]; exact Nat.le_refl _) 1 _) (by rw [HRE.out]; exact Nat.le_refl _) 2 _⟩
  ·refine bodyPost_ret (results_cell_row rfl _ _ R 85 #[.int .i64 n, .string ⟨#[]⟩, .int .i64 0] (0, 0) _ rfl (set3 HT2.out _ _ _) Try.underlying85 rfl (by kernel_rfl)) rfl ?_
   exact ⟨rfl, rd_set HRD2.out HT2.out HGR.out _ _ _, but_far (but_far (but_far HB2.out (by rw [HRE.out]; exact Nat.le_refl _) 0 _) (by rw [HRE.out]; exact Nat.le_refl _) 1 _) (by rw [HRE.out]; exact Nat.le_refl _) 2 _⟩
  ·refine bodyPost_ret (results_cell_row rfl _ _ R 85 #[.int .i64 n, .string ⟨#[]⟩, .int .i64 (wrap64 (-n))] (0, 0) _ rfl (set3 HT2.out _ _ _) Try.underlying85 rfl (by kernel_rfl)) rfl ?_
   exact ⟨rfl, rd_set HRD2.out HT2.out HGR.out _ _ _, but_far (but_far (but_far HB2.out (by rw [HRE.out]; exact Nat.le_refl _) 0 _) (by rw [HRE.out]; exact Nat.le_refl _) 1 _) (by rw [HRE.out]; exact Nat.le_refl _) 2 _⟩
theorem num_a (g : Nat) (v : Value) (l : List Int) (hok : Byt.Ok l) (s : At) (W : World) (h : Rd g W v l s.a s.bad) : Calls Try.prog 45 #[.pointer (some ⟨g, 0, none⟩)] W fun e W' => e = .returned (.int .i64 (s.num l).1) ∧ Rd g W' v l (s.num l).2.a (s.num l).2.bad ∧ But g W W' := VaryR.nNum g W v l s.a s.bad h hok
def far (n : Int) : Int := if 16777217 < n then 16777217 else n
def At.note (l : List Int) (q : Int) (s : At) : Nt × Int × At :=
 (⟨⟨far (wrap64 (q + far (s.num l).1)), wrap64 (far (wrap64 (q + far (s.num l).1)) + far ((s.num l).2.num l).1)⟩, (((s.num l).2.num l).2.num l).1⟩, far (wrap64 (q + far (s.num l).1)), (((s.num l).2.num l).2.num l).2)
structure But2 (g Y : Nat) (w w' : World) : Prop where
 os : w'.os = w.os
 tape : w'.tape = w.tape
 output : w'.output = w.output
 size : w.heap.size ≤ w'.heap.size
 block : ∀ b, b < w.heap.size → b ≠ g → b ≠ Y → w'.heap[b]? = w.heap[b]?
theorem But2.trans {g Y : Nat} {a b c : World} (h : But2 g Y a b) (k : But2 g Y b c) : But2 g Y a c :=
 ⟨k.os.trans h.os, k.tape.trans h.tape, k.output.trans h.output, Nat.le_trans h.size k.size, fun i hi h1 h2 => (k.block i (Nat.lt_of_lt_of_le hi h.size) h1 h2).trans (h.block i hi h1 h2)⟩
theorem But2.of {g Y : Nat} {a b : World} (h : But g a b) : But2 g Y a b := ⟨h.os, h.tape, h.output, h.size, fun i hi h1 _ => h.block i hi (fun e => h1 (Option.some.inj e))⟩
def NotePost (g Y : Nat) (v : Value) (l : List Int) (q : Int) (s : At) (w : World) (e : Ending) (w' : World) : Prop :=
 e = .returned (.agg #[.int .i64 (s.note l q).1.f0.f0, .int .i64 (s.note l q).1.f0.f1, .int .i64 (s.note l q).1.f1]) ∧ Rd g w' v l (s.note l q).2.2.a (s.note l q).2.2.bad ∧ w'.heap[Y]? = some (.cells #[.int .i64 (s.note l q).2.1] 3 (0, 0)) ∧ But2 g Y w w'
def S1.T1 : Bool × List (List Nat × List Nat) := (true, [([], []), ([0], [0]), ([1], [1]), ([], []), ([3, 1], [3]), ([4], [4]), ([], []), ([6, 4], [6]), ([2, 7, 0, 1, 2], [2]), ([5, 8, 0, 1, 2, 3, 4, 5, 8], [5]), ([7, 9, 0, 1, 2, 3, 4, 5, 6, 7, 8, 9], [7])])
def S1.B1 : List Nat := [0, 1, 3, 0, 11, 27, 0, 91, 223, 511, 1023]
theorem S1.tab1 : rtab .any (opsOf Try.f104 1) = S1.T1 := by kernel_rfl
theorem S1.bits1 : waitsOk S1.T1.2 S1.B1 = true := by kernel_rfl
set_option maxHeartbeats 8000000 in
set_option maxRecDepth 100000 in
theorem note_c (g X Y : Nat) (w : World) (v : Value) (l : List Int) (q : Int) (s : At) (h : Rd g w v l s.a s.bad) (hok : Byt.Ok l) (hX : w.heap[X]? = some (.cells #[.pointer (some ⟨g, 0, none⟩)] 73 (0, 0))) (hY : w.heap[Y]? = some (.cells #[.int .i64 q] 3 (0, 0))) (hne : X ≠ g) (hyg : Y ≠ g) (hxy : X ≠ Y) :
  Calls Try.prog 104 #[.pointer (some ⟨X, 0, none⟩), .pointer (some ⟨Y, 0, none⟩)] w (NotePost g Y v l q s w) := by
 obtain ⟨R, hR⟩ : ∃ R, R = w.heap.size := ⟨_, rfl⟩
 obtain ⟨w1, hw1⟩ : ∃ w1, w1 = w.alloc (.cells #[.int .i64 0, .int .i64 0, .int .i64 0] 104) := ⟨_, rfl⟩
 have hb1 : Below w.heap.size w w1 := by rw [hw1]; exact below_alloc (Below.refl _ _) _
 have HX := Aside0.mk (show w1.heap[X]? = some (.cells #[.pointer (some ⟨g, 0, none⟩)] 73 (0, 0)) from (hb1.block _ (Array.getElem?_eq_some_iff.1 hX).1).trans hX)
 have HY := Aside0.mk (show w1.heap[Y]? = some (.cells #[.int .i64 q] 3 (0, 0)) from (hb1.block _ (Array.getElem?_eq_some_iff.1 hY).1).trans hY)
 have HT := Aside0.mk (show w1.heap[R]? = some (.cells #[.int .i64 0, .int .i64 0, .int .i64 0] 104 (0, 0)) by rw [hw1, hR]; exact Own.heap_new _ _)
 have HR0 := Aside0.mk (show Rd g w1 v l s.a s.bad from h.below hb1)
 have HB1 := Aside0.mk hb1
 have HYL := Aside0.mk (Array.getElem?_eq_some_iff.1 hY).1
 have HGR := Aside0.mk (show g ≠ R by
  obtain ⟨a', h1, _⟩ := h
  have := (Array.getElem?_eq_some_iff.1 h1.heap).1
  omega)
 have HOK := Aside0.mk hok
 have HNE := Aside0.mk (And.intro hne (And.intro hyg hxy))
 have HW1 := Aside0.mk hw1
 have HRE := Aside0.mk hR
 have HBU := Aside0.mk (But.refl g w1)
 have HALX := Aside0.mk (fun (W : World) (hW : But g w1 W) => (show W.cell? ⟨X, 0, none⟩ = some (.pointer (some ⟨g, 0, none⟩)) by
  have e := (hW.block X (Array.getElem?_eq_some_iff.1 HX.out).1 (fun e => HNE.out.1 (Option.some.inj e))).trans HX.out
  rw [cell_of_row _ _ 0 _ _ _ e]; rfl))
 clear hX hY h hok hne hyg hxy hw1 hR hb1
 go_enter Try.func104, Try.ntmps104
 go_wp2_with (first | rw [← HRE.out, ← HW1.out])
 refine start_ (n := 11) (S := fun w' => True) (ds := []) #[false, false, false, false, false, false, false, false, false, false, false] (by kernel_rfl) rfl rfl trivial (fun hHeld => ?_); refine with_tabW S1.tab1 S1.bits1 (fun HT_ HW_ => ?_)
 refine inv_at [0, 1, 2, 3, 4, 5, 6, 7, 8, 9, 10] (fun a0_ b a w' => a = putSel a0_ b [(0, 6, (.pointer (some ⟨g, 0, none⟩))), (1, 7, (.int .i64 (s.num l).1)), (2, 8, (.int .i64 (far (s.num l).1))), (3, 9, (.pointer (some ⟨g, 0, none⟩))), (4, 10, (.int .i64 ((s.num l).2.num l).1)), (5, 11, (.int .i64 (far ((s.num l).2.num l).1))), (6, 12, (.pointer (some ⟨g, 0, none⟩))), (7, 13, (.int .i64 (((s.num l).2.num l).2.num l).1)), (8, 3, (.int .i64 (far (s.num l).1))), (9, 4, (.int .i64 (far ((s.num l).2.num l).1))), (10, 5, (.int .i64 (((s.num l).2.num l).2.num l).1))] ∧ (But g w1 w') ∧ (b 1 = false → Rd g w' v l s.a s.bad) ∧ (b 1 = true → b 4 = false → Rd g w' v l (s.num l).2.a (s.num l).2.bad) ∧ (b 4 = true → b 7 = false → Rd g w' v l ((s.num l).2.num l).2.a ((s.num l).2.num l).2.bad) ∧ (b 7 = true → Rd g w' v l (((s.num l).2.num l).2.num l).2.a (((s.num l).2.num l).2.num l).2.bad)) HT_.out HW_.out (by kernel_rfl) (by kernel_rfl) ?_ ?_ ?_
 ·exact ⟨by simp only [putSel, Bool.false_eq_true, if_false], HBU.out.trans (But.drewN g _ 1), fun _ => HR0.out.below (below_drew1 (Below.refl _ _)), fun h_ => absurd h_ (by decide), fun h_ => absurd h_ (by decide), fun h_ => absurd h_ (by decide)⟩
 ·skip
  clear HBU HR0
  refine steps_cons ?_ ?_
  ·rintro b a w' ⟨ha, Q_HBU, Q_HR0, Q_HR1, Q_HR2, Q_HR3⟩ hb_ hon hoff
   refine ⟨_, rfl, fun K hK => ?_⟩
   have e0 : a.tmps[0]? = some ((.pointer (some ⟨X, 0, none⟩))) := by rw [ha]; exact (putSel_off rfl).trans rfl
   replace ha := Aside0.mk ha
   have HBU := Aside0.mk Q_HBU
   have HR0 := Aside0.mk (Q_HR0 (hoff 1 (by kernel_rfl)))
   have x0_ := HALX.out _ HBU.out
   refine value_ (w1 := w') (v := (.pointer (some ⟨g, 0, none⟩))) (by rfl) rfl ?_ ?_
   ·go_simp
    (try simp only [i64_w])
    try (first | rfl | assumption)
   refine hK.out _ _ ⟨(by rw [ha.out]; exact putSel_upk 0 hb_ rfl rfl rfl), Q_HBU, Q_HR0, fun h0_ _ => absurd ((hoff 1 (by kernel_rfl)).symm.trans h0_) (by decide), fun h0_ _ => absurd ((hoff 4 (by kernel_rfl)).symm.trans h0_) (by decide), fun h0_ => absurd ((hoff 7 (by kernel_rfl)).symm.trans h0_) (by decide)⟩
  refine steps_cons ?_ ?_
  ·rintro b a w' ⟨ha, Q_HBU, Q_HR0, Q_HR1, Q_HR2, Q_HR3⟩ hb_ hon hoff
   refine ⟨_, rfl, fun K hK => ?_⟩
   have e6 : a.tmps[6]? = some ((.pointer (some ⟨g, 0, none⟩))) := by rw [ha]; exact putSel_on (e := (0, 6, (.pointer (some ⟨g, 0, none⟩)))) 0 rfl rfl (hon 0 (by kernel_rfl)) rfl
   replace ha := Aside0.mk ha
   have HBU := Aside0.mk Q_HBU
   have HR0 := Aside0.mk (Q_HR0 hb_)
   refine goes_ Try.func45 (by kernel_rfl) rfl #[.pointer (some ⟨g, 0, none⟩)] (by rfl) rfl rfl (by first | (simp only [List.map_toArray, List.map_cons, List.map_nil, Act.eval, Array.getD_eq_getD_getElem?, Option.getD_some, e6]; done) | (simp only [List.map_toArray, List.map_cons, List.map_nil, Act.eval, Array.getD_eq_getD_getElem?, Option.getD_some, e6]; rfl)) ?_
   refine (num_a g v l HOK.out s _ HR0.out).mono ?_
   rintro e w1_ ⟨rfl, hrd, hb⟩
   refine ⟨_, rfl, ?_⟩
   refine hK.out _ _ ⟨(by rw [ha.out]; exact putSel_upk 1 hb_ rfl rfl rfl), HBU.out.trans hb, fun h0_ => absurd ((up_self b 1).symm.trans h0_) (by decide), fun _ _ => hrd, fun h0_ _ => absurd ((hoff 4 (by kernel_rfl)).symm.trans h0_) (by decide), fun h0_ => absurd ((hoff 7 (by kernel_rfl)).symm.trans h0_) (by decide)⟩
  refine steps_cons ?_ ?_
  ·rintro b a w' ⟨ha, Q_HBU, Q_HR0, Q_HR1, Q_HR2, Q_HR3⟩ hb_ hon hoff
   refine ⟨_, rfl, fun K hK => ?_⟩
   have e7 : a.tmps[7]? = some ((.int .i64 (s.num l).1)) := by rw [ha]; exact putSel_on (e := (1, 7, (.int .i64 (s.num l).1))) 1 rfl rfl (hon 1 (by kernel_rfl)) rfl
   replace ha := Aside0.mk ha
   have HBU := Aside0.mk Q_HBU
   refine value_ (w1 := w') (v := (.int .i64 (far (s.num l).1))) (by rfl) rfl ?_ ?_
   ·go_simp
    (try simp only [i64_w])
    try (first | rfl | assumption)
   refine hK.out _ _ ⟨(by rw [ha.out]; exact putSel_upk 2 hb_ rfl rfl rfl), Q_HBU, fun h0_ => absurd ((hon 1 (by kernel_rfl)).symm.trans h0_) (by decide), Q_HR1, Q_HR2, Q_HR3⟩
  refine steps_cons ?_ ?_
  ·rintro b a w' ⟨ha, Q_HBU, Q_HR0, Q_HR1, Q_HR2, Q_HR3⟩ hb_ hon hoff
   refine ⟨_, rfl, fun K hK => ?_⟩
   have e0 : a.tmps[0]? = some ((.pointer (some ⟨X, 0, none⟩))) := by rw [ha]; exact (putSel_off rfl).trans rfl
   replace ha := Aside0.mk ha
   have HBU := Aside0.mk Q_HBU
   have x0_ := HALX.out _ HBU.out
   refine value_ (w1 := w') (v := (.pointer (some ⟨g, 0, none⟩))) (by rfl) rfl ?_ ?_
   ·go_simp
    (try simp only [i64_w])
    try (first | rfl | assumption)
   refine hK.out _ _ ⟨(by rw [ha.out]; exact putSel_upk 3 hb_ rfl rfl rfl), Q_HBU, Q_HR0, Q_HR1, fun h0_ _ => absurd ((hoff 4 (by kernel_rfl)).symm.trans h0_) (by decide), fun h0_ => absurd ((hoff 7 (by kernel_rfl)).symm.trans h0_) (by decide)⟩
  refine steps_cons ?_ ?_
  ·rintro b a w' ⟨ha, Q_HBU, Q_HR0, Q_HR1, Q_HR2, Q_HR3⟩ hb_ hon hoff
   refine ⟨_, rfl, fun K hK => ?_⟩
   have e9 : a.tmps[9]? = some ((.pointer (some ⟨g, 0, none⟩))) := by rw [ha]; exact putSel_on (e := (3, 9, (.pointer (some ⟨g, 0, none⟩)))) 3 rfl rfl (hon 3 (by kernel_rfl)) rfl
   replace ha := Aside0.mk ha
   have HBU := Aside0.mk Q_HBU
   have HR1 := Aside0.mk (Q_HR1 (hon 1 (by kernel_rfl)) hb_)
   refine goes_ Try.func45 (by kernel_rfl) rfl #[.pointer (some ⟨g, 0, none⟩)] (by rfl) rfl rfl (by first | (simp only [List.map_toArray, List.map_cons, List.map_nil, Act.eval, Array.getD_eq_getD_getElem?, Option.getD_some, e9]; done) | (simp only [List.map_toArray, List.map_cons, List.map_nil, Act.eval, Array.getD_eq_getD_getElem?, Option.getD_some, e9]; rfl)) ?_
   refine (num_a g v l HOK.out (s.num l).2 _ HR1.out).mono ?_
   rintro e w1_ ⟨rfl, hrd, hb⟩
   refine ⟨_, rfl, ?_⟩
   refine hK.out _ _ ⟨(by rw [ha.out]; exact putSel_upk 4 hb_ rfl rfl rfl), HBU.out.trans hb, fun h0_ => absurd ((hon 1 (by kernel_rfl)).symm.trans h0_) (by decide), fun _ h1_ => absurd ((up_self b 4).symm.trans h1_) (by decide), fun _ _ => hrd, fun h0_ => absurd ((hoff 7 (by kernel_rfl)).symm.trans h0_) (by decide)⟩
  refine steps_cons ?_ ?_
  ·rintro b a w' ⟨ha, Q_HBU, Q_HR0, Q_HR1, Q_HR2, Q_HR3⟩ hb_ hon hoff
   refine ⟨_, rfl, fun K hK => ?_⟩
   have e10 : a.tmps[10]? = some ((.int .i64 ((s.num l).2.num l).1)) := by rw [ha]; exact putSel_on (e := (4, 10, (.int .i64 ((s.num l).2.num l).1))) 4 rfl rfl (hon 4 (by kernel_rfl)) rfl
   replace ha := Aside0.mk ha
   have HBU := Aside0.mk Q_HBU
   refine value_ (w1 := w') (v := (.int .i64 (far ((s.num l).2.num l).1))) (by rfl) rfl ?_ ?_
   ·go_simp
    (try simp only [i64_w])
    try (first | rfl | assumption)
   refine hK.out _ _ ⟨(by rw [ha.out]; exact putSel_upk 5 hb_ rfl rfl rfl), Q_HBU, fun h0_ => absurd ((hon 1 (by kernel_rfl)).symm.trans h0_) (by decide), fun _ h1_ => absurd ((hon 4 (by kernel_rfl)).symm.trans h1_) (by decide), Q_HR2, Q_HR3⟩
  refine steps_cons ?_ ?_
  ·rintro b a w' ⟨ha, Q_HBU, Q_HR0, Q_HR1, Q_HR2, Q_HR3⟩ hb_ hon hoff
   refine ⟨_, rfl, fun K hK => ?_⟩
   have e0 : a.tmps[0]? = some ((.pointer (some ⟨X, 0, none⟩))) := by rw [ha]; exact (putSel_off rfl).trans rfl
   replace ha := Aside0.mk ha
   have HBU := Aside0.mk Q_HBU
   have x0_ := HALX.out _ HBU.out
   refine value_ (w1 := w') (v := (.pointer (some ⟨g, 0, none⟩))) (by rfl) rfl ?_ ?_
   ·go_simp
    (try simp only [i64_w])
    try (first | rfl | assumption)
   refine hK.out _ _ ⟨(by rw [ha.out]; exact putSel_upk 6 hb_ rfl rfl rfl), Q_HBU, Q_HR0, Q_HR1, Q_HR2, fun h0_ => absurd ((hoff 7 (by kernel_rfl)).symm.trans h0_) (by decide)⟩
  refine steps_cons ?_ ?_
  ·rintro b a w' ⟨ha, Q_HBU, Q_HR0, Q_HR1, Q_HR2, Q_HR3⟩ hb_ hon hoff
   refine ⟨_, rfl, fun K hK => ?_⟩
   have e12 : a.tmps[12]? = some ((.pointer (some ⟨g, 0, none⟩))) := by rw [ha]; exact putSel_on (e := (6, 12, (.pointer (some ⟨g, 0, none⟩)))) 6 rfl rfl (hon 6 (by kernel_rfl)) rfl
   replace ha := Aside0.mk ha
   have HBU := Aside0.mk Q_HBU
   have HR2 := Aside0.mk (Q_HR2 (hon 4 (by kernel_rfl)) hb_)
   refine goes_ Try.func45 (by kernel_rfl) rfl #[.pointer (some ⟨g, 0, none⟩)] (by rfl) rfl rfl (by first | (simp only [List.map_toArray, List.map_cons, List.map_nil, Act.eval, Array.getD_eq_getD_getElem?, Option.getD_some, e12]; done) | (simp only [List.map_toArray, List.map_cons, List.map_nil, Act.eval, Array.getD_eq_getD_getElem?, Option.getD_some, e12]; rfl)) ?_
   refine (num_a g v l HOK.out ((s.num l).2.num l).2 _ HR2.out).mono ?_
   rintro e w1_ ⟨rfl, hrd, hb⟩
   refine ⟨_, rfl, ?_⟩
   refine hK.out _ _ ⟨(by rw [ha.out]; exact putSel_upk 7 hb_ rfl rfl rfl), HBU.out.trans hb, fun h0_ => absurd ((hon 1 (by kernel_rfl)).symm.trans h0_) (by decide), fun _ h1_ => absurd ((hon 4 (by kernel_rfl)).symm.trans h1_) (by decide), fun _ h1_ => absurd ((up_self b 7).symm.trans h1_) (by decide), fun _ => hrd⟩
  refine steps_cons ?_ ?_
  ·rintro b a w' ⟨ha, Q_HBU, Q_HR0, Q_HR1, Q_HR2, Q_HR3⟩ hb_ hon hoff
   refine ⟨_, rfl, fun K hK => ?_⟩
   have e8 : a.tmps[8]? = some ((.int .i64 (far (s.num l).1))) := by rw [ha]; exact putSel_on (e := (2, 8, (.int .i64 (far (s.num l).1)))) 2 rfl rfl (hon 2 (by kernel_rfl)) rfl
   replace ha := Aside0.mk ha
   have HBU := Aside0.mk Q_HBU
   have HR3 := Aside0.mk (Q_HR3 (hon 7 (by kernel_rfl)))
   refine value_ (w1 := w') (v := (.int .i64 (far (s.num l).1))) (by rfl) rfl ?_ ?_
   ·go_simp
    (try simp only [i64_w])
    try (first | rfl | assumption)
   refine hK.out _ _ ⟨(by rw [ha.out]; exact putSel_upk 8 hb_ rfl rfl rfl), Q_HBU, fun h0_ => absurd ((hon 1 (by kernel_rfl)).symm.trans h0_) (by decide), fun _ h1_ => absurd ((hon 4 (by kernel_rfl)).symm.trans h1_) (by decide), fun _ h1_ => absurd ((hon 7 (by kernel_rfl)).symm.trans h1_) (by decide), Q_HR3⟩
  refine steps_cons ?_ ?_
  ·rintro b a w' ⟨ha, Q_HBU, Q_HR0, Q_HR1, Q_HR2, Q_HR3⟩ hb_ hon hoff
   refine ⟨_, rfl, fun K hK => ?_⟩
   have e11 : a.tmps[11]? = some ((.int .i64 (far ((s.num l).2.num l).1))) := by rw [ha]; exact putSel_on (e := (5, 11, (.int .i64 (far ((s.num l).2.num l).1)))) 5 rfl rfl (hon 5 (by kernel_rfl)) rfl
   replace ha := Aside0.mk ha
   have HBU := Aside0.mk Q_HBU
   have HR3 := Aside0.mk (Q_HR3 (hon 7 (by kernel_rfl)))
   refine value_ (w1 := w') (v := (.int .i64 (far ((s.num l).2.num l).1))) (by rfl) rfl ?_ ?_
   ·go_simp
    (try simp only [i64_w])
    try (first | rfl | assumption)
   refine hK.out _ _ ⟨(by rw [ha.out]; exact putSel_upk 9 hb_ rfl rfl rfl), Q_HBU, fun h0_ => absurd ((hon 1 (by kernel_rfl)).symm.trans h0_) (by decide), fun _ h1_ => absurd ((hon 4 (by kernel_rfl)).symm.trans h1_) (by decide), fun _ h1_ => absurd ((hon 7 (by kernel_rfl)).symm.trans h1_) (by decide), Q_HR3⟩
  refine steps_cons ?_ ?_
  ·rintro b a w' ⟨ha, Q_HBU, Q_HR0, Q_HR1, Q_HR2, Q_HR3⟩ hb_ hon hoff
   refine ⟨_, rfl, fun K hK => ?_⟩
   have e13 : a.tmps[13]? = some ((.int .i64 (((s.num l).2.num l).2.num l).1)) := by rw [ha]; exact putSel_on (e := (7, 13, (.int .i64 (((s.num l).2.num l).2.num l).1))) 7 rfl rfl (hon 7 (by kernel_rfl)) rfl
   replace ha := Aside0.mk ha
   have HBU := Aside0.mk Q_HBU
   have HR3 := Aside0.mk (Q_HR3 (hon 7 (by kernel_rfl)))
   refine value_ (w1 := w') (v := (.int .i64 (((s.num l).2.num l).2.num l).1)) (by rfl) rfl ?_ ?_
   ·go_simp
    (try simp only [i64_w])
    try (first | rfl | assumption)
   refine hK.out _ _ ⟨(by rw [ha.out]; exact putSel_upk 10 hb_ rfl rfl rfl), Q_HBU, fun h0_ => absurd ((hon 1 (by kernel_rfl)).symm.trans h0_) (by decide), fun _ h1_ => absurd ((hon 4 (by kernel_rfl)).symm.trans h1_) (by decide), fun _ h1_ => absurd ((hon 7 (by kernel_rfl)).symm.trans h1_) (by decide), Q_HR3⟩
  exact steps_nil
 rintro b a we hall ⟨ha, Q_HBU, Q_HR0, Q_HR1, Q_HR2, Q_HR3⟩
 clear HBU HR0
 have hb0_ := hall 0 (by kernel_rfl)
 have hb1_ := hall 1 (by kernel_rfl)
 have hb2_ := hall 2 (by kernel_rfl)
 have hb3_ := hall 3 (by kernel_rfl)
 have hb4_ := hall 4 (by kernel_rfl)
 have hb5_ := hall 5 (by kernel_rfl)
 have hb6_ := hall 6 (by kernel_rfl)
 have hb7_ := hall 7 (by kernel_rfl)
 have hb8_ := hall 8 (by kernel_rfl)
 have hb9_ := hall 9 (by kernel_rfl)
 have hb10_ := hall 10 (by kernel_rfl)
 subst ha
 simp only [putSel, hb0_, hb1_, hb2_, hb3_, hb4_, hb5_, hb6_, hb7_, hb8_, hb9_, hb10_, if_true, Act.put, List.setIfInBounds_toArray, List.set_cons_zero, List.set_cons_succ]
 have HBU := Aside0.mk Q_HBU
 clear Q_HBU
 clear Q_HR0
 clear Q_HR1
 clear Q_HR2
 have HR3 := Aside0.mk (Q_HR3 hb7_)
 clear Q_HR3
 clear hall hb0_ hb1_ hb2_ hb3_ hb4_ hb5_ hb6_ hb7_ hb8_ hb9_ hb10_
 obtain ⟨n1, hn1⟩ : ∃ n1, n1 = far (s.num l).1 := ⟨_, rfl⟩
 obtain ⟨n2, hn2⟩ : ∃ n2, n2 = far ((s.num l).2.num l).1 := ⟨_, rfl⟩
 obtain ⟨n3, hn3⟩ : ∃ n3, n3 = (((s.num l).2.num l).2.num l).1 := ⟨_, rfl⟩
 obtain ⟨s3, hs3⟩ : ∃ s3, s3 = (((s.num l).2.num l).2.num l).2 := ⟨_, rfl⟩
 obtain ⟨q2, hq2⟩ : ∃ q2, q2 = far (wrap64 (q + n1)) := ⟨_, rfl⟩
 have hnote : s.note l q = (⟨⟨q2, wrap64 (q2 + n2)⟩, n3⟩, q2, s3) := by unfold At.note; rw [← hn1, ← hn2, ← hn3, ← hs3, ← hq2]
 have HNT := Aside0.mk hnote
 have HQ2 := Aside0.mk hq2
 have HYE := Aside0.mk ((HBU.out.block Y (Array.getElem?_eq_some_iff.1 HY.out).1 (fun e => HNE.out.2.1 (Option.some.inj e))).trans HY.out)
 rw [← hn1, ← hn2, ← hn3]
 rw [← hs3] at HR3
 have HTE := Aside0.mk ((HBU.out.block R (Array.getElem?_eq_some_iff.1 HT.out).1 (fun e => HGR.out (Option.some.inj e).symm)).trans HT.out)
 have HRY := Aside0.mk (show R ≠ Y by have h1 := HYL.out; have h2 := HRE.out; omega)
 clear hn1 hn2 hn3 hs3 hq2 hnote
 have y0 : we.cell? ⟨Y, 0, none⟩ = some (.int .i64 q) := by rw [cell_of_row _ _ 0 _ _ _ HYE.out]; rfl
 have fy := frozen_of_row _ _ 0 _ _ HYE.out
 by_cases hf : 16777217 < wrap64 (q + n1)
 ·have e2 : q2 = 16777217 := by rw [HQ2.out]; unfold far; rw [if_pos hf]
  obtain ⟨wy, hwy⟩ : ∃ wy, wy = we.setCell ⟨Y, 0, none⟩ (.int .i64 (16777217)) := ⟨_, rfl⟩
  have HYY := Aside0.mk (show wy.heap[Y]? = some (.cells #[.int .i64 q2] 3 (0, 0)) by rw [hwy, e2]; exact heap_setCell_same we Y 0 _ _ _ HYE.out)
  have HTY := Aside0.mk (show wy.heap[R]? = some (.cells #[.int .i64 0, .int .i64 0, .int .i64 0] 104 (0, 0)) by rw [hwy]; exact (heap_setCell_other we ⟨Y, 0, none⟩ R _ HRY.out).trans HTE.out)
  have HRDY := Aside0.mk (show Rd g wy v l s3.a s3.bad by
   rw [hwy]
   refine HR3.out.but (But.setCell Y 0 we _) HNE.out.2.1.symm ?_
   intro o z hz
   rw [cell_of_row _ _ o _ _ _ HYE.out] at hz
   rcases o with _ | o <;> simp at hz)
  have HWY := Aside0.mk hwy
  have HE2 := Aside0.mk e2
  have yy : wy.cell? ⟨Y, 0, none⟩ = some (.int .i64 (16777217)) := by rw [cell_of_row _ _ 0 _ _ _ HYY.out, e2]; rfl
  have t0 : wy.cell? ⟨R, 0, none⟩ = some (.int .i64 0) := by rw [cell_of_row _ _ 0 _ _ _ HTY.out]; rfl
  have t1 : wy.cell? ⟨R, 1, none⟩ = some (.int .i64 0) := by rw [cell_of_row _ _ 1 _ _ _ HTY.out]; rfl
  have t2 : wy.cell? ⟨R, 2, none⟩ = some (.int .i64 0) := by rw [cell_of_row _ _ 2 _ _ _ HTY.out]; rfl
  have f0 := frozen_of_row _ _ 0 _ _ HTY.out
  have f1 := frozen_of_row _ _ 1 _ _ HTY.out
  have f2 := frozen_of_row _ _ 2 _ _ HTY.out
  clear hwy e2
  go_wp2_with (first | rw [← HWY.out])
  refine bodyPost_ret (results_cell_row rfl _ _ R 104 #[_, _, _] (0, 0) _ rfl (set3 HTY.out _ _ _) Try.underlying104 rfl (by kernel_rfl)) rfl ?_
  unfold NotePost
  rw [HNT.out, HE2.out]
  refine ⟨rfl, ?_, ?_, ⟨?_, ?_, ?_, ?_, ?_⟩⟩
  ·refine HRDY.out.but (((But.setCell R 0 wy _).trans (But.setCell R 1 _ _)).trans (But.setCell R 2 _ _)) HGR.out ?_
   intro o z hz
   rw [cell_of_row _ _ o _ _ _ HTY.out] at hz
   rcases o with _ | _ | _ | o <;> simp at hz
  ·rw [Below.heap_setCell _ _ _ _ (show Y ≠ R from HRY.out.symm), Below.heap_setCell _ _ _ _ (show Y ≠ R from HRY.out.symm), Below.heap_setCell _ _ _ _ (show Y ≠ R from HRY.out.symm), HYY.out, HE2.out]
  ·show wy.os = w.os; rw [HWY.out]; exact HBU.out.os.trans HB1.out.os
  ·show wy.tape = w.tape; rw [HWY.out]; exact HBU.out.tape.trans HB1.out.tape
  ·show wy.output = w.output; rw [HWY.out]; exact HBU.out.output.trans HB1.out.output
  ·exact Nat.le_trans HB1.out.size (Nat.le_trans HBU.out.size (Nat.le_trans (by rw [HWY.out]; exact (But.setCell Y 0 we _).size) (((But.setCell R 0 wy _).trans (But.setCell R 1 _ _)).trans (But.setCell R 2 _ _)).size))
  ·intro b hb hbg hby
   have hbr : b ≠ R := by have := HRE.out; omega
   rw [Below.heap_setCell _ _ _ _ (show b ≠ R from hbr), Below.heap_setCell _ _ _ _ (show b ≠ R from hbr), Below.heap_setCell _ _ _ _ (show b ≠ R from hbr), HWY.out, Below.heap_setCell _ _ _ _ (show b ≠ Y from hby)]
   exact (HBU.out.block b (by have := HB1.out.size; omega) (fun e => hbg (Option.some.inj e))).trans (HB1.out.block b hb)
 ·have e2 : q2 = wrap64 (q + n1) := by rw [HQ2.out]; unfold far; rw [if_neg hf]
  obtain ⟨wy, hwy⟩ : ∃ wy, wy = we.setCell ⟨Y, 0, none⟩ (.int .i64 (wrap64 (q + n1))) := ⟨_, rfl⟩
  have HYY := Aside0.mk (show wy.heap[Y]? = some (.cells #[.int .i64 q2] 3 (0, 0)) by rw [hwy, e2]; exact heap_setCell_same we Y 0 _ _ _ HYE.out)
  have HTY := Aside0.mk (show wy.heap[R]? = some (.cells #[.int .i64 0, .int .i64 0, .int .i64 0] 104 (0, 0)) by rw [hwy]; exact (heap_setCell_other we ⟨Y, 0, none⟩ R _ HRY.out).trans HTE.out)
  have HRDY := Aside0.mk (show Rd g wy v l s3.a s3.bad by
   rw [hwy]
   refine HR3.out.but (But.setCell Y 0 we _) HNE.out.2.1.symm ?_
   intro o z hz
   rw [cell_of_row _ _ o _ _ _ HYE.out] at hz
   rcases o with _ | o <;> simp at hz)
  have HWY := Aside0.mk hwy
  have HE2 := Aside0.mk e2
  have yy : wy.cell? ⟨Y, 0, none⟩ = some (.int .i64 (wrap64 (q + n1))) := by rw [cell_of_row _ _ 0 _ _ _ HYY.out, e2]; rfl
  have t0 : wy.cell? ⟨R, 0, none⟩ = some (.int .i64 0) := by rw [cell_of_row _ _ 0 _ _ _ HTY.out]; rfl
  have t1 : wy.cell? ⟨R, 1, none⟩ = some (.int .i64 0) := by rw [cell_of_row _ _ 1 _ _ _ HTY.out]; rfl
  have t2 : wy.cell? ⟨R, 2, none⟩ = some (.int .i64 0) := by rw [cell_of_row _ _ 2 _ _ _ HTY.out]; rfl
  have f0 := frozen_of_row _ _ 0 _ _ HTY.out
  have f1 := frozen_of_row _ _ 1 _ _ HTY.out
  have f2 := frozen_of_row _ _ 2 _ _ HTY.out
  clear hwy e2
  go_wp2_with (first | rw [← HWY.out])
  refine bodyPost_ret (results_cell_row rfl _ _ R 104 #[_, _, _] (0, 0) _ rfl (set3 HTY.out _ _ _) Try.underlying104 rfl (by kernel_rfl)) rfl ?_
  unfold NotePost
  rw [HNT.out, HE2.out]
  refine ⟨rfl, ?_, ?_, ⟨?_, ?_, ?_, ?_, ?_⟩⟩
  ·refine HRDY.out.but (((But.setCell R 0 wy _).trans (But.setCell R 1 _ _)).trans (But.setCell R 2 _ _)) HGR.out ?_
   intro o z hz
   rw [cell_of_row _ _ o _ _ _ HTY.out] at hz
   rcases o with _ | _ | _ | o <;> simp at hz
  ·rw [Below.heap_setCell _ _ _ _ (show Y ≠ R from HRY.out.symm), Below.heap_setCell _ _ _ _ (show Y ≠ R from HRY.out.symm), Below.heap_setCell _ _ _ _ (show Y ≠ R from HRY.out.symm), HYY.out, HE2.out]
  ·show wy.os = w.os; rw [HWY.out]; exact HBU.out.os.trans HB1.out.os
  ·show wy.tape = w.tape; rw [HWY.out]; exact HBU.out.tape.trans HB1.out.tape
  ·show wy.output = w.output; rw [HWY.out]; exact HBU.out.output.trans HB1.out.output
  ·exact Nat.le_trans HB1.out.size (Nat.le_trans HBU.out.size (Nat.le_trans (by rw [HWY.out]; exact (But.setCell Y 0 we _).size) (((But.setCell R 0 wy _).trans (But.setCell R 1 _ _)).trans (But.setCell R 2 _ _)).size))
  ·intro b hb hbg hby
   have hbr : b ≠ R := by have := HRE.out; omega
   rw [Below.heap_setCell _ _ _ _ (show b ≠ R from hbr), Below.heap_setCell _ _ _ _ (show b ≠ R from hbr), Below.heap_setCell _ _ _ _ (show b ≠ R from hbr), HWY.out, Below.heap_setCell _ _ _ _ (show b ≠ Y from hby)]
   exact (HBU.out.block b (by have := HB1.out.size; omega) (fun e => hbg (Option.some.inj e))).trans (HB1.out.block b hb)
end Go.Proofs.Ytedfcjcnhgomoaa.DecA
end
-- MERGED YtedfcjcnhgomoaaRowRn
section
namespace Go.Proofs.Ytedfcjcnhgomoaa.RowRn
open Go.RowKit Go.Proofs.Ytedfcjcnhgomoaa.P Go.Proofs.YtedfcjcnhgomoaaW.PrintWords Go.Proofs.YtedfcjcnhgomoaaW.PrintLast Go.Proofs.YtedfcjcnhgomoaaW.PrintMore Go.Proofs.Ytedfcjcnhgomoaa.Own Go.Proofs.Ytedfcjcnhgomoaa.EditL Go.Proofs.Ytedfcjcnhgomoaa.EditK
set_option linter.unusedSimpArgs false
set_option linter.unusedVariables false
def rcells (l : List Rn) : List Value := l.flatMap fun r => [.int .i64 r.f0, .string r.f1, .int .i64 r.f2]
theorem rcells_length (l : List Rn) : (rcells l).length = l.length * 3 := by
 unfold rcells
 induction l with
 | nil => rfl
 | cons p l ih => rw [List.flatMap_cons, List.length_append, ih, List.length_cons]; simp; omega
theorem rcells_snoc (l : List Rn) (r : Rn) : rcells (l ++ [r]) = rcells l ++ [.int .i64 r.f0, .string r.f1, .int .i64 r.f2] := by simp [rcells]
theorem rcells_at (l : List Rn) : ∀ (j : Nat) (r : Rn), l[j]? = some r → ((rcells l).drop (j * 3)).take 3 = [.int .i64 r.f0, .string r.f1, .int .i64 r.f2] := by
 induction l with
 | nil => intro j r h; simp at h
 | cons p l ih =>
  intro j r h
  have e : rcells (p :: l) = [.int .i64 p.f0, .string p.f1, .int .i64 p.f2] ++ rcells l := rfl
  cases j with
  | zero =>
   obtain rfl : p = r := by simpa using h
   rw [e]; simp
  | succ j =>
   have h2 : l[j]? = some r := by simpa using h
   rw [e, show (j + 1) * 3 = 3 + j * 3 by omega, ← List.drop_drop]
   exact ih j r h2
abbrev RO (w : World) (B : Nat) (v : Value) (l : List Rn) : Prop := w.ownsRow B 85 3 v l.length (rcells l)
theorem RO.R {w : World} {B : Nat} {v : Value} {l : List Rn} (h : RO w B v l) : Kd.R k85 85 w B (fun _ => True) v l :=
 ⟨fun _ _ => trivial, rcells l, h, by rw [rcells_length]; rfl, fun j p hj => by
  have e := rcells_at l j p hj
  show k85.M _ _ _ p (((rcells l).drop (j * 3)).take 3)
  rw [e]; exact k85_mkM _ _ _ p⟩
theorem RO.below {w w' : World} {B : Nat} {v : Value} {l : List Rn} (h : RO w B v l) (hb : Below w.heap.size w w') : RO w' B v l := own_move h fun k hk => hb.block k (own_lt h k hk)
theorem infoRn : (Try.prog.info? 85).map (fun i => (i.zero, i.size, i.bytes)) = some (some (.agg #[.int .i64 0, .string ⟨#[]⟩, .int .i64 0]), 3, 32) := by kernel_rfl
theorem cells3_new (W : World) (a b c : Value) (T : TypeId) : ∀ (j : Nat) (u : Value), [a, b, c][j]? = some u → (W.alloc (.cells #[a, b, c] T)).cell? ((⟨W.heap.size, 0, none⟩ : Addr).add j) = some u := by
 intro j u h
 have e : ((⟨W.heap.size, 0, none⟩ : Addr).add j) = ⟨W.heap.size, j, none⟩ := by simp [Addr.add]; exact fun h => h.symm
 rw [e, cell_of_row _ _ j _ _ _ (Own.heap_new W (.cells #[a, b, c] T))]
 simpa using h
structure Grew (W w' : World) (B : Nat) (v v' : Value) (xs : List Rn) (r : Rn) : Prop where
 own : RO w' B v' (xs ++ [r])
 grown : W.grownBy w' v.ownBlock
 at_ : v'.ownBlock = v.ownBlock ∨ ∃ b, v'.ownBlock = some b ∧ W.heap.size ≤ b
 form : ∃ g cap, v' = .slice (some ⟨g, 0, none⟩) (xs.length + 1) cap
theorem exec_run {P : Program} (hP : P = Try.prog) {W : World} {f : Operand → Value} {o : Oper} {s x : Operand} (hop : o.op = Op.call { callee := Callee.builtin Builtin.append, args := #[s, x], argTypes := #[41, 41] })
  {B : Nat} (hB : B ≤ W.heap.size) {v : Value} {xs : List Rn} (hs : f s = v) (hx : RO W B v xs) (r : Rn)
  (he : f x = .slice (some ⟨W.heap.size, 0, none⟩) 1 1) (hl : xs.length + 1 ≤ 4398046511104) :
  ∃ v' w', (execOp f o).run P (W.alloc (.cells #[.int .i64 r.f0, .string r.f1, .int .i64 r.f2] 85)) = .ok (.value v') w' ∧ Grew W w' B v v' xs r := by
 subst hP
 obtain ⟨i0, hi0, hz0, hz1, hz2⟩ := info_parts infoRn
 obtain ⟨tmp, ht⟩ : ∃ tmp : Obj, tmp = .cells #[.int .i64 r.f0, .string r.f1, .int .i64 r.f2] 85 := ⟨_, rfl⟩
 have hxa := hx.alloc tmp
 have hnew := cells3_new W (.int .i64 r.f0) (.string r.f1) (.int .i64 r.f2) 85
 rw [← ht] at hnew ⊢
 obtain ⟨v', w', hrun, h1, h2, h3, h4⟩ := run_append_own_at (P := Try.prog) (w := W.alloc tmp) B 41 o.type 85 i0 _ 3 32 Try.underlying41 hi0 hz0 hz1 hz2 rfl (by decide) v xs.length (rcells xs) hxa ⟨W.heap.size, 0, none⟩ 1 1 [.int .i64 r.f0, .string r.f1, .int .i64 r.f2] rfl hnew (by simp [Value.oneCell']) (by unfold maxLen; omega) (by omega) (by simp; omega)
 refine ⟨v', w', ?_, ⟨?_, ?_, ?_, ?_⟩⟩
 ·simp [execOp, hop, resolve, invoke, builtin, hs, he, hrun, Result.andThen]
 ·show w'.ownsRow B _ 3 v' (xs ++ [r]).length (rcells (xs ++ [r]))
  rw [List.length_append, rcells_snoc]; exact h1
 ·exact ⟨h2.os, h2.tape, h2.output, by have := h2.size; simp at this; omega, fun k hk hn => (h2.block k (by simp; omega) hn).trans (Own.heap_old W tmp k hk)⟩
 ·rcases h4 with h4 | h4
  ·exact .inl h4
  ·exact .inr ⟨_, h4, by simp⟩
 ·exact ownsRow_succ h1
theorem wpList_run {ops : Array Oper} {rest : List Oper} {o : Oper} {a : Act} {W : World} {Q : Exit → Act → World → Prop} {s x : Operand} (hg : o.guard = none)
  (hop : o.op = Op.call { callee := Callee.builtin Builtin.append, args := #[s, x], argTypes := #[41, 41] })
  {B : Nat} (hB : B ≤ W.heap.size) {v : Value} {xs : List Rn} (hs : a.eval s = v) (hx : RO W B v xs) (r : Rn) (he : a.eval x = .slice (some ⟨W.heap.size, 0, none⟩) 1 1) (hl : xs.length + 1 ≤ 4398046511104)
  (hK : ∀ v' w', Grew W w' B v v' xs r → wpList Try.prog ops Q rest (a.put o.dst v') w') :
  wpList Try.prog ops Q (o :: rest) a (W.alloc (.cells #[.int .i64 r.f0, .string r.f1, .int .i64 r.f2] 85)) := by
 obtain ⟨v', w', hrun, h⟩ := exec_run rfl (o := o) (f := a.eval) hop hB hs hx r he hl
 refine wpList_plain hg fun K hK' => ?_
 unfold Oper.wp
 rw [hrun]
 exact hK' _ _ (hK v' w' h)
end Go.Proofs.Ytedfcjcnhgomoaa.RowRn
end
-- MERGED YtedfcjcnhgomoaaDecB
section
namespace Go.Proofs.Ytedfcjcnhgomoaa.DecB
open Go.RowKit Go.Proofs.Ytedfcjcnhgomoaa.P Go.Proofs.YtedfcjcnhgomoaaW.PrintWords Go.Proofs.YtedfcjcnhgomoaaW.PrintLast Go.Proofs.YtedfcjcnhgomoaaW.PrintMore Go.Proofs.Ytedfcjcnhgomoaa.Own Go.Proofs.Ytedfcjcnhgomoaa.Vy Go.Proofs.Ytedfcjcnhgomoaa.VaryR Go.Proofs.Ytedfcjcnhgomoaa.NoteN Go.Proofs.Ytedfcjcnhgomoaa.MsgA Go.Proofs.Ytedfcjcnhgomoaa.DecA Go.Proofs.Ytedfcjcnhgomoaa.RowRn
attribute [local go_sem] max2_int min2_int max_two min_two
set_option linter.unusedSimpArgs false
set_option linter.unusedVariables false
def runsR (l : List Int) : Nat → At → List EditL.Rn → List EditL.Rn × At
 | 0, s, acc => (acc, s)
 | n + 1, s, acc => if (s.run l).2.bad = true then ([], (s.run l).2) else runsR l n (s.run l).2 (acc ++ [(s.run l).1])
def many (l : List Int) (s : At) : Nat := (let c := (s.num l).1; let d := (1 : Int) + (leftL l (s.num l).2.a (s.num l).2.bad : Nat); if d < c then d else c).toNat
def runsP (l : List Int) (s : At) : List EditL.Rn × At := runsR l (many l s) (s.num l).2 []
theorem sl_far {w w' : World} {v : Value} {xs : List Int} (h : Sl w v xs) (hs : ∀ A n c, v = .slice A n c → ∀ ad, A = some ad → 0 < xs.length → w'.heap[ad.block]? = w.heap[ad.block]?) : Sl w' v xs := by
 obtain ⟨A, c, rfl, hc, h1, h2, h3⟩ := h
 refine ⟨A, c, rfl, hc, h1, h2, fun hp => ?_⟩
 obtain ⟨ad, e, hr⟩ := h3 hp
 refine ⟨ad, e, fun j p hj => ?_⟩
 obtain ⟨cs, k1, k2, k3⟩ := hr j p hj
 refine ⟨cs, k1, k2, fun i u hu => ?_⟩
 refine (World.cell?_of_block ?_).trans (k3 i u hu)
 have hb : ∀ m, (ad.add m).block = ad.block := fun m => by unfold Addr.add; split <;> rfl
 rw [hb]
 exact hs A _ c rfl ad e hp
theorem rd_far {g : Nat} {w w' : World} {v : Value} {l : List Int} {a : Nat} {bad : Bool} (h : Rd g w v l a bad) (hg : w'.heap[g]? = w.heap[g]?) (hs : ∀ A n c, v = .slice A n c → ∀ ad, A = some ad → 0 < l.length → w'.heap[ad.block]? = w.heap[ad.block]?) : Rd g w' v l a bad := by
 obtain ⟨a', h1, h2⟩ := h
 exact ⟨a', ⟨hg.trans h1.heap, sl_far h1.sl hs, h1.le, h1.len⟩, h2⟩
theorem rd_lt {g : Nat} {w : World} {v : Value} {l : List Int} {a : Nat} {bad : Bool} (h : Rd g w v l a bad) : ∀ A n c, v = .slice A n c → ∀ ad, A = some ad → 0 < l.length → ad.block < w.heap.size := by
 intro A n c hv ad hA hp
 obtain ⟨a', h1, _⟩ := h
 obtain ⟨A2, c2, e2, _, _, _, h3⟩ := h1.sl
 rw [hv] at e2
 injection e2 with e2 _ _
 obtain ⟨ad2, e3, hr⟩ := h3 hp
 rw [← e2, hA] at e3
 obtain rfl := Option.some.inj e3
 obtain ⟨cs, k1, ⟨rfl⟩, k3⟩ := hr 0 _ (List.getElem?_eq_getElem hp)
 have := World.block_lt_of_cell? w _ (k3 0 _ rfl)
 rwa [show (ad.add (0 * (Kd.int .u8).sz + 0)).block = ad.block by unfold Addr.add; split <;> rfl] at this
theorem but_grew {g : Nat} {w W W' : World} {u : Value} (hb : But g w W) (hg : W.grownBy W' u.ownBlock) (hu : ∀ k, u.ownBlock = some k → w.heap.size ≤ k) : But g w W' :=
 ⟨hg.os.trans hb.os, hg.tape.trans hb.tape, hg.output.trans hb.output, Nat.le_trans hb.size hg.size, fun k hk hn => (hg.block k (Nat.lt_of_lt_of_le hk hb.size) (fun e => by have := hu k e.symm; omega)).trans (hb.block k hk hn)⟩
theorem rd_grew {g : Nat} {w W W' : World} {u v : Value} {l : List Int} {a : Nat} {bad : Bool} (h : Rd g W v l a bad) (hgl : g < w.heap.size) (hs : w.heap.size ≤ W.heap.size) (hl : ∀ A n c, v = .slice A n c → ∀ ad, A = some ad → 0 < l.length → ad.block < w.heap.size) (hg : W.grownBy W' u.ownBlock) (hu : ∀ k, u.ownBlock = some k → w.heap.size ≤ k) : Rd g W' v l a bad :=
 rd_far h (hg.block g (by omega) (fun e => by have := hu g e.symm; omega)) (fun A n c hv ad hA hp => hg.block ad.block (by have := hl A n c hv ad hA hp; omega) (fun e => by have := hu _ e.symm; have := hl A n c hv ad hA hp; omega))
def RunsPost (g : Nat) (v : Value) (l : List Int) (s : At) (w : World) (e : Ending) (w' : World) : Prop :=
 ∃ u, e = .returned u ∧ RowRn.RO w' w.heap.size u (runsP l s).1 ∧ Rd g w' v l (runsP l s).2.a (runsP l s).2.bad ∧ But g w w'
set_option maxHeartbeats 16000000 in
set_option maxRecDepth 100000 in
theorem list_c (g X : Nat) (w : World) (v : Value) (l : List Int) (s : At) (h : Rd g w v l s.a s.bad) (hok : Byt.Ok l) (hl : l.length ≤ 1000000) (hX : w.heap[X]? = some (.cells #[.pointer (some ⟨g, 0, none⟩)] 73 (0, 0))) (hne : X ≠ g) :
  Calls Try.prog 100 #[.pointer (some ⟨g, 0, none⟩), .func (.func 101) #[] #[.pointer (some ⟨X, 0, none⟩)]] w (RunsPost g v l s w) := by
 have HX := Aside0.mk hX
 have HNE := Aside0.mk hne
 have HOK := Aside0.mk hok
 have HL := Aside0.mk hl
 have HN := Aside0.mk (num_a g v l hok s w h)
 have HGL := Aside0.mk (show g < w.heap.size by
  obtain ⟨a', h1, _⟩ := h
  exact (Array.getElem?_eq_some_iff.1 h1.heap).1)
 have HRL := Aside0.mk (rd_lt h)
 clear hX hne hok hl h
 go_enter Try.func100, Try.ntmps100
 go_wp2_with fail
 refine HN.out.mono ?_
 rintro e w1 ⟨rfl, hrd, hb⟩
 have HRD1 := Aside0.mk hrd
 have HB1 := Aside0.mk hb
 have HLF := Aside0.mk (VaryR.nLeft g w1 v l (s.num l).2.a (s.num l).2.bad hrd)
 clear hrd hb HN
 go_wp2_with fail
 refine HLF.out.mono ?_
 rintro e w2 ⟨rfl, d, rfl⟩
 have HB2 := Aside0.mk (HB1.out.trans (But.drewN g w1 d))
 have HRD2 := Aside0.mk (HRD1.out.below (pw_below_drewN (Below.refl _ _) d))
 obtain ⟨M, hM⟩ : ∃ M, M = (s.num l).1 := ⟨_, rfl⟩
 obtain ⟨K, hK⟩ : ∃ K, K = leftL l (s.num l).2.a (s.num l).2.bad := ⟨_, rfl⟩
 have hKl : K ≤ l.length := by rw [hK]; unfold leftL; split <;> omega
 have hM0 : 0 ≤ M := by
  rw [hM]
  show 0 ≤ stepV 0 s.bad _ _
  unfold stepV
  split
  ·omega
  ·exact (numL_nonneg (fun x hx => HOK.out x (List.mem_of_mem_drop hx))).1
 have HM1 := Aside0.mk (show many l s = (if (1 : Int) + (K : Int) < M then (1 : Int) + (K : Int) else M).toNat by unfold many; rw [← hM, ← hK])
 rw [← hM, ← hK]
 clear hM hK
 have HW := Aside0.mk (show wrap64 ((1 : Int) + (K : Int)) = (1 : Int) + (K : Int) by have := HL.out; unfold wrap64; omega)
 go_wp2_with fail
 case inr =>
  rw [HW.out] at h
  obtain ⟨c, hc⟩ : ∃ c : Nat, c = M.toNat := ⟨_, rfl⟩
  have HMANY := Aside0.mk (show many l s = c by rw [HM1.out]; split <;> omega)
  have HCL := Aside0.mk (show c ≤ 1000001 by have := HL.out; omega)
  have HCC := Aside0.mk (show M = (c : Int) by omega)
  clear hc
  rw [HCC.out]
  have HMC := Aside0.mk (show runsR l c (s.num l).2 [] = runsP l s by unfold runsP; rw [← HMANY.out])
  clear h
  go_loopw [4, 14] (fun tv iv wr => ∃ (j : Nat) (acc : List EditL.Rn) (s2 : At), j ≤ c ∧ iv = .int .i64 (j : Int) ∧ RowRn.RO wr w.heap.size tv acc ∧ Rd g wr v l s2.a s2.bad ∧ But g w wr ∧ runsR l (c - j) s2 acc = runsP l s ∧ acc.length = j) (fun _ iv _ => c - (intOf iv).toNat)
  case atStart => exact ⟨0, [], (s.num l).2, Nat.zero_le _, rfl, World.ownsRow_nil _ _ _ _, HRD2.out, HB2.out, HMC.out, rfl⟩
  case round =>
   obtain ⟨j, acc, s2, hj, rfl, hro, hrd, hbu, hrec, hacc⟩ := hrel
   have HRO := Aside0.mk hro
   have HRD := Aside0.mk hrd
   have HBU := Aside0.mk hbu
   have HREC := Aside0.mk hrec
   have HACC := Aside0.mk hacc
   clear hro hrd hbu hrec hacc
   by_cases hlt : j < c
   ·have hlt' : (j : Int) < (c : Int) := by omega
    have hj6 : j < 1000002 := by have := HCL.out; omega
    have HRC := Aside0.mk (run_c g X wr v l s2 HRD.out HOK.out ((HBU.out.block X (Array.getElem?_eq_some_iff.1 HX.out).1 (fun e => HNE.out (Option.some.inj e))).trans HX.out) HNE.out)
    have HST := Aside0.mk (show (if (s2.run l).2.bad = true then ([], (s2.run l).2) else runsR l (c - (j + 1)) (s2.run l).2 (acc ++ [(s2.run l).1])) = runsP l s by
     rw [← HREC.out, show c - j = (c - (j + 1)) + 1 by omega]; rfl)
    obtain ⟨r, hr⟩ : ∃ r, r = (s2.run l).1 := ⟨_, rfl⟩
    obtain ⟨s3, hs3⟩ : ∃ s3, s3 = (s2.run l).2 := ⟨_, rfl⟩
    unfold RunPost at HRC
    rw [← hr, ← hs3] at HRC HST
    clear hr hs3
    go_wp2_with fail
    refine HRC.out.mono ?_
    rintro e w3 ⟨rfl, hrd3, hb3⟩
    have HRO3 := Aside0.mk (show RowRn.RO w3 w.heap.size _ acc from own_move HRO.out (fun k hk => hb3.block k (own_lt HRO.out k hk) (fun e => by have h1 := own_base HRO.out k hk; have h2 := HGL.out; have := Option.some.inj e; omega)))
    obtain ⟨g2, hg2⟩ : ∃ g2, g2 = w3.heap.size := ⟨_, rfl⟩
    obtain ⟨w4, hw4⟩ : ∃ w4, w4 = w3.alloc (.cells #[.int .i64 0, .string ⟨#[]⟩, .int .i64 0] 85) := ⟨_, rfl⟩
    obtain ⟨w5, hw5⟩ : ∃ w5, w5 = ((w4.setCell ⟨g2, 0, none⟩ (.int .i64 r.f0)).setCell ⟨g2, 1, none⟩ (.string r.f1)).setCell ⟨g2, 2, none⟩ (.int .i64 r.f2) := ⟨_, rfl⟩
    have HT4 := Aside0.mk (show w4.heap[g2]? = some (.cells #[.int .i64 0, .string ⟨#[]⟩, .int .i64 0] 85 (0, 0)) by rw [hw4, hg2]; exact Own.heap_new _ _)
    have HB5 := Aside0.mk (show Below w3.heap.size w3 w5 by rw [hw5]; exact below_set3 (by rw [hw4]; exact below_alloc (Below.refl _ _) _) (by omega) _ _ _)
    have HT5 := Aside0.mk (show w5.heap[g2]? = some (.cells #[.int .i64 r.f0, .string r.f1, .int .i64 r.f2] 85 (0, 0)) by rw [hw5]; exact set3 HT4.out _ _ _)
    have HRD5 := Aside0.mk (hrd3.below HB5.out)
    have HRO5 := Aside0.mk (HRO3.out.below HB5.out)
    have HBU5 := Aside0.mk ((HBU.out.trans hb3).trans (grown_of_below HB5.out (some g)))
    have HW4 := Aside0.mk hw4
    have HW5 := Aside0.mk hw5
    have HG2 := Aside0.mk hg2
    have a0 : w4.cell? ⟨g2, 0, none⟩ = some (.int .i64 0) := by rw [cell_of_row _ _ 0 _ _ _ HT4.out]; rfl
    have a1 : w4.cell? ⟨g2, 1, none⟩ = some (.string ⟨#[]⟩) := by rw [cell_of_row _ _ 1 _ _ _ HT4.out]; rfl
    have a2 : w4.cell? ⟨g2, 2, none⟩ = some (.int .i64 0) := by rw [cell_of_row _ _ 2 _ _ _ HT4.out]; rfl
    have b0 := frozen_of_row _ _ 0 _ _ HT4.out
    have b1 := frozen_of_row _ _ 1 _ _ HT4.out
    have b2 := frozen_of_row _ _ 2 _ _ HT4.out
    have HBD := Aside0.mk (VaryR.nBad g w5 v l s3.a s3.bad HRD5.out)
    have HLT := Aside0.mk hlt
    clear hrd3 hb3 hw4 hw5 hg2 HRC hlt
    go_wp2_with (first | rw [← HG2.out, ← HW4.out] | rw [← HW5.out])
    refine HBD.out.mono ?_
    rintro e w6 ⟨rfl, rfl⟩
    cases hbad : s3.bad with
    | true =>
     rw [hbad] at HST
     have HE := Aside0.mk HST.out
     go_wp2_with fail
     go_ret
     refine ⟨_, rfl, ?_, ?_, HBU5.out⟩
     ·rw [← HE.out]; exact World.ownsRow_nil _ _ _ _
     ·rw [← HE.out]; exact HRD5.out
    | false =>
     rw [hbad] at HST
     have t0 : w6.cell? ⟨g2, 0, none⟩ = some (.int .i64 r.f0) := by rw [cell_of_row _ _ 0 _ _ _ HT5.out]; rfl
     have t1 : w6.cell? ⟨g2, 1, none⟩ = some (.string r.f1) := by rw [cell_of_row _ _ 1 _ _ _ HT5.out]; rfl
     have t2 : w6.cell? ⟨g2, 2, none⟩ = some (.int .i64 r.f2) := by rw [cell_of_row _ _ 2 _ _ _ HT5.out]; rfl
     have HWB := Aside0.mk HBU5.out.size
     clear a0 a1 a2 b0 b1 b2
     go_wp2_with (at_builtin; refine RowRn.wpList_run (by rfl) (by rfl) HWB.out (by rfl) HRO5.out r (by rfl) (by have := HACC.out; omega) ?_; intro v' w8 hg8)
     have HU := Aside0.mk (fun k e => own_base HRO5.out k e)
     refine ⟨⟨j + 1, acc ++ [r], s3, HLT.out, rfl, hg8.own, rd_grew HRD5.out HGL.out HWB.out HRL.out hg8.grown HU.out, but_grew HBU5.out hg8.grown HU.out, by simpa using HST.out, by simp [HACC.out]⟩, ?_⟩
     show c - ((j : Int) + 1).toNat < c - ((j : Int)).toNat
     have := HLT.out
     omega
   ·obtain rfl : j = c := by omega
    have hlt' : ¬ ((j : Int) < (j : Int)) := by omega
    have HE := Aside0.mk (show (acc, s2) = runsP l s by have h := HREC.out; rw [Nat.sub_self] at h; exact h)
    go_wp2_with fail
    go_ret
    refine ⟨_, rfl, ?_, ?_, HBU.out⟩
    ·rw [← HE.out]; exact HRO.out
    ·rw [← HE.out]; exact HRD.out
 case inl =>
  rw [HW.out] at h ⊢
  obtain ⟨c, hc⟩ : ∃ c : Nat, c = 1 + K := ⟨_, rfl⟩
  have HMANY := Aside0.mk (show many l s = c by rw [HM1.out]; split <;> omega)
  have HCL := Aside0.mk (show c ≤ 1000001 by have := HL.out; omega)
  have HCC := Aside0.mk (show (1 : Int) + (K : Int) = (c : Int) by omega)
  clear hc
  rw [HCC.out]
  have HMC := Aside0.mk (show runsR l c (s.num l).2 [] = runsP l s by unfold runsP; rw [← HMANY.out])
  clear h
  go_loopw [4, 14] (fun tv iv wr => ∃ (j : Nat) (acc : List EditL.Rn) (s2 : At), j ≤ c ∧ iv = .int .i64 (j : Int) ∧ RowRn.RO wr w.heap.size tv acc ∧ Rd g wr v l s2.a s2.bad ∧ But g w wr ∧ runsR l (c - j) s2 acc = runsP l s ∧ acc.length = j) (fun _ iv _ => c - (intOf iv).toNat)
  case atStart => exact ⟨0, [], (s.num l).2, Nat.zero_le _, rfl, World.ownsRow_nil _ _ _ _, HRD2.out, HB2.out, HMC.out, rfl⟩
  case round =>
   obtain ⟨j, acc, s2, hj, rfl, hro, hrd, hbu, hrec, hacc⟩ := hrel
   have HRO := Aside0.mk hro
   have HRD := Aside0.mk hrd
   have HBU := Aside0.mk hbu
   have HREC := Aside0.mk hrec
   have HACC := Aside0.mk hacc
   clear hro hrd hbu hrec hacc
   by_cases hlt : j < c
   ·have hlt' : (j : Int) < (c : Int) := by omega
    have hj6 : j < 1000002 := by have := HCL.out; omega
    have HRC := Aside0.mk (run_c g X wr v l s2 HRD.out HOK.out ((HBU.out.block X (Array.getElem?_eq_some_iff.1 HX.out).1 (fun e => HNE.out (Option.some.inj e))).trans HX.out) HNE.out)
    have HST := Aside0.mk (show (if (s2.run l).2.bad = true then ([], (s2.run l).2) else runsR l (c - (j + 1)) (s2.run l).2 (acc ++ [(s2.run l).1])) = runsP l s by
     rw [← HREC.out, show c - j = (c - (j + 1)) + 1 by omega]; rfl)
    obtain ⟨r, hr⟩ : ∃ r, r = (s2.run l).1 := ⟨_, rfl⟩
    obtain ⟨s3, hs3⟩ : ∃ s3, s3 = (s2.run l).2 := ⟨_, rfl⟩
    unfold RunPost at HRC
    rw [← hr, ← hs3] at HRC HST
    clear hr hs3
    go_wp2_with fail
    refine HRC.out.mono ?_
    rintro e w3 ⟨rfl, hrd3, hb3⟩
    have HRO3 := Aside0.mk (show RowRn.RO w3 w.heap.size _ acc from own_move HRO.out (fun k hk => hb3.block k (own_lt HRO.out k hk) (fun e => by have h1 := own_base HRO.out k hk; have h2 := HGL.out; have := Option.some.inj e; omega)))
    obtain ⟨g2, hg2⟩ : ∃ g2, g2 = w3.heap.size := ⟨_, rfl⟩
    obtain ⟨w4, hw4⟩ : ∃ w4, w4 = w3.alloc (.cells #[.int .i64 0, .string ⟨#[]⟩, .int .i64 0] 85) := ⟨_, rfl⟩
    obtain ⟨w5, hw5⟩ : ∃ w5, w5 = ((w4.setCell ⟨g2, 0, none⟩ (.int .i64 r.f0)).setCell ⟨g2, 1, none⟩ (.string r.f1)).setCell ⟨g2, 2, none⟩ (.int .i64 r.f2) := ⟨_, rfl⟩
    have HT4 := Aside0.mk (show w4.heap[g2]? = some (.cells #[.int .i64 0, .string ⟨#[]⟩, .int .i64 0] 85 (0, 0)) by rw [hw4, hg2]; exact Own.heap_new _ _)
    have HB5 := Aside0.mk (show Below w3.heap.size w3 w5 by rw [hw5]; exact below_set3 (by rw [hw4]; exact below_alloc (Below.refl _ _) _) (by omega) _ _ _)
    have HT5 := Aside0.mk (show w5.heap[g2]? = some (.cells #[.int .i64 r.f0, .string r.f1, .int .i64 r.f2] 85 (0, 0)) by rw [hw5]; exact set3 HT4.out _ _ _)
    have HRD5 := Aside0.mk (hrd3.below HB5.out)
    have HRO5 := Aside0.mk (HRO3.out.below HB5.out)
    have HBU5 := Aside0.mk ((HBU.out.trans hb3).trans (grown_of_below HB5.out (some g)))
    have HW4 := Aside0.mk hw4
    have HW5 := Aside0.mk hw5
    have HG2 := Aside0.mk hg2
    have a0 : w4.cell? ⟨g2, 0, none⟩ = some (.int .i64 0) := by rw [cell_of_row _ _ 0 _ _ _ HT4.out]; rfl
    have a1 : w4.cell? ⟨g2, 1, none⟩ = some (.string ⟨#[]⟩) := by rw [cell_of_row _ _ 1 _ _ _ HT4.out]; rfl
    have a2 : w4.cell? ⟨g2, 2, none⟩ = some (.int .i64 0) := by rw [cell_of_row _ _ 2 _ _ _ HT4.out]; rfl
    have b0 := frozen_of_row _ _ 0 _ _ HT4.out
    have b1 := frozen_of_row _ _ 1 _ _ HT4.out
    have b2 := frozen_of_row _ _ 2 _ _ HT4.out
    have HBD := Aside0.mk (VaryR.nBad g w5 v l s3.a s3.bad HRD5.out)
    have HLT := Aside0.mk hlt
    clear hrd3 hb3 hw4 hw5 hg2 HRC hlt
    go_wp2_with (first | rw [← HG2.out, ← HW4.out] | rw [← HW5.out])
    refine HBD.out.mono ?_
    rintro e w6 ⟨rfl, rfl⟩
    cases hbad : s3.bad with
    | true =>
     rw [hbad] at HST
     have HE := Aside0.mk HST.out
     go_wp2_with fail
     go_ret
     refine ⟨_, rfl, ?_, ?_, HBU5.out⟩
     ·rw [← HE.out]; exact World.ownsRow_nil _ _ _ _
     ·rw [← HE.out]; exact HRD5.out
    | false =>
     rw [hbad] at HST
     have t0 : w6.cell? ⟨g2, 0, none⟩ = some (.int .i64 r.f0) := by rw [cell_of_row _ _ 0 _ _ _ HT5.out]; rfl
     have t1 : w6.cell? ⟨g2, 1, none⟩ = some (.string r.f1) := by rw [cell_of_row _ _ 1 _ _ _ HT5.out]; rfl
     have t2 : w6.cell? ⟨g2, 2, none⟩ = some (.int .i64 r.f2) := by rw [cell_of_row _ _ 2 _ _ _ HT5.out]; rfl
     have HWB := Aside0.mk HBU5.out.size
     clear a0 a1 a2 b0 b1 b2
     go_wp2_with (at_builtin; refine RowRn.wpList_run (by rfl) (by rfl) HWB.out (by rfl) HRO5.out r (by rfl) (by have := HACC.out; omega) ?_; intro v' w8 hg8)
     have HU := Aside0.mk (fun k e => own_base HRO5.out k e)
     refine ⟨⟨j + 1, acc ++ [r], s3, HLT.out, rfl, hg8.own, rd_grew HRD5.out HGL.out HWB.out HRL.out hg8.grown HU.out, but_grew HBU5.out hg8.grown HU.out, by simpa using HST.out, by simp [HACC.out]⟩, ?_⟩
     show c - ((j : Int) + 1).toNat < c - ((j : Int)).toNat
     have := HLT.out
     omega
   ·obtain rfl : j = c := by omega
    have hlt' : ¬ ((j : Int) < (j : Int)) := by omega
    have HE := Aside0.mk (show (acc, s2) = runsP l s by have h := HREC.out; rw [Nat.sub_self] at h; exact h)
    go_wp2_with fail
    go_ret
    refine ⟨_, rfl, ?_, ?_, HBU.out⟩
    ·rw [← HE.out]; exact HRO.out
    ·rw [← HE.out]; exact HRD.out
end Go.Proofs.Ytedfcjcnhgomoaa.DecB
end
-- MERGED YtedfcjcnhgomoaaRowNt
section
namespace Go.Proofs.Ytedfcjcnhgomoaa.RowNt
open Go.RowKit Go.Proofs.Ytedfcjcnhgomoaa.P Go.Proofs.YtedfcjcnhgomoaaW.PrintWords Go.Proofs.YtedfcjcnhgomoaaW.PrintLast Go.Proofs.YtedfcjcnhgomoaaW.PrintMore Go.Proofs.Ytedfcjcnhgomoaa.Own Go.Proofs.Ytedfcjcnhgomoaa.NoteN
set_option linter.unusedSimpArgs false
set_option linter.unusedVariables false
abbrev NO (w : World) (B : Nat) (v : Value) (l : List Nt) : Prop := w.ownsRow B 104 3 v l.length (ncells l)
theorem ncells_snoc (l : List Nt) (r : Nt) : ncells (l ++ [r]) = ncells l ++ [.int .i64 r.f0.f0, .int .i64 r.f0.f1, .int .i64 r.f1] := by simp [ncells]
theorem NO.below {w w' : World} {B : Nat} {v : Value} {l : List Nt} (h : NO w B v l) (hb : Below w.heap.size w w') : NO w' B v l := own_move h fun k hk => hb.block k (own_lt h k hk)
theorem infoNt : (Try.prog.info? 104).map (fun i => (i.zero, i.size, i.bytes)) = some (some (.agg #[.int .i64 0, .int .i64 0, .int .i64 0]), 3, 24) := by kernel_rfl
structure Grew (W w' : World) (B : Nat) (v v' : Value) (xs : List Nt) (r : Nt) : Prop where
 own : NO w' B v' (xs ++ [r])
 grown : W.grownBy w' v.ownBlock
 at_ : v'.ownBlock = v.ownBlock ∨ ∃ b, v'.ownBlock = some b ∧ W.heap.size ≤ b
 form : ∃ g cap, v' = .slice (some ⟨g, 0, none⟩) (xs.length + 1) cap
theorem exec_note {P : Program} (hP : P = Try.prog) {W : World} {f : Operand → Value} {o : Oper} {s x : Operand} (hop : o.op = Op.call { callee := Callee.builtin Builtin.append, args := #[s, x], argTypes := #[42, 42] })
  {B : Nat} (hB : B ≤ W.heap.size) {v : Value} {xs : List Nt} (hs : f s = v) (hx : NO W B v xs) (r : Nt)
  (he : f x = .slice (some ⟨W.heap.size, 0, none⟩) 1 1) (hl : xs.length + 1 ≤ 4398046511104) :
  ∃ v' w', (execOp f o).run P (W.alloc (.cells #[.int .i64 r.f0.f0, .int .i64 r.f0.f1, .int .i64 r.f1] 104)) = .ok (.value v') w' ∧ Grew W w' B v v' xs r := by
 subst hP
 obtain ⟨i0, hi0, hz0, hz1, hz2⟩ := info_parts infoNt
 obtain ⟨tmp, ht⟩ : ∃ tmp : Obj, tmp = .cells #[.int .i64 r.f0.f0, .int .i64 r.f0.f1, .int .i64 r.f1] 104 := ⟨_, rfl⟩
 have hxa := hx.alloc tmp
 have hnew := RowRn.cells3_new W (.int .i64 r.f0.f0) (.int .i64 r.f0.f1) (.int .i64 r.f1) 104
 rw [← ht] at hnew ⊢
 obtain ⟨v', w', hrun, h1, h2, h3, h4⟩ := run_append_own_at (P := Try.prog) (w := W.alloc tmp) B 42 o.type 104 i0 _ 3 24 Try.underlying42 hi0 hz0 hz1 hz2 rfl (by decide) v xs.length (ncells xs) hxa ⟨W.heap.size, 0, none⟩ 1 1 [.int .i64 r.f0.f0, .int .i64 r.f0.f1, .int .i64 r.f1] rfl hnew (by simp [Value.oneCell']) (by unfold maxLen; omega) (by omega) (by simp; omega)
 refine ⟨v', w', ?_, ⟨?_, ?_, ?_, ?_⟩⟩
 ·simp [execOp, hop, resolve, invoke, builtin, hs, he, hrun, Result.andThen]
 ·show w'.ownsRow B _ 3 v' (xs ++ [r]).length (ncells (xs ++ [r]))
  rw [List.length_append, ncells_snoc]; exact h1
 ·exact ⟨h2.os, h2.tape, h2.output, by have := h2.size; simp at this; omega, fun k hk hn => (h2.block k (by simp; omega) hn).trans (Own.heap_old W tmp k hk)⟩
 ·rcases h4 with h4 | h4
  ·exact .inl h4
  ·exact .inr ⟨_, h4, by simp⟩
 ·exact ownsRow_succ h1
theorem wpList_note {ops : Array Oper} {rest : List Oper} {o : Oper} {a : Act} {W : World} {Q : Exit → Act → World → Prop} {s x : Operand} (hg : o.guard = none)
  (hop : o.op = Op.call { callee := Callee.builtin Builtin.append, args := #[s, x], argTypes := #[42, 42] })
  {B : Nat} (hB : B ≤ W.heap.size) {v : Value} {xs : List Nt} (hs : a.eval s = v) (hx : NO W B v xs) (r : Nt) (he : a.eval x = .slice (some ⟨W.heap.size, 0, none⟩) 1 1) (hl : xs.length + 1 ≤ 4398046511104)
  (hK : ∀ v' w', Grew W w' B v v' xs r → wpList Try.prog ops Q rest (a.put o.dst v') w') :
  wpList Try.prog ops Q (o :: rest) a (W.alloc (.cells #[.int .i64 r.f0.f0, .int .i64 r.f0.f1, .int .i64 r.f1] 104)) := by
 obtain ⟨v', w', hrun, h⟩ := exec_note rfl (o := o) (f := a.eval) hop hB hs hx r he hl
 refine wpList_plain hg fun K hK' => ?_
 unfold Oper.wp
 rw [hrun]
 exact hK' _ _ (hK v' w' h)
end Go.Proofs.Ytedfcjcnhgomoaa.RowNt
end
-- MERGED YtedfcjcnhgomoaaDecC
section
namespace Go.Proofs.Ytedfcjcnhgomoaa.DecC
open Go.RowKit Go.Proofs.Ytedfcjcnhgomoaa.P Go.Proofs.YtedfcjcnhgomoaaW.PrintWords Go.Proofs.YtedfcjcnhgomoaaW.PrintLast Go.Proofs.YtedfcjcnhgomoaaW.PrintMore Go.Proofs.Ytedfcjcnhgomoaa.Own Go.Proofs.Ytedfcjcnhgomoaa.Vy Go.Proofs.Ytedfcjcnhgomoaa.VaryR Go.Proofs.Ytedfcjcnhgomoaa.NoteN Go.Proofs.Ytedfcjcnhgomoaa.MsgA Go.Proofs.Ytedfcjcnhgomoaa.DecA Go.Proofs.Ytedfcjcnhgomoaa.RowRn Go.Proofs.Ytedfcjcnhgomoaa.RowNt Go.Proofs.Ytedfcjcnhgomoaa.DecB
attribute [local go_sem] max2_int min2_int max_two min_two
set_option linter.unusedSimpArgs false
set_option linter.unusedVariables false
def notesR (l : List Int) : Nat → Int → At → List Nt → List Nt × At
 | 0, _, s, acc => (acc, s)
 | n + 1, q, s, acc => if (s.note l q).2.2.bad = true then ([], (s.note l q).2.2) else notesR l n (s.note l q).2.1 (s.note l q).2.2 (acc ++ [(s.note l q).1])
def notesP (l : List Int) (s : At) : List Nt × At := notesR l (many l s) 0 (s.num l).2 []
theorem but2_grew {g Y : Nat} {w W W' : World} {u : Value} (hb : But2 g Y w W) (hg : W.grownBy W' u.ownBlock) (hu : ∀ k, u.ownBlock = some k → w.heap.size ≤ k) : But2 g Y w W' :=
 ⟨hg.os.trans hb.os, hg.tape.trans hb.tape, hg.output.trans hb.output, Nat.le_trans hb.size hg.size, fun k hk hn hy => (hg.block k (Nat.lt_of_lt_of_le hk hb.size) (fun e => by have := hu k e.symm; omega)).trans (hb.block k hk hn hy)⟩
def NotesPost (g Y : Nat) (v : Value) (l : List Int) (s : At) (w : World) (e : Ending) (w' : World) : Prop :=
 ∃ u, e = .returned u ∧ NO w' w.heap.size u (notesP l s).1 ∧ Rd g w' v l (notesP l s).2.a (notesP l s).2.bad ∧ But2 g Y w w'
set_option maxHeartbeats 16000000 in
set_option maxRecDepth 100000 in
theorem listn_c (g X Y : Nat) (w : World) (v : Value) (l : List Int) (s : At) (h : Rd g w v l s.a s.bad) (hok : Byt.Ok l) (hl : l.length ≤ 1000000) (hX : w.heap[X]? = some (.cells #[.pointer (some ⟨g, 0, none⟩)] 73 (0, 0))) (hY : w.heap[Y]? = some (.cells #[.int .i64 0] 3 (0, 0))) (hne : X ≠ g) (hyg : Y ≠ g) (hxy : X ≠ Y) :
  Calls Try.prog 103 #[.pointer (some ⟨g, 0, none⟩), .func (.func 104) #[] #[.pointer (some ⟨X, 0, none⟩), .pointer (some ⟨Y, 0, none⟩)]] w (NotesPost g Y v l s w) := by
 have HX := Aside0.mk hX
 have HNE := Aside0.mk (And.intro hne (And.intro hyg hxy))
 have HY := Aside0.mk hY
 have HOK := Aside0.mk hok
 have HL := Aside0.mk hl
 have HN := Aside0.mk (num_a g v l hok s w h)
 have HGL := Aside0.mk (show g < w.heap.size by
  obtain ⟨a', h1, _⟩ := h
  exact (Array.getElem?_eq_some_iff.1 h1.heap).1)
 have HRL := Aside0.mk (rd_lt h)
 clear hX hY hne hyg hxy hok hl h
 go_enter Try.func103, Try.ntmps103
 go_wp2_with fail
 refine HN.out.mono ?_
 rintro e w1 ⟨rfl, hrd, hb⟩
 have HRD1 := Aside0.mk hrd
 have HB1 := Aside0.mk hb
 have HLF := Aside0.mk (VaryR.nLeft g w1 v l (s.num l).2.a (s.num l).2.bad hrd)
 clear hrd hb HN
 go_wp2_with fail
 refine HLF.out.mono ?_
 rintro e w2 ⟨rfl, d, rfl⟩
 have HB2 := Aside0.mk (But2.of (Y := Y) (HB1.out.trans (But.drewN g w1 d)))
 have HY2 := Aside0.mk (show (w1.drewN d).heap[Y]? = some (.cells #[.int .i64 0] 3 (0, 0)) from ((HB1.out.trans (But.drewN g w1 d)).block Y (Array.getElem?_eq_some_iff.1 HY.out).1 (fun e => HNE.out.2.1 (Option.some.inj e))).trans HY.out)
 have HRD2 := Aside0.mk (HRD1.out.below (pw_below_drewN (Below.refl _ _) d))
 obtain ⟨M, hM⟩ : ∃ M, M = (s.num l).1 := ⟨_, rfl⟩
 obtain ⟨K, hK⟩ : ∃ K, K = leftL l (s.num l).2.a (s.num l).2.bad := ⟨_, rfl⟩
 have hKl : K ≤ l.length := by rw [hK]; unfold leftL; split <;> omega
 have hM0 : 0 ≤ M := by
  rw [hM]
  show 0 ≤ stepV 0 s.bad _ _
  unfold stepV
  split
  ·omega
  ·exact (numL_nonneg (fun x hx => HOK.out x (List.mem_of_mem_drop hx))).1
 have HM1 := Aside0.mk (show many l s = (if (1 : Int) + (K : Int) < M then (1 : Int) + (K : Int) else M).toNat by unfold many; rw [← hM, ← hK])
 rw [← hM, ← hK]
 clear hM hK
 have HW := Aside0.mk (show wrap64 ((1 : Int) + (K : Int)) = (1 : Int) + (K : Int) by have := HL.out; unfold wrap64; omega)
 go_wp2_with fail
 case inr =>
  rw [HW.out] at h
  obtain ⟨c, hc⟩ : ∃ c : Nat, c = M.toNat := ⟨_, rfl⟩
  have HMANY := Aside0.mk (show many l s = c by rw [HM1.out]; split <;> omega)
  have HCL := Aside0.mk (show c ≤ 1000001 by have := HL.out; omega)
  have HCC := Aside0.mk (show M = (c : Int) by omega)
  clear hc
  rw [HCC.out]
  have HMC := Aside0.mk (show notesR l c 0 (s.num l).2 [] = notesP l s by unfold notesP; rw [← HMANY.out])
  clear h
  go_loopw [4, 14] (fun tv iv wr => ∃ (j : Nat) (acc : List Nt) (s2 : At) (q : Int), j ≤ c ∧ iv = .int .i64 (j : Int) ∧ NO wr w.heap.size tv acc ∧ Rd g wr v l s2.a s2.bad ∧ But2 g Y w wr ∧ wr.heap[Y]? = some (.cells #[.int .i64 q] 3 (0, 0)) ∧ notesR l (c - j) q s2 acc = notesP l s ∧ acc.length = j) (fun _ iv _ => c - (intOf iv).toNat)
  case atStart => exact ⟨0, [], (s.num l).2, 0, Nat.zero_le _, rfl, World.ownsRow_nil _ _ _ _, HRD2.out, HB2.out, HY2.out, HMC.out, rfl⟩
  case round =>
   obtain ⟨j, acc, s2, q, hj, rfl, hro, hrd, hbu, hyj, hrec, hacc⟩ := hrel
   have HYJ := Aside0.mk hyj
   have HRO := Aside0.mk hro
   have HRD := Aside0.mk hrd
   have HBU := Aside0.mk hbu
   have HREC := Aside0.mk hrec
   have HACC := Aside0.mk hacc
   clear hro hrd hbu hyj hrec hacc
   by_cases hlt : j < c
   ·have hlt' : (j : Int) < (c : Int) := by omega
    have hj6 : j < 1000002 := by have := HCL.out; omega
    have HRC := Aside0.mk (note_c g X Y wr v l q s2 HRD.out HOK.out ((HBU.out.block X (Array.getElem?_eq_some_iff.1 HX.out).1 HNE.out.1 HNE.out.2.2).trans HX.out) HYJ.out HNE.out.1 HNE.out.2.1 HNE.out.2.2)
    have HST := Aside0.mk (show (if (s2.note l q).2.2.bad = true then ([], (s2.note l q).2.2) else notesR l (c - (j + 1)) (s2.note l q).2.1 (s2.note l q).2.2 (acc ++ [(s2.note l q).1])) = notesP l s by
     rw [← HREC.out, show c - j = (c - (j + 1)) + 1 by omega]; rfl)
    obtain ⟨r, hr⟩ : ∃ r, r = (s2.note l q).1 := ⟨_, rfl⟩
    obtain ⟨s3, hs3⟩ : ∃ s3, s3 = (s2.note l q).2.2 := ⟨_, rfl⟩
    obtain ⟨q3, hq3⟩ : ∃ q3, q3 = (s2.note l q).2.1 := ⟨_, rfl⟩
    unfold NotePost at HRC
    rw [← hr, ← hs3, ← hq3] at HRC HST
    clear hr hs3 hq3
    go_wp2_with fail
    refine HRC.out.mono ?_
    rintro e w3 ⟨rfl, hrd3, hy3, hb3⟩
    have HYL := Aside0.mk (Array.getElem?_eq_some_iff.1 HY.out).1
    have HRO3 := Aside0.mk (show NO w3 w.heap.size _ acc from own_move HRO.out (fun k hk => hb3.block k (own_lt HRO.out k hk) (fun e => by have h1 := own_base HRO.out k hk; have h2 := HGL.out; omega) (fun e => by have h1 := own_base HRO.out k hk; have h2 := HYL.out; omega)))
    obtain ⟨g2, hg2⟩ : ∃ g2, g2 = w3.heap.size := ⟨_, rfl⟩
    obtain ⟨w4, hw4⟩ : ∃ w4, w4 = w3.alloc (.cells #[.int .i64 0, .int .i64 0, .int .i64 0] 104) := ⟨_, rfl⟩
    obtain ⟨w5, hw5⟩ : ∃ w5, w5 = ((w4.setCell ⟨g2, 0, none⟩ (.int .i64 r.f0.f0)).setCell ⟨g2, 1, none⟩ (.int .i64 r.f0.f1)).setCell ⟨g2, 2, none⟩ (.int .i64 r.f1) := ⟨_, rfl⟩
    have HT4 := Aside0.mk (show w4.heap[g2]? = some (.cells #[.int .i64 0, .int .i64 0, .int .i64 0] 104 (0, 0)) by rw [hw4, hg2]; exact Own.heap_new _ _)
    have HB5 := Aside0.mk (show Below w3.heap.size w3 w5 by rw [hw5]; exact below_set3 (by rw [hw4]; exact below_alloc (Below.refl _ _) _) (by omega) _ _ _)
    have HT5 := Aside0.mk (show w5.heap[g2]? = some (.cells #[.int .i64 r.f0.f0, .int .i64 r.f0.f1, .int .i64 r.f1] 104 (0, 0)) by rw [hw5]; exact set3 HT4.out _ _ _)
    have HRD5 := Aside0.mk (hrd3.below HB5.out)
    have HRO5 := Aside0.mk (HRO3.out.below HB5.out)
    have HBU5 := Aside0.mk ((HBU.out.trans hb3).trans (But2.of (grown_of_below HB5.out (some g))))
    have HY5 := Aside0.mk ((HB5.out.block Y (Array.getElem?_eq_some_iff.1 hy3).1).trans hy3)
    have HW4 := Aside0.mk hw4
    have HW5 := Aside0.mk hw5
    have HG2 := Aside0.mk hg2
    have a0 : w4.cell? ⟨g2, 0, none⟩ = some (.int .i64 0) := by rw [cell_of_row _ _ 0 _ _ _ HT4.out]; rfl
    have a1 : w4.cell? ⟨g2, 1, none⟩ = some (.int .i64 0) := by rw [cell_of_row _ _ 1 _ _ _ HT4.out]; rfl
    have a2 : w4.cell? ⟨g2, 2, none⟩ = some (.int .i64 0) := by rw [cell_of_row _ _ 2 _ _ _ HT4.out]; rfl
    have b0 := frozen_of_row _ _ 0 _ _ HT4.out
    have b1 := frozen_of_row _ _ 1 _ _ HT4.out
    have b2 := frozen_of_row _ _ 2 _ _ HT4.out
    have HBD := Aside0.mk (VaryR.nBad g w5 v l s3.a s3.bad HRD5.out)
    have HLT := Aside0.mk hlt
    clear hrd3 hb3 hy3 hw4 hw5 hg2 HRC hlt
    go_wp2_with (first | rw [← HG2.out, ← HW4.out] | rw [← HW5.out])
    refine HBD.out.mono ?_
    rintro e w6 ⟨rfl, rfl⟩
    cases hbad : s3.bad with
    | true =>
     rw [hbad] at HST
     have HE := Aside0.mk HST.out
     go_wp2_with fail
     go_ret
     refine ⟨_, rfl, ?_, ?_, HBU5.out⟩
     ·rw [← HE.out]; exact World.ownsRow_nil _ _ _ _
     ·rw [← HE.out]; exact HRD5.out
    | false =>
     rw [hbad] at HST
     have t0 : w6.cell? ⟨g2, 0, none⟩ = some (.int .i64 r.f0.f0) := by rw [cell_of_row _ _ 0 _ _ _ HT5.out]; rfl
     have t1 : w6.cell? ⟨g2, 1, none⟩ = some (.int .i64 r.f0.f1) := by rw [cell_of_row _ _ 1 _ _ _ HT5.out]; rfl
     have t2 : w6.cell? ⟨g2, 2, none⟩ = some (.int .i64 r.f1) := by rw [cell_of_row _ _ 2 _ _ _ HT5.out]; rfl
     have HWB := Aside0.mk HBU5.out.size
     clear a0 a1 a2 b0 b1 b2
     go_wp2_with (at_builtin; refine RowNt.wpList_note (by rfl) (by rfl) HWB.out (by rfl) HRO5.out r (by rfl) (by have := HACC.out; omega) ?_; intro v' w8 hg8)
     have HU := Aside0.mk (fun k e => own_base HRO5.out k e)
     refine ⟨⟨j + 1, acc ++ [r], s3, q3, HLT.out, rfl, hg8.own, rd_grew HRD5.out HGL.out HWB.out HRL.out hg8.grown HU.out, but2_grew HBU5.out hg8.grown HU.out, (hg8.grown.block Y (Array.getElem?_eq_some_iff.1 HY5.out).1 (fun e => by have h1 := HU.out Y e.symm; have h2 := HYL.out; omega)).trans HY5.out, by simpa using HST.out, by simp [HACC.out]⟩, ?_⟩
     show c - ((j : Int) + 1).toNat < c - ((j : Int)).toNat
     have := HLT.out
     omega
   ·obtain rfl : j = c := by omega
    have hlt' : ¬ ((j : Int) < (j : Int)) := by omega
    have HE := Aside0.mk (show (acc, s2) = notesP l s by have h := HREC.out; rw [Nat.sub_self] at h; exact h)
    go_wp2_with fail
    go_ret
    refine ⟨_, rfl, ?_, ?_, HBU.out⟩
    ·rw [← HE.out]; exact HRO.out
    ·rw [← HE.out]; exact HRD.out
 case inl =>
  rw [HW.out] at h ⊢
  obtain ⟨c, hc⟩ : ∃ c : Nat, c = 1 + K := ⟨_, rfl⟩
  have HMANY := Aside0.mk (show many l s = c by rw [HM1.out]; split <;> omega)
  have HCL := Aside0.mk (show c ≤ 1000001 by have := HL.out; omega)
  have HCC := Aside0.mk (show (1 : Int) + (K : Int) = (c : Int) by omega)
  clear hc
  rw [HCC.out]
  have HMC := Aside0.mk (show notesR l c 0 (s.num l).2 [] = notesP l s by unfold notesP; rw [← HMANY.out])
  clear h
  go_loopw [4, 14] (fun tv iv wr => ∃ (j : Nat) (acc : List Nt) (s2 : At) (q : Int), j ≤ c ∧ iv = .int .i64 (j : Int) ∧ NO wr w.heap.size tv acc ∧ Rd g wr v l s2.a s2.bad ∧ But2 g Y w wr ∧ wr.heap[Y]? = some (.cells #[.int .i64 q] 3 (0, 0)) ∧ notesR l (c - j) q s2 acc = notesP l s ∧ acc.length = j) (fun _ iv _ => c - (intOf iv).toNat)
  case atStart => exact ⟨0, [], (s.num l).2, 0, Nat.zero_le _, rfl, World.ownsRow_nil _ _ _ _, HRD2.out, HB2.out, HY2.out, HMC.out, rfl⟩
  case round =>
   obtain ⟨j, acc, s2, q, hj, rfl, hro, hrd, hbu, hyj, hrec, hacc⟩ := hrel
   have HYJ := Aside0.mk hyj
   have HRO := Aside0.mk hro
   have HRD := Aside0.mk hrd
   have HBU := Aside0.mk hbu
   have HREC := Aside0.mk hrec
   have HACC := Aside0.mk hacc
   clear hro hrd hbu hyj hrec hacc
   by_cases hlt : j < c
   ·have hlt' : (j : Int) < (c : Int) := by omega
    have hj6 : j < 1000002 := by have := HCL.out; omega
    have HRC := Aside0.mk (note_c g X Y wr v l q s2 HRD.out HOK.out ((HBU.out.block X (Array.getElem?_eq_some_iff.1 HX.out).1 HNE.out.1 HNE.out.2.2).trans HX.out) HYJ.out HNE.out.1 HNE.out.2.1 HNE.out.2.2)
    have HST := Aside0.mk (show (if (s2.note l q).2.2.bad = true then ([], (s2.note l q).2.2) else notesR l (c - (j + 1)) (s2.note l q).2.1 (s2.note l q).2.2 (acc ++ [(s2.note l q).1])) = notesP l s by
     rw [← HREC.out, show c - j = (c - (j + 1)) + 1 by omega]; rfl)
    obtain ⟨r, hr⟩ : ∃ r, r = (s2.note l q).1 := ⟨_, rfl⟩
    obtain ⟨s3, hs3⟩ : ∃ s3, s3 = (s2.note l q).2.2 := ⟨_, rfl⟩
    obtain ⟨q3, hq3⟩ : ∃ q3, q3 = (s2.note l q).2.1 := ⟨_, rfl⟩
    unfold NotePost at HRC
    rw [← hr, ← hs3, ← hq3] at HRC HST
    clear hr hs3 hq3
    go_wp2_with fail
    refine HRC.out.mono ?_
    rintro e w3 ⟨rfl, hrd3, hy3, hb3⟩
    have HYL := Aside0.mk (Array.getElem?_eq_some_iff.1 HY.out).1
    have HRO3 := Aside0.mk (show NO w3 w.heap.size _ acc from own_move HRO.out (fun k hk => hb3.block k (own_lt HRO.out k hk) (fun e => by have h1 := own_base HRO.out k hk; have h2 := HGL.out; omega) (fun e => by have h1 := own_base HRO.out k hk; have h2 := HYL.out; omega)))
    obtain ⟨g2, hg2⟩ : ∃ g2, g2 = w3.heap.size := ⟨_, rfl⟩
    obtain ⟨w4, hw4⟩ : ∃ w4, w4 = w3.alloc (.cells #[.int .i64 0, .int .i64 0, .int .i64 0] 104) := ⟨_, rfl⟩
    obtain ⟨w5, hw5⟩ : ∃ w5, w5 = ((w4.setCell ⟨g2, 0, none⟩ (.int .i64 r.f0.f0)).setCell ⟨g2, 1, none⟩ (.int .i64 r.f0.f1)).setCell ⟨g2, 2, none⟩ (.int .i64 r.f1) := ⟨_, rfl⟩
    have HT4 := Aside0.mk (show w4.heap[g2]? = some (.cells #[.int .i64 0, .int .i64 0, .int .i64 0] 104 (0, 0)) by rw [hw4, hg2]; exact Own.heap_new _ _)
    have HB5 := Aside0.mk (show Below w3.heap.size w3 w5 by rw [hw5]; exact below_set3 (by rw [hw4]; exact below_alloc (Below.refl _ _) _) (by omega) _ _ _)
    have HT5 := Aside0.mk (show w5.heap[g2]? = some (.cells #[.int .i64 r.f0.f0, .int .i64 r.f0.f1, .int .i64 r.f1] 104 (0, 0)) by rw [hw5]; exact set3 HT4.out _ _ _)
    have HRD5 := Aside0.mk (hrd3.below HB5.out)
    have HRO5 := Aside0.mk (HRO3.out.below HB5.out)
    have HBU5 := Aside0.mk ((HBU.out.trans hb3).trans (But2.of (grown_of_below HB5.out (some g))))
    have HY5 := Aside0.mk ((HB5.out.block Y (Array.getElem?_eq_some_iff.1 hy3).1).trans hy3)
    have HW4 := Aside0.mk hw4
    have HW5 := Aside0.mk hw5
    have HG2 := Aside0.mk hg2
    have a0 : w4.cell? ⟨g2, 0, none⟩ = some (.int .i64 0) := by rw [cell_of_row _ _ 0 _ _ _ HT4.out]; rfl
    have a1 : w4.cell? ⟨g2, 1, none⟩ = some (.int .i64 0) := by rw [cell_of_row _ _ 1 _ _ _ HT4.out]; rfl
    have a2 : w4.cell? ⟨g2, 2, none⟩ = some (.int .i64 0) := by rw [cell_of_row _ _ 2 _ _ _ HT4.out]; rfl
    have b0 := frozen_of_row _ _ 0 _ _ HT4.out
    have b1 := frozen_of_row _ _ 1 _ _ HT4.out
    have b2 := frozen_of_row _ _ 2 _ _ HT4.out
    have HBD := Aside0.mk (VaryR.nBad g w5 v l s3.a s3.bad HRD5.out)
    have HLT := Aside0.mk hlt
    clear hrd3 hb3 hy3 hw4 hw5 hg2 HRC hlt
    go_wp2_with (first | rw [← HG2.out, ← HW4.out] | rw [← HW5.out])
    refine HBD.out.mono ?_
    rintro e w6 ⟨rfl, rfl⟩
    cases hbad : s3.bad with
    | true =>
     rw [hbad] at HST
     have HE := Aside0.mk HST.out
     go_wp2_with fail
     go_ret
     refine ⟨_, rfl, ?_, ?_, HBU5.out⟩
     ·rw [← HE.out]; exact World.ownsRow_nil _ _ _ _
     ·rw [← HE.out]; exact HRD5.out
    | false =>
     rw [hbad] at HST
     have t0 : w6.cell? ⟨g2, 0, none⟩ = some (.int .i64 r.f0.f0) := by rw [cell_of_row _ _ 0 _ _ _ HT5.out]; rfl
     have t1 : w6.cell? ⟨g2, 1, none⟩ = some (.int .i64 r.f0.f1) := by rw [cell_of_row _ _ 1 _ _ _ HT5.out]; rfl
     have t2 : w6.cell? ⟨g2, 2, none⟩ = some (.int .i64 r.f1) := by rw [cell_of_row _ _ 2 _ _ _ HT5.out]; rfl
     have HWB := Aside0.mk HBU5.out.size
     clear a0 a1 a2 b0 b1 b2
     go_wp2_with (at_builtin; refine RowNt.wpList_note (by rfl) (by rfl) HWB.out (by rfl) HRO5.out r (by rfl) (by have := HACC.out; omega) ?_; intro v' w8 hg8)
     have HU := Aside0.mk (fun k e => own_base HRO5.out k e)
     refine ⟨⟨j + 1, acc ++ [r], s3, q3, HLT.out, rfl, hg8.own, rd_grew HRD5.out HGL.out HWB.out HRL.out hg8.grown HU.out, but2_grew HBU5.out hg8.grown HU.out, (hg8.grown.block Y (Array.getElem?_eq_some_iff.1 HY5.out).1 (fun e => by have h1 := HU.out Y e.symm; have h2 := HYL.out; omega)).trans HY5.out, by simpa using HST.out, by simp [HACC.out]⟩, ?_⟩
     show c - ((j : Int) + 1).toNat < c - ((j : Int)).toNat
     have := HLT.out
     omega
   ·obtain rfl : j = c := by omega
    have hlt' : ¬ ((j : Int) < (j : Int)) := by omega
    have HE := Aside0.mk (show (acc, s2) = notesP l s by have h := HREC.out; rw [Nat.sub_self] at h; exact h)
    go_wp2_with fail
    go_ret
    refine ⟨_, rfl, ?_, ?_, HBU.out⟩
    ·rw [← HE.out]; exact HRO.out
    ·rw [← HE.out]; exact HRD.out
theorem runs_c (g : Nat) (w : World) (v : Value) (l : List Int) (s : At) (h : Rd g w v l s.a s.bad) (hok : Byt.Ok l) (hl : l.length ≤ 1000000) :
  Calls Try.prog 77 #[.pointer (some ⟨g, 0, none⟩)] w (RunsPost g v l s w) := by
 obtain ⟨X, hX⟩ : ∃ X, X = w.heap.size := ⟨_, rfl⟩
 obtain ⟨w1, hw1⟩ : ∃ w1, w1 = w.alloc (.cells #[.pointer (some ⟨g, 0, none⟩)] 73) := ⟨_, rfl⟩
 have hb1 : Below w.heap.size w w1 := by rw [hw1]; exact below_alloc (Below.refl _ _) _
 have HXX := Aside0.mk (show w1.heap[X]? = some (.cells #[.pointer (some ⟨g, 0, none⟩)] 73 (0, 0)) by rw [hw1, hX]; exact Own.heap_new _ _)
 have HGX := Aside0.mk (show X ≠ g by
  obtain ⟨a', h1, _⟩ := h
  have := (Array.getElem?_eq_some_iff.1 h1.heap).1
  omega)
 have HC := Aside0.mk (list_c g X w1 v l s (h.below hb1) hok hl HXX.out HGX.out)
 have HB := Aside0.mk hb1
 have HW := Aside0.mk hw1
 have HE := Aside0.mk hX
 have x0 : w1.cell? ⟨X, 0, none⟩ = some (.pointer (some ⟨g, 0, none⟩)) := by rw [cell_of_row _ _ 0 _ _ _ HXX.out]; rfl
 clear h hok hl hb1 hw1 hX
 go_enter Try.func77, Try.ntmps77
 go_wp2_with (first | rw [← HE.out, ← HW.out])
 refine HC.out.mono ?_
 rintro e w2 ⟨u, rfl, hro, hrd, hbu⟩
 have HRO := Aside0.mk hro
 have HRD := Aside0.mk hrd
 have HBU := Aside0.mk hbu
 clear hro hrd hbu x0 HC
 go_wp2_with fail
 go_ret
 exact ⟨_, rfl, World.ownsRow.mono HRO.out HB.out.size, HRD.out, (grown_of_below HB.out (some g)).trans HBU.out⟩
def SpotsPost (g : Nat) (v : Value) (l : List Int) (s : At) (w : World) (e : Ending) (w' : World) : Prop :=
 ∃ u, e = .returned u ∧ NO w' w.heap.size u (notesP l s).1 ∧ Rd g w' v l (notesP l s).2.a (notesP l s).2.bad ∧ But g w w'
theorem spots_c (g : Nat) (w : World) (v : Value) (l : List Int) (s : At) (h : Rd g w v l s.a s.bad) (hok : Byt.Ok l) (hl : l.length ≤ 1000000) :
  Calls Try.prog 78 #[.pointer (some ⟨g, 0, none⟩)] w (SpotsPost g v l s w) := by
 obtain ⟨X, hX⟩ : ∃ X, X = w.heap.size := ⟨_, rfl⟩
 obtain ⟨w1, hw1⟩ : ∃ w1, w1 = w.alloc (.cells #[.pointer (some ⟨g, 0, none⟩)] 73) := ⟨_, rfl⟩
 obtain ⟨Y, hY⟩ : ∃ Y, Y = w1.heap.size := ⟨_, rfl⟩
 obtain ⟨w2, hw2⟩ : ∃ w2, w2 = w1.alloc (.cells #[.int .i64 0] 3) := ⟨_, rfl⟩
 obtain ⟨w3, hw3⟩ : ∃ w3, w3 = w2.setCell ⟨Y, 0, none⟩ (.int .i64 0) := ⟨_, rfl⟩
 have hb1 : Below w.heap.size w w1 := by rw [hw1]; exact below_alloc (Below.refl _ _) _
 have hY2 : w2.heap[Y]? = some (.cells #[.int .i64 0] 3 (0, 0)) := by rw [hw2, hY]; exact Own.heap_new _ _
 have hb3 : Below w1.heap.size w1 w3 := by
  rw [hw3, hw2]
  exact (below_alloc (Below.refl _ _) _).setCell (by rw [hY]; exact Nat.le_refl _) _
 have hXX : w1.heap[X]? = some (.cells #[.pointer (some ⟨g, 0, none⟩)] 73 (0, 0)) := by rw [hw1, hX]; exact Own.heap_new _ _
 have hXl := (Array.getElem?_eq_some_iff.1 hXX).1
 have HXX := Aside0.mk ((hb3.block X hXl).trans hXX)
 have HY3 := Aside0.mk (show w3.heap[Y]? = some (.cells #[.int .i64 0] 3 (0, 0)) by rw [hw3]; exact heap_setCell_same w2 Y 0 _ _ _ hY2)
 have hgl : g < w.heap.size := by
  obtain ⟨a', h1, _⟩ := h
  exact (Array.getElem?_eq_some_iff.1 h1.heap).1
 have HB := Aside0.mk (below_step hb1 hb3)
 have HC := Aside0.mk (listn_c g X Y w3 v l s (h.below HB.out) hok hl HXX.out HY3.out (by omega) (by have := hb1.size; omega) (by omega))
 have HW := Aside0.mk hw1
 have HE := Aside0.mk hX
 have HW2 := Aside0.mk hw2
 have HE2 := Aside0.mk hY
 have HW3 := Aside0.mk hw3
 have HYL := Aside0.mk (show w.heap.size ≤ Y by have := hb1.size; omega)
 have x0 : w1.cell? ⟨X, 0, none⟩ = some (.pointer (some ⟨g, 0, none⟩)) := by rw [cell_of_row _ _ 0 _ _ _ hXX]; rfl
 have x3 : w3.cell? ⟨X, 0, none⟩ = some (.pointer (some ⟨g, 0, none⟩)) := by rw [cell_of_row _ _ 0 _ _ _ HXX.out]; rfl
 have y2 : w2.cell? ⟨Y, 0, none⟩ = some (.int .i64 0) := by rw [cell_of_row _ _ 0 _ _ _ hY2]; rfl
 have f2 := frozen_of_row _ _ 0 _ _ hY2
 clear h hok hl hb1 hw1 hX hb3 hw2 hw3 hY hXX hXl hY2 hgl
 go_enter Try.func78, Try.ntmps78
 go_wp2_with (first | rw [← HE.out, ← HW.out] | rw [← HE2.out, ← HW2.out] | rw [← HW3.out])
 refine HC.out.mono ?_
 rintro e w4 ⟨u, rfl, hro, hrd, hbu⟩
 have HRO := Aside0.mk hro
 have HRD := Aside0.mk hrd
 have HBU := Aside0.mk hbu
 clear hro hrd hbu x0 x3 y2 f2 HC
 go_wp2_with fail
 go_ret
 exact ⟨_, rfl, World.ownsRow.mono HRO.out HB.out.size, HRD.out, HBU.out.os.trans HB.out.os, HBU.out.tape.trans HB.out.tape, HBU.out.output.trans HB.out.output, Nat.le_trans HB.out.size HBU.out.size, fun k hk hn => (HBU.out.block k (Nat.lt_of_lt_of_le hk HB.out.size) (fun e => hn (by rw [e])) (fun e => by have := HYL.out; omega)).trans (HB.out.block k hk)⟩
end Go.Proofs.Ytedfcjcnhgomoaa.DecC
end
-- MERGED YtedfcjcnhgomoaaDecM
section
namespace Go.Proofs.Ytedfcjcnhgomoaa.DecM
open Go.RowKit Go.Proofs.Ytedfcjcnhgomoaa.P Go.Proofs.Ytedfcjcnhgomoaa.Own Go.Proofs.Ytedfcjcnhgomoaa.Vy Go.Proofs.Ytedfcjcnhgomoaa.VaryR Go.Proofs.Ytedfcjcnhgomoaa.NoteN Go.Proofs.Ytedfcjcnhgomoaa.MsgA Go.Proofs.Ytedfcjcnhgomoaa.MsgD Go.Proofs.Ytedfcjcnhgomoaa.MsgE Go.Proofs.Ytedfcjcnhgomoaa.MsgW Go.Proofs.Ytedfcjcnhgomoaa.DecA Go.Proofs.Ytedfcjcnhgomoaa.DecB Go.Proofs.Ytedfcjcnhgomoaa.DecC
set_option linter.unusedSimpArgs false
set_option linter.unusedVariables false
def Ms.setN (m : Ms) (f : Int) (x : Int) : Ms := if f = 0 then { m with c := x } else if f = 1 then { m with e := x } else if f = 2 then { m with r := x } else if f = 3 then { m with s := x } else { m with d := x }
def putF (l : List Int) (f : Int) (p : Ms × At) : Ms × At :=
 if f = 5 then ({ p.1 with o := (runsP l p.2).1 }, (runsP l p.2).2)
 else if f = 6 then ({ p.1 with t := (p.2.text l).1 }, (p.2.text l).2)
 else if f = 7 then ({ p.1 with n := (notesP l p.2).1 }, (notesP l p.2).2)
 else (Ms.setN p.1 f (p.2.num l).1, (p.2.num l).2)
def putAll (l : List Int) : List Int → Ms × At → Ms × At
 | [], p => p
 | f :: fs, p => putAll l fs (putF l f p)
def readM (l : List Int) : Ms × At := putAll l (fieldsL (At.num l ⟨0, false⟩).1) (⟨(At.num l ⟨0, false⟩).1, 0, 0, 0, 0, 0, [], ⟨#[]⟩, []⟩, (At.num l ⟨0, false⟩).2)
def decOk (l : List Int) : Bool := (readM l).1.good && ((!(readM l).2.bad && decide (l.length - (readM l).2.a = 0)) && decide ((readM l).1.encL = l))
def noMs : Ms := ⟨0, 0, 0, 0, 0, 0, [], ⟨#[]⟩, []⟩
def decR (l : List Int) : Ms × Int := if decOk l then ((readM l).1, 0) else (noMs, 10)
theorem text_size (l : List Int) (s : At) : (s.text l).1.size ≤ l.length := by
 unfold At.text
 show (strOfNums (stepV [] s.bad _ _)).size ≤ _
 rw [strOfNums_size]
 unfold stepV
 split
 ·exact Nat.zero_le _
 ·unfold textL
  split
  ·exact Nat.zero_le _
  ·show (List.take _ (List.drop _ (l.drop s.a))).length ≤ _
   simp only [List.length_take, List.length_drop]
   omega
theorem run_size (l : List Int) (s : At) : (s.run l).1.f1.size ≤ l.length := by
 unfold At.run
 split
 ·exact text_size l _
 ·exact Nat.zero_le _
theorem runsR_small (l : List Int) : ∀ (n : Nat) (s : At) (acc : List EditL.Rn), (runsR l n s acc).1.length ≤ acc.length + n ∧ wgt (runsR l n s acc).1 ≤ wgt acc + n * (18 + l.length) := by
 have wa : ∀ (a b : List EditL.Rn), wgt (a ++ b) = wgt a + wgt b := by
  intro a b
  induction a with
  | nil => simp [wgt]
  | cons r a ih => rw [List.cons_append]; simp only [wgt]; rw [ih]; omega
 intro n
 induction n with
 | zero => intro s acc; exact ⟨Nat.le_refl _, by show wgt acc ≤ _; omega⟩
 | succ n ih =>
  intro s acc
  simp only [runsR]
  split
  ·exact ⟨Nat.zero_le _, Nat.zero_le _⟩
  ·have h := ih (s.run l).2 (acc ++ [(s.run l).1])
   have h2 := run_size l s
   rw [List.length_append, wa] at h
   simp only [List.length_singleton, wgt] at h
   rw [Nat.add_mul]
   omega
theorem notesR_small (l : List Int) : ∀ (n : Nat) (q : Int) (s : At) (acc : List Nt), (notesR l n q s acc).1.length ≤ acc.length + n := by
 intro n
 induction n with
 | zero => intro q s acc; exact Nat.le_refl _
 | succ n ih =>
  intro q s acc
  simp only [notesR]
  split
  ·exact Nat.zero_le _
  ·have h := ih (s.note l q).2.1 (s.note l q).2.2 (acc ++ [(s.note l q).1])
   rw [List.length_append] at h
   simp only [List.length_singleton] at h
   omega
theorem many_le (l : List Int) (s : At) : many l s ≤ 1 + l.length := by
 unfold many leftL
 simp only
 split <;> split <;> omega
theorem putF_small (l : List Int) (hl : l.length ≤ 500000) (f : Int) (p : Ms × At) (h : Small p.1) : Small (putF l f p).1 := by
 have h1 := runsR_small l (many l p.2) (p.2.num l).2 []
 have h2 := notesR_small l (many l p.2) 0 (p.2.num l).2 []
 have h3 := text_size l p.2
 have hm := many_le l p.2
 simp only [List.length_nil, wgt] at h1 h2
 have hw : many l p.2 * (18 + l.length) ≤ 500001 * 500018 := Nat.mul_le_mul (by omega) (by omega)
 unfold putF
 split
 ·exact ⟨by show (runsP l p.2).1.length ≤ _; unfold runsP; omega, by show wgt (runsP l p.2).1 ≤ _; unfold runsP; omega, h.t, h.n⟩
 split
 ·exact ⟨h.o, h.w, by show (p.2.text l).1.size ≤ _; omega, h.n⟩
 split
 ·exact ⟨h.o, h.w, h.t, by show (notesP l p.2).1.length ≤ _; unfold notesP; omega⟩
 ·show Small (Ms.setN p.1 f (p.2.num l).1)
  unfold Ms.setN
  repeat' split
  all_goals exact ⟨h.o, h.w, h.t, h.n⟩
theorem putAll_small (l : List Int) (hl : l.length ≤ 500000) : ∀ (fs : List Int) (p : Ms × At), Small p.1 → Small (putAll l fs p).1 := by
 intro fs
 induction fs with
 | nil => intro p h; exact h
 | cons f fs ih => intro p h; exact ih _ (putF_small l hl f p h)
theorem readM_small (l : List Int) (hl : l.length ≤ 500000) : Small (readM l).1 := putAll_small l hl _ _ ⟨Nat.zero_le _, Nat.zero_le _, Nat.zero_le _, Nat.zero_le _⟩
end Go.Proofs.Ytedfcjcnhgomoaa.DecM
end
-- MERGED YtedfcjcnhgomoaaDecL
section
namespace Go.Proofs.Ytedfcjcnhgomoaa.DecL
open Go.RowKit Go.Proofs.Ytedfcjcnhgomoaa.P Go.Proofs.Ytedfcjcnhgomoaa.Own Go.Proofs.Ytedfcjcnhgomoaa.Vy Go.Proofs.Ytedfcjcnhgomoaa.VaryR Go.Proofs.Ytedfcjcnhgomoaa.NoteN Go.Proofs.Ytedfcjcnhgomoaa.MsgA Go.Proofs.Ytedfcjcnhgomoaa.MsgD Go.Proofs.Ytedfcjcnhgomoaa.MsgE Go.Proofs.Ytedfcjcnhgomoaa.MsgW Go.Proofs.Ytedfcjcnhgomoaa.MsgR Go.Proofs.Ytedfcjcnhgomoaa.DecA Go.Proofs.Ytedfcjcnhgomoaa.DecB Go.Proofs.Ytedfcjcnhgomoaa.DecC Go.Proofs.Ytedfcjcnhgomoaa.DecM
set_option linter.unusedSimpArgs false
set_option linter.unusedVariables false
theorem putL_app (b : List Int) (n : Int) : putL b n = b ++ putL [] n := by
 unfold putL
 split
 ·simp
 ·simp
theorem putSL_app (b : List Int) (n : Int) : putSL b n = b ++ putSL [] n := by
 unfold putSL
 split
 ·simp
 ·exact putL_app _ _
theorem putTL_app (b s : List Int) : putTL b s = b ++ putTL [] s := by
 unfold putTL
 rw [putL_app, List.append_assoc]
theorem opStep_app (b : List Int) (r : EditL.Rn) : opStep b r = b ++ opStep [] r := by
 unfold opStep
 split
 ·exact putSL_app _ _
 ·rw [putTL_app, putSL_app, putTL_app (putSL [] _), List.append_assoc]
theorem opR_app : ∀ (l : List EditL.Rn) (b : List Int), opR l b = b ++ opR l [] := by
 intro l
 induction l with
 | nil => intro b; simp [opR]
 | cons r l ih => intro b; simp only [opR]; rw [ih (opStep b r), ih (opStep [] r), opStep_app b, List.append_assoc]
theorem noteStep_app (b : List Int) (q : Int) (x : Nt) : noteStep b q x = b ++ noteStep [] q x := by
 unfold noteStep
 rw [putL_app (putL (putL b _) _), putL_app (putL b _), putL_app b, putL_app (putL (putL [] _) _), putL_app (putL [] _) (wrap64 (x.f0.f1 - x.f0.f0)), List.append_assoc, List.append_assoc, List.append_assoc]
theorem noteR_app : ∀ (l : List Nt) (q : Int) (b : List Int), noteR l q b = b ++ noteR l q [] := by
 intro l
 induction l with
 | nil => intro q b; simp [noteR]
 | cons x l ih => intro q b; simp only [noteR]; rw [ih _ (noteStep b q x), ih _ (noteStep [] q x), noteStep_app b, List.append_assoc]
theorem fieldB_app (m : Ms) (f : Int) (b : List Int) : m.fieldB f b = b ++ m.fieldB f [] := by
 unfold Ms.fieldB
 repeat' split
 ·rw [opR_app, opR_app _ (putL [] _), putL_app b, List.append_assoc]
 ·exact putTL_app _ _
 ·rw [noteR_app, noteR_app _ _ (putL [] _), putL_app b, List.append_assoc]
 ·exact putL_app _ _
theorem encR_app (m : Ms) : ∀ (fs : List Int) (b : List Int), m.encR fs b = b ++ m.encR fs [] := by
 intro fs
 induction fs with
 | nil => intro b; simp [Ms.encR]
 | cons f fs ih => intro b; simp only [Ms.encR]; rw [ih (m.fieldB f b), ih (m.fieldB f []), fieldB_app m f b, List.append_assoc]
theorem ok_opStep {b : List Int} (h : Byt.Ok b) (r : EditL.Rn) : Byt.Ok (opStep b r) := by
 unfold opStep
 split
 ·exact ok_putSL h _
 ·exact ok_putTL (ok_putSL h _) (ok_numsOf _)
theorem ok_opR : ∀ {l : List EditL.Rn} {b : List Int}, Byt.Ok b → Byt.Ok (opR l b) := by
 intro l
 induction l with
 | nil => intro b h; exact h
 | cons r l ih => intro b h; exact ih (ok_opStep h r)
theorem ok_noteR : ∀ {l : List Nt} {q : Int} {b : List Int}, Byt.Ok b → Byt.Ok (noteR l q b) := by
 intro l
 induction l with
 | nil => intro q b h; exact h
 | cons x l ih => intro q b h; exact ih (ok_putL (ok_putL (ok_putL h _) _) _)
theorem ok_fieldB (m : Ms) (f : Int) {b : List Int} (h : Byt.Ok b) : Byt.Ok (m.fieldB f b) := by
 unfold Ms.fieldB
 repeat' split
 ·exact ok_opR (ok_putL h _)
 ·exact ok_putTL h (ok_numsOf _)
 ·exact ok_noteR (ok_putL h _)
 ·exact ok_putL h _
theorem ok_encR (m : Ms) : ∀ {fs : List Int} {b : List Int}, Byt.Ok b → Byt.Ok (m.encR fs b) := by
 intro fs
 induction fs with
 | nil => intro b h; exact h
 | cons f fs ih => intro b h; exact ih (ok_fieldB m f h)
theorem ok_encL (m : Ms) : Byt.Ok m.encL := ok_encR m (ok_putL Byt.ok_nil _)
structure On (l : List Int) (s : At) (xs : List Int) : Prop where
 ok : s.bad = false
 at_ : l.drop s.a = xs
 le : s.a ≤ l.length
theorem On.left {l xs : List Int} {s : At} (h : On l s xs) : l.length - s.a = xs.length := by
 have := congrArg List.length h.at_
 rwa [List.length_drop] at this
theorem On.step {l xs rest : List Int} {s : At} {k : Nat} (h : On l s (xs ++ rest)) (hk : k = xs.length) (h0 : k ≠ 0) : On l ⟨stepA s.bad s.a k, stepB s.bad k⟩ rest := by
 have hl := h.left
 rw [List.length_append] at hl
 have hle := h.le
 refine ⟨?_, ?_, ?_⟩
 ·show stepB s.bad k = false
  rw [h.ok]; unfold stepB; simpa using h0
 ·show l.drop (stepA s.bad s.a k) = rest
  rw [h.ok]
  show l.drop (s.a + k) = rest
  rw [← List.drop_drop, h.at_, hk, List.drop_left]
 ·show stepA s.bad s.a k ≤ _
  rw [h.ok]
  show s.a + k ≤ _
  omega
theorem stepV_on {α : Type} {l xs : List Int} {s : At} (h : On l s xs) (z : α) {k : Nat} (h0 : k ≠ 0) (x : α) : stepV z s.bad k x = x := by
 unfold stepV stepB
 rw [h.ok]
 simp [h0]
theorem enc_ne (n : Nat) : (enc n).length ≠ 0 := by have := enc_pos n; omega
theorem num_on {l rest : List Int} {s : At} {n : Int} (h0 : 0 ≤ n) (h1 : n ≤ M) (h : On l s (putL [] n ++ rest)) : (s.num l).1 = n ∧ On l (s.num l).2 rest := by
 obtain ⟨m, rfl⟩ : ∃ m : Nat, n = (m : Int) := ⟨n.toNat, by omega⟩
 rw [putL_good h1, List.nil_append] at h
 have he : numL (l.drop s.a) = ((m : Int), (enc m).length) := by rw [h.at_]; exact numL_enc m h1 rest
 unfold At.num
 rw [he]
 exact ⟨stepV_on h 0 (enc_ne m) _, h.step rfl (enc_ne m)⟩
theorem signed_on {l rest : List Int} {s : At} {n : Int} (h0 : -2305843009213693952 ≤ n) (h1 : n ≤ 2305843009213693952) (h : On l s (putSL [] n ++ rest)) : (s.signed l).1 = n ∧ On l (s.signed l).2 rest := by
 have hM : M = 4611686018427387904 := rfl
 have hz : 0 ≤ zig n ∧ zig n ≤ M := by rw [hM]; unfold zig; split <;> omega
 unfold putSL at h
 rw [if_neg (by omega)] at h
 obtain ⟨m, hm⟩ : ∃ m : Nat, zig n = (m : Int) := ⟨(zig n).toNat, by omega⟩
 rw [hm, putL_good (by omega), List.nil_append] at h
 have he : sgnL (l.drop s.a) = (n, (enc m).length) := by
  unfold sgnL
  rw [h.at_, numL_enc m (by omega) rest, ← hm, zag_zig]
 unfold At.signed
 rw [he]
 exact ⟨stepV_on h 0 (enc_ne m) _, h.step rfl (enc_ne m)⟩
theorem text_on {l rest : List Int} {s : At} {t : ByteArray} (h1 : (t.size : Int) ≤ M) (h : On l s (putTL [] (numsOf t) ++ rest)) : (s.text l).1 = t ∧ On l (s.text l).2 rest := by
 have hl : ((numsOf t).length : Int) ≤ M := by rw [numsOf_length]; exact h1
 have he : textL (l.drop s.a) = (numsOf t, (enc (numsOf t).length).length + (numsOf t).length) := by rw [h.at_]; exact textL_put _ _ hl
 have h0 : (enc (numsOf t).length).length + (numsOf t).length ≠ 0 := by have := enc_pos (numsOf t).length; omega
 unfold At.text
 rw [he]
 refine ⟨?_, h.step ?_ h0⟩
 ·show strOfNums (stepV [] s.bad _ _) = t
  rw [stepV_on h _ h0]
  exact strOf_numsOf t
 ·unfold putTL
  rw [putL_good hl, List.nil_append, List.length_append]
def okR (r : EditL.Rn) : Prop := EditL.knd r ≠ 0 ∧ r.f0 ≤ 16777216 ∧ r.f2 ≤ 16777216 ∧ r.f1.size ≤ 16777216
theorem fits_each : ∀ {l : List EditL.Rn} {i o : Int}, 0 ≤ i → 0 ≤ o → (∀ r ∈ l, EditL.knd r ≠ 0) → EditL.fits l i o = true → ∀ r ∈ l, okR r := by
 intro l
 induction l with
 | nil => intro i o _ _ _ _ r hr; cases hr
 | cons x l ih =>
  intro i o hi ho hk h r hr
  have h0 := EditL.knd_pos (hk x List.mem_cons_self)
  simp only [EditL.fits, Bool.and_eq_true, decide_eq_true_eq] at h
  obtain ⟨⟨⟨⟨a1, a2⟩, a3⟩, a4⟩, h5⟩ := h
  rcases List.mem_cons.1 hr with rfl | hr
  ·exact ⟨hk _ List.mem_cons_self, by omega, by omega, by omega⟩
  ·exact ih (by omega) (by omega) (fun y hy => hk y (List.mem_cons_of_mem _ hy)) h5 r hr
theorem good_each {l : List EditL.Rn} (h : EditL.good l = true) : (∀ r ∈ l, okR r) ∧ l.length ≤ 65536 := by
 obtain ⟨_, h2, h3, h4⟩ := EditL.good_ok h
 exact ⟨fits_each (Int.le_refl 0) (Int.le_refl 0) h4 h3, h2⟩
theorem opStep_ne {r : EditL.Rn} (hr : okR r) : 0 < (opStep [] r).length := by
 have h1 := EditL.knd_pos hr.1
 obtain ⟨_, h2, h3, h4⟩ := hr
 have hw : wrap64 (r.f0 - r.f2) = r.f0 - r.f2 := Byt.wrap_in _ (by omega)
 have hp : 0 < (putSL [] (r.f0 - r.f2)).length := by
  unfold putSL putL
  rw [if_neg (by omega), if_neg (by unfold zig; split <;> (have : M = 4611686018427387904 := rfl; omega)), List.nil_append]
  exact enc_pos _
 unfold opStep
 rw [hw]
 split
 ·exact hp
 ·rw [putTL_app, List.length_append]; omega
theorem opR_ne : ∀ {l : List EditL.Rn}, (∀ r ∈ l, okR r) → l.length ≤ (opR l []).length := by
 intro l
 induction l with
 | nil => intro _; exact Nat.zero_le _
 | cons r l ih =>
  intro h
  have h1 := opStep_ne (h r List.mem_cons_self)
  have h2 := ih fun x hx => h x (List.mem_cons_of_mem _ hx)
  simp only [opR]
  rw [opR_app, List.length_append, List.length_cons]
  omega
theorem run_on {l rest : List Int} {s : At} {r : EditL.Rn} (hr : okR r) (h : On l s (opStep [] r ++ rest)) : (s.run l).1 = r ∧ On l (s.run l).2 rest := by
 obtain ⟨k, x, y, z⟩ : True ∧ True ∧ True ∧ True := ⟨trivial, trivial, trivial, trivial⟩
 have h1 := EditL.knd_pos hr.1
 obtain ⟨h0, h2, h3, h4⟩ := hr
 have hw : wrap64 (r.f0 - r.f2) = r.f0 - r.f2 := Byt.wrap_in _ (by omega)
 unfold opStep at h
 rw [hw] at h
 obtain ⟨r0, r1, r2⟩ := r
 dsimp only at *
 rcases EditL.knd_cases ⟨r0, r1, r2⟩ with hk | hk | hk | hk
 ·obtain ⟨k0, k1, k2, _⟩ := hk
  dsimp only at k0 k1 k2
  subst k2
  obtain rfl := EditL.eq_E k1
  rw [if_pos k1, Int.sub_zero] at h
  obtain ⟨e1, e2⟩ := signed_on (by omega) (by omega) h
  unfold At.run
  rw [e1, if_neg (by omega)]
  refine ⟨?_, e2⟩
  rw [Byt.wrap_in (-r0) (by omega), if_neg (by omega), if_pos (by omega)]
  rfl
 ·obtain ⟨k0, k1, k2, _⟩ := hk
  dsimp only at k0 k1 k2
  subst k0 k2
  rw [if_neg (by omega), putTL_app, List.append_assoc, Int.sub_self] at h
  obtain ⟨e1, e2⟩ := signed_on (by omega) (by omega) h
  have hM : M = 4611686018427387904 := rfl
  obtain ⟨e3, e4⟩ := text_on (by omega) e2
  unfold At.run
  rw [if_pos e1]
  exact ⟨by rw [e3], e4⟩
 ·obtain ⟨k0, k1, k2, _⟩ := hk
  dsimp only at k0 k1 k2
  subst k0
  obtain rfl := EditL.eq_E k1
  rw [if_pos k1, Int.zero_sub] at h
  obtain ⟨e1, e2⟩ := signed_on (by omega) (by omega) h
  unfold At.run
  rw [e1, if_neg (by omega)]
  refine ⟨?_, e2⟩
  rw [Int.neg_neg, Byt.wrap_in r2 (by omega), if_pos (by omega), if_neg (by omega)]
  rfl
 ·exact absurd hk.1 h0
theorem runsR_on {l : List Int} : ∀ {rs : List EditL.Rn} {rest : List Int} {s : At} (acc : List EditL.Rn), (∀ r ∈ rs, okR r) → On l s (opR rs [] ++ rest) → (runsR l rs.length s acc).1 = acc ++ rs ∧ On l (runsR l rs.length s acc).2 rest := by
 intro rs
 induction rs with
 | nil => intro rest s acc _ h; exact ⟨by simp [runsR], h⟩
 | cons r rs ih =>
  intro rest s acc hr h
  simp only [opR] at h
  rw [opR_app, List.append_assoc] at h
  obtain ⟨e1, e2⟩ := run_on (hr r List.mem_cons_self) h
  rw [List.length_cons]
  simp only [runsR]
  rw [e2.ok, if_neg Bool.false_ne_true, e1]
  have h3 := ih (acc ++ [r]) (fun x hx => hr x (List.mem_cons_of_mem _ hx)) e2
  rw [List.append_assoc] at h3
  exact h3
theorem many_on {l rest : List Int} {s : At} {n : Nat} (hn : (n : Int) ≤ M) (h : On l s (putL [] (n : Int) ++ rest)) (hr : n ≤ rest.length) : many l s = n := by
 obtain ⟨e1, e2⟩ := num_on (by omega) hn h
 have hl := e2.left
 unfold many leftL
 rw [e1, e2.ok]
 simp only [Bool.false_eq_true, if_false]
 rw [if_neg (by omega), Int.toNat_natCast]
theorem runsP_on {l rest : List Int} {s : At} {rs : List EditL.Rn} (hr : ∀ r ∈ rs, okR r) (hn : rs.length ≤ 65536) (h : On l s (opR rs (putL [] (rs.length : Int)) ++ rest)) : (runsP l s).1 = rs ∧ On l (runsP l s).2 rest := by
 have hM : M = 4611686018427387904 := rfl
 rw [opR_app, List.append_assoc] at h
 have hlen := opR_ne hr
 have hm := many_on (by omega) h (by rw [List.length_append]; omega)
 obtain ⟨e1, e2⟩ := num_on (by omega) (by omega) h
 unfold runsP
 rw [hm]
 have := runsR_on [] hr e2
 rwa [List.nil_append] at this
theorem okX_iff {x : Nt} (h : okX x = true) : 0 ≤ x.f0.f0 ∧ x.f0.f0 ≤ x.f0.f1 ∧ x.f0.f1 ≤ 16777216 ∧ 0 ≤ x.f1 ∧ x.f1 ≤ 65536 := by
 unfold okX at h
 simp only [Bool.and_eq_true, decide_eq_true_eq] at h
 omega
theorem less_from {a b : Nt} (h : lessN a b = true) : a.f0.f0 ≤ b.f0.f0 := by
 unfold lessN at h
 split at h
 ·omega
 ·have := of_decide_eq_true h; omega
theorem noteStep_ne {q : Int} {x : Nt} (h : okX x = true) (h0 : 0 ≤ q) (h1 : q ≤ x.f0.f0) : 0 < (noteStep [] q x).length := by
 have hM : M = 4611686018427387904 := rfl
 have hx := okX_iff h
 unfold noteStep
 rw [putL_app, List.length_append]
 have hp : 0 < (putL [] x.f1).length := by
  unfold putL
  rw [if_neg (by omega), List.nil_append]
  exact enc_pos _
 omega
theorem noteR_ne : ∀ {ns : List Nt} {p : Option Nt} {q : Int}, fineR p ns = true → 0 ≤ q → (∀ x, p = some x → q = x.f0.f0) → (p = none → q = 0) → ns.length ≤ (noteR ns q []).length := by
 intro ns
 induction ns with
 | nil => intro p q _ _ _ _; exact Nat.zero_le _
 | cons x ns ih =>
  intro p q h h0 hp hp2
  simp only [fineR, Bool.and_eq_true] at h
  have hx := okX_iff h.1.1
  have hq : q ≤ x.f0.f0 := by
   cases p with
   | none => rw [hp2 rfl]; exact hx.1
   | some y => rw [hp y rfl]; exact less_from h.1.2
  have h1 := noteStep_ne h.1.1 h0 hq
  have h2 := ih (p := some x) (q := x.f0.f0) h.2 hx.1 (fun y e => by rw [Option.some.inj e]) (fun e => by cases e)
  simp only [noteR]
  rw [noteR_app, List.length_append, List.length_cons]
  omega
theorem note_on {l rest : List Int} {s : At} {q : Int} {x : Nt} (hx : okX x = true) (h0 : 0 ≤ q) (h1 : q ≤ x.f0.f0) (h : On l s (noteStep [] q x ++ rest)) : (s.note l q).1 = x ∧ (s.note l q).2.1 = x.f0.f0 ∧ On l (s.note l q).2.2 rest := by
 have hM : M = 4611686018427387904 := rfl
 obtain ⟨⟨a, b⟩, c⟩ := x
 have hx := okX_iff hx
 dsimp only at *
 unfold noteStep at h
 dsimp only at h
 rw [Byt.wrap_in (a - q) (by omega), Byt.wrap_in (b - a) (by omega), putL_app, putL_app (putL [] _), List.append_assoc, List.append_assoc] at h
 obtain ⟨e1, f1⟩ := num_on (by omega) (by omega) h
 obtain ⟨e2, f2⟩ := num_on (by omega) (by omega) f1
 obtain ⟨e3, f3⟩ := num_on (by omega) (by omega) f2
 have q1 : far (a - q) = a - q := by unfold far; rw [if_neg (by omega)]
 have q2 : far (b - a) = b - a := by unfold far; rw [if_neg (by omega)]
 have q3 : far a = a := by unfold far; rw [if_neg (by omega)]
 have q4 : wrap64 (q + (a - q)) = a := by rw [Byt.wrap_in _ (by omega)]; omega
 have q5 : wrap64 (a + (b - a)) = b := by rw [Byt.wrap_in _ (by omega)]; omega
 unfold At.note
 dsimp only
 rw [e1, e2, e3, q1, q2, q4, q3, q5]
 exact ⟨rfl, rfl, f3⟩
theorem notesR_on {l : List Int} : ∀ {ns : List Nt} {p : Option Nt} {q : Int} {rest : List Int} {s : At} (acc : List Nt), fineR p ns = true → 0 ≤ q → (∀ x, p = some x → q = x.f0.f0) → (p = none → q = 0) → On l s (noteR ns q [] ++ rest) → (notesR l ns.length q s acc).1 = acc ++ ns ∧ On l (notesR l ns.length q s acc).2 rest := by
 intro ns
 induction ns with
 | nil => intro p q rest s acc _ _ _ _ h; exact ⟨by simp [notesR], h⟩
 | cons x ns ih =>
  intro p q rest s acc h h0 hp hp2 ho
  simp only [fineR, Bool.and_eq_true] at h
  have hx := okX_iff h.1.1
  have hq : q ≤ x.f0.f0 := by
   cases p with
   | none => rw [hp2 rfl]; exact hx.1
   | some y => rw [hp y rfl]; exact less_from h.1.2
  simp only [noteR] at ho
  rw [noteR_app, List.append_assoc] at ho
  obtain ⟨e1, e2, e3⟩ := note_on h.1.1 h0 hq ho
  rw [List.length_cons]
  simp only [notesR]
  rw [e3.ok, if_neg Bool.false_ne_true, e1, e2]
  have h3 := ih (p := some x) (q := x.f0.f0) (acc ++ [x]) h.2 hx.1 (fun y e => by rw [Option.some.inj e]) (fun e => by cases e) e3
  rw [List.append_assoc] at h3
  exact h3
theorem notesP_on {l rest : List Int} {s : At} {ns : List Nt} (hf : fineL ns = true) (h : On l s (noteR ns 0 (putL [] (ns.length : Int)) ++ rest)) : (notesP l s).1 = ns ∧ On l (notesP l s).2 rest := by
 have hM : M = 4611686018427387904 := rfl
 unfold fineL at hf
 simp only [Bool.and_eq_true, decide_eq_true_eq] at hf
 rw [noteR_app, List.append_assoc] at h
 have hlen := noteR_ne (p := none) hf.1 (Int.le_refl 0) (fun x e => by cases e) (fun _ => rfl)
 have hm := many_on (by omega) h (by rw [List.length_append]; omega)
 obtain ⟨e1, e2⟩ := num_on (by omega) (by omega) h
 unfold notesP
 rw [hm]
 have := notesR_on [] hf.1 (Int.le_refl 0) (fun x e => by cases e) (fun _ => rfl) e2
 rwa [List.nil_append] at this
def cp (m : Ms) (f : Int) (x : Ms) : Ms := if f = 5 then { x with o := m.o } else if f = 6 then { x with t := m.t } else if f = 7 then { x with n := m.n } else Ms.setN x f (m.get f)
def cpAll (m : Ms) : List Int → Ms → Ms
 | [], x => x
 | f :: fs, x => cpAll m fs (cp m f x)
structure Fine (m : Ms) : Prop where
 num : ∀ f, 0 ≤ m.get f ∧ m.get f ≤ M
 o : EditL.good m.o = true
 t : (m.t.size : Int) ≤ 16777216
 n : fineL m.n = true
theorem putF_on {l rest : List Int} {s : At} {m x : Ms} (h : Fine m) (f : Int) (ho : On l s (m.fieldB f [] ++ rest)) : (putF l f (x, s)).1 = cp m f x ∧ On l (putF l f (x, s)).2 rest := by
 have hM : M = 4611686018427387904 := rfl
 unfold Ms.fieldB at ho
 unfold putF cp
 by_cases h5 : f = 5
 ·rw [if_pos h5] at ho
  rw [if_pos h5, if_pos h5]
  obtain ⟨g1, g2⟩ := good_each h.o
  obtain ⟨e1, e2⟩ := runsP_on g1 g2 ho
  exact ⟨by dsimp only; rw [e1], e2⟩
 rw [if_neg h5] at ho
 rw [if_neg h5, if_neg h5]
 by_cases h6 : f = 6
 ·rw [if_pos h6] at ho
  rw [if_pos h6, if_pos h6]
  have ht := h.t
  obtain ⟨e1, e2⟩ := text_on (by omega) ho
  exact ⟨by dsimp only; rw [e1], e2⟩
 rw [if_neg h6] at ho
 rw [if_neg h6, if_neg h6]
 by_cases h7 : f = 7
 ·rw [if_pos h7] at ho
  rw [if_pos h7, if_pos h7]
  obtain ⟨e1, e2⟩ := notesP_on h.n ho
  exact ⟨by dsimp only; rw [e1], e2⟩
 rw [if_neg h7] at ho
 rw [if_neg h7, if_neg h7]
 obtain ⟨e1, e2⟩ := num_on (h.num f).1 (h.num f).2 ho
 exact ⟨by dsimp only; rw [e1], e2⟩
theorem putAll_on {l : List Int} {m : Ms} (h : Fine m) : ∀ {fs : List Int} {x : Ms} {s : At}, On l s (m.encR fs []) → (putAll l fs (x, s)).1 = cpAll m fs x ∧ On l (putAll l fs (x, s)).2 [] := by
 intro fs
 induction fs with
 | nil => intro x s ho; exact ⟨rfl, ho⟩
 | cons f fs ih =>
  intro x s ho
  simp only [Ms.encR] at ho
  rw [encR_app] at ho
  obtain ⟨e1, e2⟩ := putF_on h (x := x) f ho
  have h3 := ih (x := cp m f x) e2
  rw [← e1] at h3
  simp only [putAll, cpAll]
  rw [← e1]
  exact h3
theorem fine_of {m : Ms} (h : m.good = true) : Fine m ∧ 1 ≤ m.k ∧ m.k ≤ 7 ∧ cpAll m (fieldsL m.k) ⟨m.k, 0, 0, 0, 0, 0, [], ⟨#[]⟩, []⟩ = m := by
 have hM : M = 4611686018427387904 := rfl
 rw [good_ref] at h
 unfold refGood restB numsB tailB numOk hasF at h
 simp only [Bool.and_eq_true, Bool.or_eq_true, decide_eq_true_eq] at h
 obtain ⟨h0, ⟨h5, h6, h7⟩, ⟨hc, he, hr, hs, hd⟩, hgo, hgt, hgn⟩ := h
 have hle : ∀ {a q : Int} {b : Prop} [Decidable b], a ≤ (if b then q else 0) → 0 ≤ q → a ≤ q := by
  intro a q b _ h hq
  split at h <;> omega
 refine ⟨⟨fun f => ?_, hgo, hgt, hgn⟩, ?_⟩
 ·unfold Ms.get
  have c2 := hle hc.2 (by decide)
  have e2 := hle he.2 (by decide)
  have r2 := hle hr.2 (by decide)
  have s2 := hle hs.2 (by decide)
  have d2 := hle hd.2 (by decide)
  repeat' split
  all_goals omega
 ·obtain ⟨k, c, e, r, s, d, o, t, n⟩ := m
  dsimp only at *
  have ho : o.length = 0 → o = [] := List.eq_nil_of_length_eq_zero
  have hn : n.length = 0 → n = [] := List.eq_nil_of_length_eq_zero
  have ht : t.size = 0 → t = EditL.E := EditL.eq_E
  have hk : k = 1 ∨ k = 2 ∨ k = 3 ∨ k = 4 ∨ k = 5 ∨ k = 6 ∨ k = 7 := by
   unfold fieldsL at h0
   repeat' split at h0
   all_goals first | omega | (simp at h0)
  rcases hk with rfl | rfl | rfl | rfl | rfl | rfl | rfl <;>
  ·simp [fieldsL] at h5 h6 h7 hc he hr hs hd
   refine ⟨by omega, by omega, ?_⟩
   simp [fieldsL, cpAll, cp, DecM.Ms.setN, Ms.get]
   repeat' apply And.intro
   all_goals first | omega | exact h5 | exact h7 | exact h6.symm
theorem read_enc {m : Ms} (h : m.good = true) : (readM m.encL).1 = m ∧ (readM m.encL).2.bad = false ∧ m.encL.length - (readM m.encL).2.a = 0 := by
 have hM : M = 4611686018427387904 := rfl
 obtain ⟨hf, k1, k7, hcp⟩ := fine_of h
 have he : m.encL = putL [] m.k ++ m.encR (fieldsL m.k) [] := by unfold Ms.encL; exact encR_app _ _ _
 have ho : On m.encL ⟨0, false⟩ (putL [] m.k ++ m.encR (fieldsL m.k) []) := ⟨rfl, by rw [← he]; rfl, Nat.zero_le _⟩
 obtain ⟨e1, e2⟩ := num_on (by omega) (by omega) ho
 unfold readM
 rw [e1]
 obtain ⟨e3, e4⟩ := putAll_on hf (x := ⟨m.k, 0, 0, 0, 0, 0, [], ⟨#[]⟩, []⟩) e2
 exact ⟨e3.trans hcp, e4.ok, e4.left⟩
theorem dec_enc {m : Ms} (h : m.good = true) : decR m.encL = (m, 0) := by
 obtain ⟨e1, e2, e3⟩ := read_enc h
 unfold decR decOk
 rw [e1, e2, e3, h]
 simp
theorem dec_ok {l : List Int} (h : (decR l).2 = 0) : (decR l).1.good = true ∧ (decR l).1.encL = l := by
 unfold decR at h ⊢
 by_cases hd : decOk l = true
 ·rw [if_pos hd]
  unfold decOk at hd
  simp only [Bool.and_eq_true, decide_eq_true_eq] at hd
  exact ⟨hd.1, hd.2.2⟩
 ·rw [if_neg hd] at h
  simp at h
theorem enc_inj {a b : Ms} (ha : a.good = true) (hb : b.good = true) (h : a.encL = b.encL) : a = b := by
 have h1 := dec_enc ha
 have h2 := dec_enc hb
 rw [h] at h1
 exact (Prod.mk.inj (h1.symm.trans h2)).1
end Go.Proofs.Ytedfcjcnhgomoaa.DecL
end
-- MERGED YtedfcjcnhgomoaaPvariorumref11Readnum
section
namespace Go.Proofs.Ytedfcjcnhgomoaa.P
open Go.RowKit Go.Proofs.YtedfcjcnhgomoaaW.PrintWords Go.Proofs.YtedfcjcnhgomoaaW.PrintLast Go.Proofs.YtedfcjcnhgomoaaW.PrintMore
attribute [local go_sem] max2_int min2_int max_two min_two max_three min_three max_four min_four   -- for this text's walks alone
set_option linter.unusedVariables false
set_option linter.unusedSimpArgs false
def variorumref11_Read_num.f (k : Nat) (l0_0 : List Int) (a0_1 : Bool) : Option (Int × List Int × Bool) := (variorumref01_Num.f k l0_0).bind fun bt407 => (if 0 ≤ bt407.2 then (if bt407.2 ≤ (l0_0.length : Int) then ((some (l0_0.drop (bt407.2 : Int).toNat : List Int)).bind fun y409 => (if a0_1 = true then (some (bt407.1, y409, true)) else (some (bt407.1, y409, (bt407.2 == 0))))) else (none)) else (none))
end Go.Proofs.Ytedfcjcnhgomoaa.P
end
-- MERGED YtedfcjcnhgomoaaPvariorumref01Text
section
namespace Go.Proofs.Ytedfcjcnhgomoaa.P
open Go.RowKit Go.Proofs.YtedfcjcnhgomoaaW.PrintWords Go.Proofs.YtedfcjcnhgomoaaW.PrintLast Go.Proofs.YtedfcjcnhgomoaaW.PrintMore
attribute [local go_sem] max2_int min2_int max_two min_two max_three min_three max_four min_four   -- for this text's walks alone
set_option linter.unusedVariables false
set_option linter.unusedSimpArgs false
def variorumref01_Text.f (k : Nat) (l0 : List Int) : Option (ByteArray × Int) := (variorumref01_Num.f k l0).bind fun bt180 => (if bt180.2 = 0 then (some ((⟨#[]⟩ : ByteArray), 0)) else (if bt180.1 > (wrap64 ((l0.length : Int) - bt180.2)) then (some ((⟨#[]⟩ : ByteArray), 0)) else (if 0 ≤ bt180.2 then (if bt180.2 ≤ (wrap64 (bt180.2 + bt180.1)) then (if (wrap64 (bt180.2 + bt180.1)) ≤ (l0.length : Int) then (some (strOfNums ((l0.take ((wrap64 (bt180.2 + bt180.1)) : Int).toNat).drop (bt180.2 : Int).toNat), wrap64 (bt180.2 + bt180.1))) else (none)) else (none)) else (none))))
end Go.Proofs.Ytedfcjcnhgomoaa.P
end
-- MERGED YtedfcjcnhgomoaaPvariorumref11Readtext
section
namespace Go.Proofs.Ytedfcjcnhgomoaa.P
open Go.RowKit Go.Proofs.YtedfcjcnhgomoaaW.PrintWords Go.Proofs.YtedfcjcnhgomoaaW.PrintLast Go.Proofs.YtedfcjcnhgomoaaW.PrintMore
attribute [local go_sem] max2_int min2_int max_two min_two max_three min_three max_four min_four   -- for this text's walks alone
set_option linter.unusedVariables false
set_option linter.unusedSimpArgs false
def variorumref11_Read_text.f (k : Nat) (l0_0 : List Int) (a0_1 : Bool) : Option (ByteArray × List Int × Bool) := (variorumref01_Text.f k l0_0).bind fun bt416 => (if 0 ≤ bt416.2 then (if bt416.2 ≤ (l0_0.length : Int) then ((some (l0_0.drop (bt416.2 : Int).toNat : List Int)).bind fun y418 => (if a0_1 = true then (some (bt416.1, y418, true)) else (some (bt416.1, y418, (bt416.2 == 0))))) else (none)) else (none))
end Go.Proofs.Ytedfcjcnhgomoaa.P
end
-- MERGED YtedfcjcnhgomoaaPvariorumref11Readsigned
section
namespace Go.Proofs.Ytedfcjcnhgomoaa.P
open Go.RowKit Go.Proofs.YtedfcjcnhgomoaaW.PrintWords Go.Proofs.YtedfcjcnhgomoaaW.PrintLast Go.Proofs.YtedfcjcnhgomoaaW.PrintMore
attribute [local go_sem] max2_int min2_int max_two min_two max_three min_three max_four min_four   -- for this text's walks alone
set_option linter.unusedVariables false
set_option linter.unusedSimpArgs false
def variorumref11_Read_signed.f (k : Nat) (l0_0 : List Int) (a0_1 : Bool) : Option (Int × List Int × Bool) := (variorumref01_Signed.f k l0_0).bind fun bt427 => (if 0 ≤ bt427.2 then (if bt427.2 ≤ (l0_0.length : Int) then ((some (l0_0.drop (bt427.2 : Int).toNat : List Int)).bind fun y429 => (if a0_1 = true then (some (bt427.1, y429, true)) else (some (bt427.1, y429, (bt427.2 == 0))))) else (none)) else (none))
end Go.Proofs.Ytedfcjcnhgomoaa.P
end
-- MERGED YtedfcjcnhgomoaaPvariorumref11Readop
section
namespace Go.Proofs.Ytedfcjcnhgomoaa.P
open Go.RowKit Go.Proofs.YtedfcjcnhgomoaaW.PrintWords Go.Proofs.YtedfcjcnhgomoaaW.PrintLast Go.Proofs.YtedfcjcnhgomoaaW.PrintMore
attribute [local go_sem] max2_int min2_int max_two min_two max_three min_three max_four min_four   -- for this text's walks alone
set_option linter.unusedVariables false
set_option linter.unusedSimpArgs false
mutual
def variorumref11_Read_op.l0 : Nat → List (S85) → Int → Int → List Int → Bool → Option ((List (S85)) × List Int × Bool)
 | 0, _, _, _, _, _ => none
 | k + 1, x4, x5, x6, x435000, x435001 => if x6 < x5 then (variorumref11_Read_op.j1 k x4 x5 x6 (!x435001) x435000 x435001) else (variorumref11_Read_op.j1 k x4 x5 x6 false x435000 x435001)
def variorumref11_Read_op.j1 : Nat → List (S85) → Int → Int → Bool → List Int → Bool → Option ((List (S85)) × List Int × Bool)
 | 0, _, _, _, _, _, _ => none
 | k + 1, x4, x5, x6, x21, x435000, x435001 => if x21 = true then ((variorumref11_Read_signed.f k x435000 x435001).bind fun bt441 => (if bt441.1 = 0 then ((variorumref11_Read_text.f k bt441.2.1 bt441.2.2).bind fun bt446 => (if x4.length < 4398046511104 then (variorumref11_Read_op.l0 k (x4 ++ [(⟨mx bt441.1 0, bt446.1, mx (wrap64 (-bt441.1)) 0⟩ : S85)]) x5 (wrap64 (x6 + 1)) bt446.2.1 bt446.2.2) else (none))) else (if x4.length < 4398046511104 then (variorumref11_Read_op.l0 k (x4 ++ [(⟨mx bt441.1 0, (⟨#[]⟩ : ByteArray), mx (wrap64 (-bt441.1)) 0⟩ : S85)]) x5 (wrap64 (x6 + 1)) bt441.2.1 bt441.2.2) else (none)))) else (some (x4, x435000, x435001))
end
def variorumref11_Read_op.f (k : Nat) (l0_0 : List Int) (a0_1 : Bool) : Option ((List (S85)) × List Int × Bool) := (variorumref11_Read_num.f k l0_0 a0_1).bind fun bt436 => (variorumref11_Read_op.l0 k ([] : List (S85)) bt436.1 0 bt436.2.1 bt436.2.2)
end Go.Proofs.Ytedfcjcnhgomoaa.P
end
-- MERGED YtedfcjcnhgomoaaPvariorumref11Readnotes
section
namespace Go.Proofs.Ytedfcjcnhgomoaa.P
open Go.RowKit Go.Proofs.YtedfcjcnhgomoaaW.PrintWords Go.Proofs.YtedfcjcnhgomoaaW.PrintLast Go.Proofs.YtedfcjcnhgomoaaW.PrintMore
attribute [local go_sem] max2_int min2_int max_two min_two max_three min_three max_four min_four   -- for this text's walks alone
set_option linter.unusedVariables false
set_option linter.unusedSimpArgs false
mutual
def variorumref11_Read_notes.l0 : Nat → List (S104) → Int → Int → Int → List Int → Bool → Option ((List (S104)) × List Int × Bool)
 | 0, _, _, _, _, _, _ => none
 | k + 1, x4, x5, x6, x7, x458000, x458001 => if x7 < x5 then (variorumref11_Read_notes.j1 k x4 x5 x6 x7 (!x458001) x458000 x458001) else (variorumref11_Read_notes.j1 k x4 x5 x6 x7 false x458000 x458001)
def variorumref11_Read_notes.j1 : Nat → List (S104) → Int → Int → Int → Bool → List Int → Bool → Option ((List (S104)) × List Int × Bool)
 | 0, _, _, _, _, _, _, _ => none
 | k + 1, x4, x5, x6, x7, x23, x458000, x458001 => if x23 = true then ((variorumref11_Read_num.f k x458000 x458001).bind fun bt464 => ((variorumref11_Read_num.f k bt464.2.1 bt464.2.2).bind fun bt469 => ((variorumref11_Read_num.f k bt469.2.1 bt469.2.2).bind fun bt474 => (if bt464.1 > 16777216 then (some (([] : List (S104)), ([] : List Int), true)) else (if bt469.1 > 16777216 then (some (([] : List (S104)), ([] : List Int), true)) else (if x4.length < 5864062014805 then (variorumref11_Read_notes.l0 k (x4 ++ [(⟨(⟨wrap64 (x6 + bt464.1), wrap64 ((wrap64 (x6 + bt464.1)) + bt469.1)⟩ : S102), bt474.1⟩ : S104)]) x5 (wrap64 (x6 + bt464.1)) (wrap64 (x7 + 1)) bt474.2.1 bt474.2.2) else (none))))))) else (some (x4, x458000, x458001))
end
def variorumref11_Read_notes.f (k : Nat) (l0_0 : List Int) (a0_1 : Bool) : Option ((List (S104)) × List Int × Bool) := (variorumref11_Read_num.f k l0_0 a0_1).bind fun bt459 => (variorumref11_Read_notes.l0 k ([] : List (S104)) bt459.1 0 0 bt459.2.1 bt459.2.2)
end Go.Proofs.Ytedfcjcnhgomoaa.P
end
-- MERGED YtedfcjcnhgomoaaPvariorumref11Decode
section
namespace Go.Proofs.Ytedfcjcnhgomoaa.P
open Go.RowKit Go.Proofs.YtedfcjcnhgomoaaW.PrintWords Go.Proofs.YtedfcjcnhgomoaaW.PrintLast Go.Proofs.YtedfcjcnhgomoaaW.PrintMore
attribute [local go_sem] max2_int min2_int max_two min_two max_three min_three max_four min_four   -- for this text's walks alone
set_option linter.unusedVariables false
set_option linter.unusedSimpArgs false
def variorumref11_Decode.l0 : Nat → List Int → ByteArray → Int → Int → Int → Int → Int → Int → Int → List (S85) → ByteArray → List (S104) → List Int → Bool → Option (Int × Int × Int × Int × Int × Int × (List (S85)) × ByteArray × (List (S104)) × Int)
 | 0, _, _, _, _, _, _, _, _, _, _, _, _, _, _ => none
 | k + 1, x0, x6, x7, x484000, x484001, x484002, x484003, x484004, x484005, x484006, x484007, x484008, x485000, x485001 => if x7 < (x6.size : Int) then (if 0 ≤ x7 then (if (bt x6 x7) = 99 then ((variorumref11_Read_num.f k x485000 x485001).bind fun bt491 => (variorumref11_Decode.l0 k x0 x6 (wrap64 (x7 + 1)) x484000 bt491.1 x484002 x484003 x484004 x484005 x484006 x484007 x484008 bt491.2.1 bt491.2.2)) else (if (bt x6 x7) = 101 then ((variorumref11_Read_num.f k x485000 x485001).bind fun bt496 => (variorumref11_Decode.l0 k x0 x6 (wrap64 (x7 + 1)) x484000 x484001 bt496.1 x484003 x484004 x484005 x484006 x484007 x484008 bt496.2.1 bt496.2.2)) else (if (bt x6 x7) = 114 then ((variorumref11_Read_num.f k x485000 x485001).bind fun bt501 => (variorumref11_Decode.l0 k x0 x6 (wrap64 (x7 + 1)) x484000 x484001 x484002 bt501.1 x484004 x484005 x484006 x484007 x484008 bt501.2.1 bt501.2.2)) else (if (bt x6 x7) = 115 then ((variorumref11_Read_num.f k x485000 x485001).bind fun bt506 => (variorumref11_Decode.l0 k x0 x6 (wrap64 (x7 + 1)) x484000 x484001 x484002 x484003 bt506.1 x484005 x484006 x484007 x484008 bt506.2.1 bt506.2.2)) else (if (bt x6 x7) = 100 then ((variorumref11_Read_num.f k x485000 x485001).bind fun bt511 => (variorumref11_Decode.l0 k x0 x6 (wrap64 (x7 + 1)) x484000 x484001 x484002 x484003 x484004 bt511.1 x484006 x484007 x484008 bt511.2.1 bt511.2.2)) else (if (bt x6 x7) = 111 then ((variorumref11_Read_op.f k x485000 x485001).bind fun bt516 => (variorumref11_Decode.l0 k x0 x6 (wrap64 (x7 + 1)) x484000 x484001 x484002 x484003 x484004 x484005 bt516.1 x484007 x484008 bt516.2.1 bt516.2.2)) else (if (bt x6 x7) = 116 then ((variorumref11_Read_text.f k x485000 x485001).bind fun bt523 => (variorumref11_Decode.l0 k x0 x6 (wrap64 (x7 + 1)) x484000 x484001 x484002 x484003 x484004 x484005 x484006 bt523.1 x484008 bt523.2.1 bt523.2.2)) else ((variorumref11_Read_notes.f k x485000 x485001).bind fun bt528 => (variorumref11_Decode.l0 k x0 x6 (wrap64 (x7 + 1)) x484000 x484001 x484002 x484003 x484004 x484005 x484006 x484007 bt528.1 bt528.2.1 bt528.2.2))))))))) else (none)) else (if x485001 = true then (some (0, 0, 0, 0, 0, 0, ([] : List (S85)), (⟨#[]⟩ : ByteArray), ([] : List (S104)), 10)) else ((variorumref11_Encode.f k x484000 x484001 x484002 x484003 x484004 x484005 x484006 x484007 x484008).bind fun bt535 => (if bt535.2 = 0 then (if (strOfNums bt535.1).toList = (strOfNums x0).toList then (some (x484000, x484001, x484002, x484003, x484004, x484005, x484006, x484007, x484008, 0)) else (some (0, 0, 0, 0, 0, 0, ([] : List (S85)), (⟨#[]⟩ : ByteArray), ([] : List (S104)), 10))) else (some (0, 0, 0, 0, 0, 0, ([] : List (S85)), (⟨#[]⟩ : ByteArray), ([] : List (S104)), 10)))))
def variorumref11_Decode.f (k : Nat) (l0 : List Int) : Option (Int × Int × Int × Int × Int × Int × (List (S85)) × ByteArray × (List (S104)) × Int) := (variorumref11_Read_num.f k l0 false).bind fun bt485 => ((variorumref11_Fields.f bt485.1).bind fun t490 => (variorumref11_Decode.l0 k l0 t490 0 bt485.1 0 0 0 0 0 ([] : List (S85)) (⟨#[]⟩ : ByteArray) ([] : List (S104)) bt485.2.1 bt485.2.2))
end Go.Proofs.Ytedfcjcnhgomoaa.P
end
-- MERGED YtedfcjcnhgomoaaDecRf
namespace Go.Proofs.Ytedfcjcnhgomoaa.DecRf
end Go.Proofs.Ytedfcjcnhgomoaa.DecRf

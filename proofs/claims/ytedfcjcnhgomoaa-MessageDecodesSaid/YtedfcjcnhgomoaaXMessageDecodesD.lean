/- Shaken: what the claim's theorem needs of our texts, of the printed ones and of the print's words. -/
import Derived.Test.YtedfcjcnhgomoaaXMessageDecodesC
-- MERGED YtedfcjcnhgomoaaPvariorumref11num
section
namespace Go.Proofs.Ytedfcjcnhgomoaa.P
open Go.RowKit Go.Proofs.YtedfcjcnhgomoaaW.PrintWords Go.Proofs.YtedfcjcnhgomoaaW.PrintLast Go.Proofs.YtedfcjcnhgomoaaW.PrintMore
attribute [local go_sem] max2_int min2_int max_two min_two max_three min_three max_four min_four   -- for this text's walks alone
set_option linter.unusedVariables false
set_option linter.unusedSimpArgs false
def variorumref11_num.f (a0_0 : Int) (a0_1 : Int) (a0_2 : Int) (a0_3 : Int) (a0_4 : Int) (a0_5 : Int) (l0_6 : List (S85)) (a0_7 : ByteArray) (l0_8 : List (S104)) (a1 : Int) : Option (Int × Int) := if a1 = 99 then (some (a0_1, 63)) else (if a1 = 101 then (some (a0_2, 4611686018427387904)) else (if a1 = 114 then (some (a0_3, 4611686018427387904)) else (if a1 = 115 then (some (a0_4, 4611686018427387904)) else (some (a0_5, 65536)))))
set_option maxHeartbeats 8000000 in
set_option maxRecDepth 100000 in
theorem variorumref11_num.calls (a0_0 : Int) (a0_1 : Int) (a0_2 : Int) (a0_3 : Int) (a0_4 : Int) (a0_5 : Int) (A0_6 : Option Addr) (c0_6 : Nat) (l0_6 : List (S85)) (a0_7 : ByteArray) (A0_8 : Option Addr) (c0_8 : Nat) (l0_8 : List (S104)) (a1 : Int) (r1 : Int) (r2 : Int) (w : World) (hr0_6 : Kd.C k85 w A0_6 l0_6.length l0_6) (hc0_6 : l0_6.length ≤ c0_6) (hr0_8 : Kd.C k104 w A0_8 l0_8.length l0_8) (hc0_8 : l0_8.length ≤ c0_8) (h : variorumref11_num.f a0_0 a0_1 a0_2 a0_3 a0_4 a0_5 l0_6 a0_7 l0_8 a1 = some (r1, r2)) :
  Calls Try.prog 66 #[.agg #[.int .i64 a0_0, .int .i64 a0_1, .int .i64 a0_2, .int .i64 a0_3, .int .i64 a0_4, .int .i64 a0_5, .slice A0_6 l0_6.length c0_6, .string a0_7, .slice A0_8 l0_8.length c0_8], .int .u8 a1] w fun e w' => e = .returned (.tuple #[.int .i64 r1, .int .i64 r2]) ∧ Below w.heap.size w w' := by
 have hu44 := Try.underlying44
 have HR0_6 := Aside0.mk hr0_6
 have HC0_6 := Aside0.mk hc0_6
 clear hr0_6 hc0_6
 have HR0_8 := Aside0.mk hr0_8
 have HC0_8 := Aside0.mk hc0_8
 clear hr0_8 hc0_8
 have HB := Aside0.mk (Below.refl w.heap.size w)
 have H : (if a1 = 99 then (some (a0_1, 63)) else (if a1 = 101 then (some (a0_2, 4611686018427387904)) else (if a1 = 114 then (some (a0_3, 4611686018427387904)) else (if a1 = 115 then (some (a0_4, 4611686018427387904)) else (some (a0_5, 65536)))))) = some (r1, r2) := h
 clear h
 by_cases c3 : a1 = 99
 ·rw [if_pos c3] at H
  have c3b0 : (a1 == 99) = true := beq_iff_eq.mpr c3
  have c3b1 : (a1 != 99) = false := bne_eq_false_iff_eq.mpr c3
  clear c3
  simp only [Option.some.injEq, Prod.mk.injEq] at H
  obtain ⟨rfl, rfl⟩ := H
  go_enter Try.func66, Try.ntmps66
  go_wp2_with (first | ((with_reducible refine gate_dst (N := 2) rfl ?_); refine box_event ?hg (N := 2) ?hd (cs := #[.int .i64 a0_0, .int .i64 a0_1, .int .i64 a0_2, .int .i64 a0_3, .int .i64 a0_4, .int .i64 a0_5, .slice A0_6 l0_6.length c0_6, .string a0_7, .slice A0_8 l0_8.length c0_8]) (t := 44) ?hr ?_; (case hd => rfl); (case hg => rfl); (case hr => (go_simp; done)); intro gb274 hg w4 hbox hb; have n0_ := Aside0.mk (below_step (by repeat ((with_reducible (exact HB.out)))) hb); have n1_ := Aside0.mk (hbox); have n2_ := Aside0.mk ((by rw [hg]; exact (below_size (by repeat ((with_reducible (exact HB.out))))) : w.heap.size ≤ gb274)); have n3_ := Aside0.mk ((by rw [hg]; exact (below_size (by repeat ((with_reducible (exact HB.out))))) : w.heap.size ≤ gb274)); clear HB; have HB := n0_; have BK274 := n1_; have GW274 := n2_; have GE274 := n3_; clear n0_ n1_ n2_ n3_; clear hb hbox hg; have hcz5_0 : w4.cell? ⟨gb274, 0, none⟩ = some (.int .i64 a0_0) := (blk_cell BK274.out 0).trans rfl; have hcz5_1 : w4.cell? ⟨gb274, 1, none⟩ = some (.int .i64 a0_1) := (blk_cell BK274.out 1).trans rfl; have hcz5_2 : w4.cell? ⟨gb274, 2, none⟩ = some (.int .i64 a0_2) := (blk_cell BK274.out 2).trans rfl; have hcz5_3 : w4.cell? ⟨gb274, 3, none⟩ = some (.int .i64 a0_3) := (blk_cell BK274.out 3).trans rfl; have hcz5_4 : w4.cell? ⟨gb274, 4, none⟩ = some (.int .i64 a0_4) := (blk_cell BK274.out 4).trans rfl; have hcz5_5 : w4.cell? ⟨gb274, 5, none⟩ = some (.int .i64 a0_5) := (blk_cell BK274.out 5).trans rfl; have hcz5_6 : w4.cell? ⟨gb274, 6, none⟩ = some (.slice A0_6 l0_6.length c0_6) := (blk_cell BK274.out 6).trans rfl; have hcz5_7 : w4.cell? ⟨gb274, 7, none⟩ = some (.string a0_7) := (blk_cell BK274.out 7).trans rfl; have hcz5_8 : w4.cell? ⟨gb274, 8, none⟩ = some (.slice A0_8 l0_8.length c0_8) := (blk_cell BK274.out 8).trans rfl; have hfz5_0 := blk_frozen BK274.out 0; have hfz5_1 := blk_frozen BK274.out 1; have hfz5_2 := blk_frozen BK274.out 2; have hfz5_3 := blk_frozen BK274.out 3; have hfz5_4 := blk_frozen BK274.out 4; have hfz5_5 := blk_frozen BK274.out 5; have hfz5_6 := blk_frozen BK274.out 6; have hfz5_7 := blk_frozen BK274.out 7; have hfz5_8 := blk_frozen BK274.out 8))
  go_ret2
  exact ⟨by (rfl), by repeat ((with_reducible (exact HB.out)))⟩
 ·rw [if_neg c3] at H
  have c3b0 : (a1 == 99) = false := beq_eq_false_iff_ne.mpr c3
  have c3b1 : (a1 != 99) = true := bne_iff_ne.mpr c3
  by_cases c6 : a1 = 101
  ·rw [if_pos c6] at H
   have c6b0 : (a1 == 101) = true := beq_iff_eq.mpr c6
   have c6b1 : (a1 != 101) = false := bne_eq_false_iff_eq.mpr c6
   clear c6
   simp only [Option.some.injEq, Prod.mk.injEq] at H
   obtain ⟨rfl, rfl⟩ := H
   go_enter Try.func66, Try.ntmps66
   go_wp2_with (first | ((with_reducible refine gate_dst (N := 2) rfl ?_); refine box_event ?hg (N := 2) ?hd (cs := #[.int .i64 a0_0, .int .i64 a0_1, .int .i64 a0_2, .int .i64 a0_3, .int .i64 a0_4, .int .i64 a0_5, .slice A0_6 l0_6.length c0_6, .string a0_7, .slice A0_8 l0_8.length c0_8]) (t := 44) ?hr ?_; (case hd => rfl); (case hg => rfl); (case hr => (go_simp; done)); intro gb274 hg w7 hbox hb; have n0_ := Aside0.mk (below_step (by repeat ((with_reducible (exact HB.out)))) hb); have n1_ := Aside0.mk (hbox); have n2_ := Aside0.mk ((by rw [hg]; exact (below_size (by repeat ((with_reducible (exact HB.out))))) : w.heap.size ≤ gb274)); have n3_ := Aside0.mk ((by rw [hg]; exact (below_size (by repeat ((with_reducible (exact HB.out))))) : w.heap.size ≤ gb274)); clear HB; have HB := n0_; have BK274 := n1_; have GW274 := n2_; have GE274 := n3_; clear n0_ n1_ n2_ n3_; clear hb hbox hg; have hcz8_0 : w7.cell? ⟨gb274, 0, none⟩ = some (.int .i64 a0_0) := (blk_cell BK274.out 0).trans rfl; have hcz8_1 : w7.cell? ⟨gb274, 1, none⟩ = some (.int .i64 a0_1) := (blk_cell BK274.out 1).trans rfl; have hcz8_2 : w7.cell? ⟨gb274, 2, none⟩ = some (.int .i64 a0_2) := (blk_cell BK274.out 2).trans rfl; have hcz8_3 : w7.cell? ⟨gb274, 3, none⟩ = some (.int .i64 a0_3) := (blk_cell BK274.out 3).trans rfl; have hcz8_4 : w7.cell? ⟨gb274, 4, none⟩ = some (.int .i64 a0_4) := (blk_cell BK274.out 4).trans rfl; have hcz8_5 : w7.cell? ⟨gb274, 5, none⟩ = some (.int .i64 a0_5) := (blk_cell BK274.out 5).trans rfl; have hcz8_6 : w7.cell? ⟨gb274, 6, none⟩ = some (.slice A0_6 l0_6.length c0_6) := (blk_cell BK274.out 6).trans rfl; have hcz8_7 : w7.cell? ⟨gb274, 7, none⟩ = some (.string a0_7) := (blk_cell BK274.out 7).trans rfl; have hcz8_8 : w7.cell? ⟨gb274, 8, none⟩ = some (.slice A0_8 l0_8.length c0_8) := (blk_cell BK274.out 8).trans rfl; have hfz8_0 := blk_frozen BK274.out 0; have hfz8_1 := blk_frozen BK274.out 1; have hfz8_2 := blk_frozen BK274.out 2; have hfz8_3 := blk_frozen BK274.out 3; have hfz8_4 := blk_frozen BK274.out 4; have hfz8_5 := blk_frozen BK274.out 5; have hfz8_6 := blk_frozen BK274.out 6; have hfz8_7 := blk_frozen BK274.out 7; have hfz8_8 := blk_frozen BK274.out 8))
   go_ret2
   exact ⟨by (rfl), by repeat ((with_reducible (exact HB.out)))⟩
  ·rw [if_neg c6] at H
   have c6b0 : (a1 == 101) = false := beq_eq_false_iff_ne.mpr c6
   have c6b1 : (a1 != 101) = true := bne_iff_ne.mpr c6
   by_cases c9 : a1 = 114
   ·rw [if_pos c9] at H
    have c9b0 : (a1 == 114) = true := beq_iff_eq.mpr c9
    have c9b1 : (a1 != 114) = false := bne_eq_false_iff_eq.mpr c9
    clear c9
    simp only [Option.some.injEq, Prod.mk.injEq] at H
    obtain ⟨rfl, rfl⟩ := H
    go_enter Try.func66, Try.ntmps66
    go_wp2_with (first | ((with_reducible refine gate_dst (N := 2) rfl ?_); refine box_event ?hg (N := 2) ?hd (cs := #[.int .i64 a0_0, .int .i64 a0_1, .int .i64 a0_2, .int .i64 a0_3, .int .i64 a0_4, .int .i64 a0_5, .slice A0_6 l0_6.length c0_6, .string a0_7, .slice A0_8 l0_8.length c0_8]) (t := 44) ?hr ?_; (case hd => rfl); (case hg => rfl); (case hr => (go_simp; done)); intro gb274 hg w10 hbox hb; have n0_ := Aside0.mk (below_step (by repeat ((with_reducible (exact HB.out)))) hb); have n1_ := Aside0.mk (hbox); have n2_ := Aside0.mk ((by rw [hg]; exact (below_size (by repeat ((with_reducible (exact HB.out))))) : w.heap.size ≤ gb274)); have n3_ := Aside0.mk ((by rw [hg]; exact (below_size (by repeat ((with_reducible (exact HB.out))))) : w.heap.size ≤ gb274)); clear HB; have HB := n0_; have BK274 := n1_; have GW274 := n2_; have GE274 := n3_; clear n0_ n1_ n2_ n3_; clear hb hbox hg; have hcz11_0 : w10.cell? ⟨gb274, 0, none⟩ = some (.int .i64 a0_0) := (blk_cell BK274.out 0).trans rfl; have hcz11_1 : w10.cell? ⟨gb274, 1, none⟩ = some (.int .i64 a0_1) := (blk_cell BK274.out 1).trans rfl; have hcz11_2 : w10.cell? ⟨gb274, 2, none⟩ = some (.int .i64 a0_2) := (blk_cell BK274.out 2).trans rfl; have hcz11_3 : w10.cell? ⟨gb274, 3, none⟩ = some (.int .i64 a0_3) := (blk_cell BK274.out 3).trans rfl; have hcz11_4 : w10.cell? ⟨gb274, 4, none⟩ = some (.int .i64 a0_4) := (blk_cell BK274.out 4).trans rfl; have hcz11_5 : w10.cell? ⟨gb274, 5, none⟩ = some (.int .i64 a0_5) := (blk_cell BK274.out 5).trans rfl; have hcz11_6 : w10.cell? ⟨gb274, 6, none⟩ = some (.slice A0_6 l0_6.length c0_6) := (blk_cell BK274.out 6).trans rfl; have hcz11_7 : w10.cell? ⟨gb274, 7, none⟩ = some (.string a0_7) := (blk_cell BK274.out 7).trans rfl; have hcz11_8 : w10.cell? ⟨gb274, 8, none⟩ = some (.slice A0_8 l0_8.length c0_8) := (blk_cell BK274.out 8).trans rfl; have hfz11_0 := blk_frozen BK274.out 0; have hfz11_1 := blk_frozen BK274.out 1; have hfz11_2 := blk_frozen BK274.out 2; have hfz11_3 := blk_frozen BK274.out 3; have hfz11_4 := blk_frozen BK274.out 4; have hfz11_5 := blk_frozen BK274.out 5; have hfz11_6 := blk_frozen BK274.out 6; have hfz11_7 := blk_frozen BK274.out 7; have hfz11_8 := blk_frozen BK274.out 8))
    go_ret2
    exact ⟨by (rfl), by repeat ((with_reducible (exact HB.out)))⟩
   ·rw [if_neg c9] at H
    have c9b0 : (a1 == 114) = false := beq_eq_false_iff_ne.mpr c9
    have c9b1 : (a1 != 114) = true := bne_iff_ne.mpr c9
    by_cases c12 : a1 = 115
    ·rw [if_pos c12] at H
     have c12b0 : (a1 == 115) = true := beq_iff_eq.mpr c12
     have c12b1 : (a1 != 115) = false := bne_eq_false_iff_eq.mpr c12
     clear c12
     simp only [Option.some.injEq, Prod.mk.injEq] at H
     obtain ⟨rfl, rfl⟩ := H
     go_enter Try.func66, Try.ntmps66
     go_wp2_with (first | ((with_reducible refine gate_dst (N := 2) rfl ?_); refine box_event ?hg (N := 2) ?hd (cs := #[.int .i64 a0_0, .int .i64 a0_1, .int .i64 a0_2, .int .i64 a0_3, .int .i64 a0_4, .int .i64 a0_5, .slice A0_6 l0_6.length c0_6, .string a0_7, .slice A0_8 l0_8.length c0_8]) (t := 44) ?hr ?_; (case hd => rfl); (case hg => rfl); (case hr => (go_simp; done)); intro gb274 hg w13 hbox hb; have n0_ := Aside0.mk (below_step (by repeat ((with_reducible (exact HB.out)))) hb); have n1_ := Aside0.mk (hbox); have n2_ := Aside0.mk ((by rw [hg]; exact (below_size (by repeat ((with_reducible (exact HB.out))))) : w.heap.size ≤ gb274)); have n3_ := Aside0.mk ((by rw [hg]; exact (below_size (by repeat ((with_reducible (exact HB.out))))) : w.heap.size ≤ gb274)); clear HB; have HB := n0_; have BK274 := n1_; have GW274 := n2_; have GE274 := n3_; clear n0_ n1_ n2_ n3_; clear hb hbox hg; have hcz14_0 : w13.cell? ⟨gb274, 0, none⟩ = some (.int .i64 a0_0) := (blk_cell BK274.out 0).trans rfl; have hcz14_1 : w13.cell? ⟨gb274, 1, none⟩ = some (.int .i64 a0_1) := (blk_cell BK274.out 1).trans rfl; have hcz14_2 : w13.cell? ⟨gb274, 2, none⟩ = some (.int .i64 a0_2) := (blk_cell BK274.out 2).trans rfl; have hcz14_3 : w13.cell? ⟨gb274, 3, none⟩ = some (.int .i64 a0_3) := (blk_cell BK274.out 3).trans rfl; have hcz14_4 : w13.cell? ⟨gb274, 4, none⟩ = some (.int .i64 a0_4) := (blk_cell BK274.out 4).trans rfl; have hcz14_5 : w13.cell? ⟨gb274, 5, none⟩ = some (.int .i64 a0_5) := (blk_cell BK274.out 5).trans rfl; have hcz14_6 : w13.cell? ⟨gb274, 6, none⟩ = some (.slice A0_6 l0_6.length c0_6) := (blk_cell BK274.out 6).trans rfl; have hcz14_7 : w13.cell? ⟨gb274, 7, none⟩ = some (.string a0_7) := (blk_cell BK274.out 7).trans rfl; have hcz14_8 : w13.cell? ⟨gb274, 8, none⟩ = some (.slice A0_8 l0_8.length c0_8) := (blk_cell BK274.out 8).trans rfl; have hfz14_0 := blk_frozen BK274.out 0; have hfz14_1 := blk_frozen BK274.out 1; have hfz14_2 := blk_frozen BK274.out 2; have hfz14_3 := blk_frozen BK274.out 3; have hfz14_4 := blk_frozen BK274.out 4; have hfz14_5 := blk_frozen BK274.out 5; have hfz14_6 := blk_frozen BK274.out 6; have hfz14_7 := blk_frozen BK274.out 7; have hfz14_8 := blk_frozen BK274.out 8))
     go_ret2
     exact ⟨by (rfl), by repeat ((with_reducible (exact HB.out)))⟩
    ·rw [if_neg c12] at H
     have c12b0 : (a1 == 115) = false := beq_eq_false_iff_ne.mpr c12
     have c12b1 : (a1 != 115) = true := bne_iff_ne.mpr c12
     simp only [Option.some.injEq, Prod.mk.injEq] at H
     obtain ⟨rfl, rfl⟩ := H
     go_enter Try.func66, Try.ntmps66
     go_wp2_with (first | ((with_reducible refine gate_dst (N := 2) rfl ?_); refine box_event ?hg (N := 2) ?hd (cs := #[.int .i64 a0_0, .int .i64 a0_1, .int .i64 a0_2, .int .i64 a0_3, .int .i64 a0_4, .int .i64 a0_5, .slice A0_6 l0_6.length c0_6, .string a0_7, .slice A0_8 l0_8.length c0_8]) (t := 44) ?hr ?_; (case hd => rfl); (case hg => rfl); (case hr => (go_simp; done)); intro gb274 hg w15 hbox hb; have n0_ := Aside0.mk (below_step (by repeat ((with_reducible (exact HB.out)))) hb); have n1_ := Aside0.mk (hbox); have n2_ := Aside0.mk ((by rw [hg]; exact (below_size (by repeat ((with_reducible (exact HB.out))))) : w.heap.size ≤ gb274)); have n3_ := Aside0.mk ((by rw [hg]; exact (below_size (by repeat ((with_reducible (exact HB.out))))) : w.heap.size ≤ gb274)); clear HB; have HB := n0_; have BK274 := n1_; have GW274 := n2_; have GE274 := n3_; clear n0_ n1_ n2_ n3_; clear hb hbox hg; have hcz16_0 : w15.cell? ⟨gb274, 0, none⟩ = some (.int .i64 a0_0) := (blk_cell BK274.out 0).trans rfl; have hcz16_1 : w15.cell? ⟨gb274, 1, none⟩ = some (.int .i64 a0_1) := (blk_cell BK274.out 1).trans rfl; have hcz16_2 : w15.cell? ⟨gb274, 2, none⟩ = some (.int .i64 a0_2) := (blk_cell BK274.out 2).trans rfl; have hcz16_3 : w15.cell? ⟨gb274, 3, none⟩ = some (.int .i64 a0_3) := (blk_cell BK274.out 3).trans rfl; have hcz16_4 : w15.cell? ⟨gb274, 4, none⟩ = some (.int .i64 a0_4) := (blk_cell BK274.out 4).trans rfl; have hcz16_5 : w15.cell? ⟨gb274, 5, none⟩ = some (.int .i64 a0_5) := (blk_cell BK274.out 5).trans rfl; have hcz16_6 : w15.cell? ⟨gb274, 6, none⟩ = some (.slice A0_6 l0_6.length c0_6) := (blk_cell BK274.out 6).trans rfl; have hcz16_7 : w15.cell? ⟨gb274, 7, none⟩ = some (.string a0_7) := (blk_cell BK274.out 7).trans rfl; have hcz16_8 : w15.cell? ⟨gb274, 8, none⟩ = some (.slice A0_8 l0_8.length c0_8) := (blk_cell BK274.out 8).trans rfl; have hfz16_0 := blk_frozen BK274.out 0; have hfz16_1 := blk_frozen BK274.out 1; have hfz16_2 := blk_frozen BK274.out 2; have hfz16_3 := blk_frozen BK274.out 3; have hfz16_4 := blk_frozen BK274.out 4; have hfz16_5 := blk_frozen BK274.out 5; have hfz16_6 := blk_frozen BK274.out 6; have hfz16_7 := blk_frozen BK274.out 7; have hfz16_8 := blk_frozen BK274.out 8))
     go_ret2
     exact ⟨by (rfl), by repeat ((with_reducible (exact HB.out)))⟩
end Go.Proofs.Ytedfcjcnhgomoaa.P
end
-- MERGED YtedfcjcnhgomoaaPvariorumref11has
section
namespace Go.Proofs.Ytedfcjcnhgomoaa.P
open Go.RowKit Go.Proofs.YtedfcjcnhgomoaaW.PrintWords Go.Proofs.YtedfcjcnhgomoaaW.PrintLast Go.Proofs.YtedfcjcnhgomoaaW.PrintMore
attribute [local go_sem] max2_int min2_int max_two min_two max_three min_three max_four min_four   -- for this text's walks alone
set_option linter.unusedVariables false
set_option linter.unusedSimpArgs false
def variorumref11_has.l0 : Nat → ByteArray → Int → Int → Option (Bool)
 | 0, _, _, _ => none
 | k + 1, x0, x1, x5 => if x5 < (x0.size : Int) then (if 0 ≤ x5 then (if (bt x0 x5) = x1 then (some true) else (variorumref11_has.l0 k x0 x1 (wrap64 (x5 + 1)))) else (none)) else (some false)
def variorumref11_has.f (k : Nat) (a0 : ByteArray) (a1 : Int) : Option (Bool) := variorumref11_has.l0 k a0 a1 0
theorem variorumref11_has.mono_l : ∀ k, (∀ y0 y1 y2, LeO (variorumref11_has.l0 k y0 y1 y2) (variorumref11_has.l0 (k + 1) y0 y1 y2))
 | 0 => fun _ _ _ r h => by simp [variorumref11_has.l0] at h
 | k + 1 => by
  have ih0 := variorumref11_has.mono_l k
  ·intro y0 y1 y2
   unfold variorumref11_has.l0
   repeat' first | (with_reducible exact ih0 _ _ _) | (with_reducible exact LeO.refl _) | (with_reducible refine LeO.ite ?_ ?_)
theorem variorumref11_has.mono : ∀ a0 a1 k, LeO (variorumref11_has.f k a0 a1) (variorumref11_has.f (k + 1) a0 a1) := by
 intro a0 a1 k
 have ih0 := variorumref11_has.mono_l k
 unfold variorumref11_has.f
 repeat' (with_reducible exact ih0 _ _ _)
set_option maxHeartbeats 8000000 in
set_option maxRecDepth 100000 in
theorem variorumref11_has.calls (k : Nat) (a0 : ByteArray) (a1 : Int) (r : Bool) (w : World) (h : variorumref11_has.f k a0 a1 = some r) :
  Calls Try.prog 68 #[.string a0, .int .u8 a1] w fun e w' => e = .returned (.bool r) ∧ Drawn0 w w' := by
 have H : (variorumref11_has.l0 k a0 a1 0) = some r := h
 clear h
 have H' := Aside0.mk H
 clear H
 go_enter Try.func68, Try.ntmps68
 go_wp2
 go_loopg [5] k (fun kq v5 w' => ∃ (x5_1 : Int), v5 = .int .i64 x5_1 ∧ Aside0 (variorumref11_has.l0 kq a0 a1 x5_1 = some r) ∧ Aside0 (kq ≤ k) ∧ Drawn0 w w')
 case atStart => exact ⟨(0), (by (rfl)), H', ⟨Nat.le_refl _⟩, by repeat ((exact Drawn0.refl _))⟩
 case round =>
  clear H'
  try clear p2
  obtain ⟨x5_1, rfl, HA, HK1, ⟨m1, rfl⟩⟩ := hrel
  cases gk with
  | zero => exact absurd HA.out (by simp [variorumref11_has.l0])
  | succ k1 =>
   have H := HA.out
   clear HA
   simp only [variorumref11_has.l0] at H
   by_cases c3 : x5_1 < (a0.size : Int)
   ·rw [if_pos c3] at H
    have c3b0 : decide (x5_1 < (a0.size : Int)) = true := decide_eq_true c3
    clear c3
    by_cases c4 : 0 ≤ x5_1
    ·rw [if_pos c4] at H
     have c4b0 : decide (0 ≤ x5_1) = true := decide_eq_true c4
     clear c4
     by_cases c6 : (bt a0 x5_1) = a1
     ·rw [if_pos c6] at H
      have c6b0 : ((bt a0 x5_1) == a1) = true := beq_iff_eq.mpr c6
      have c6b1 : ((bt a0 x5_1) != a1) = false := bne_eq_false_iff_eq.mpr c6
      clear c6
      obtain rfl := Option.some.inj H
      have p5 : 0 ≤ (x5_1 : Int) := of_decide_eq_true (by (with_reducible assumption))
      have q5 : x5_1 < (a0.size : Int) := of_decide_eq_true (by (with_reducible assumption))
      have hx5 := bt_at a0 x5_1
      replace p5 := eq_true p5
      replace q5 := eq_true q5
      go_wp2
      go_ret
      exact ⟨by (rfl), by repeat (first | exact Drawn0.refl _ | apply Drawn0.step)⟩
     ·rw [if_neg c6] at H
      have c6b0 : ((bt a0 x5_1) == a1) = false := beq_eq_false_iff_ne.mpr c6
      have c6b1 : ((bt a0 x5_1) != a1) = true := bne_iff_ne.mpr c6
      have H' := Aside0.mk H
      clear H
      have p5 : 0 ≤ (x5_1 : Int) := of_decide_eq_true (by (with_reducible assumption))
      have q5 : x5_1 < (a0.size : Int) := of_decide_eq_true (by (with_reducible assumption))
      have hx5 := bt_at a0 x5_1
      replace p5 := eq_true p5
      replace q5 := eq_true q5
      go_wp2
      go_roundg k1
      case measure => have := HK1.out; omega
      case rel => exact ⟨(wrap64 (x5_1 + 1)), (by (rfl)), H', ⟨by have := HK1.out; omega⟩, by repeat (first | exact Drawn0.refl _ | apply Drawn0.step)⟩
    ·rw [if_neg c4] at H
     exact absurd H (by simp)
   ·rw [if_neg c3] at H
    have c3b0 : decide (x5_1 < (a0.size : Int)) = false := decide_eq_false c3
    clear c3
    obtain rfl := Option.some.inj H
    go_wp2
    go_ret
    exact ⟨by (rfl), by repeat (first | exact Drawn0.refl _ | apply Drawn0.step)⟩
end Go.Proofs.Ytedfcjcnhgomoaa.P
end
-- MERGED YtedfcjcnhgomoaaPvariorumref11Good
section
namespace Go.Proofs.Ytedfcjcnhgomoaa.P
open Go.RowKit Go.Proofs.YtedfcjcnhgomoaaW.PrintWords Go.Proofs.YtedfcjcnhgomoaaW.PrintLast Go.Proofs.YtedfcjcnhgomoaaW.PrintMore
attribute [local go_sem] max2_int min2_int max_two min_two max_three min_three max_four min_four   -- for this text's walks alone
open Go.Proofs.Ytedfcjcnhgomoaa.Press
set_option linter.unusedVariables false
set_option linter.unusedSimpArgs false
abbrev goodB0 : Array Bool := #[false, true, false, false, false, false, false, false, false, false]
abbrev goodB1 : Array Bool := #[false, true, true, false, false, false, false, false, false, false]
abbrev goodB2 : Array Bool := #[true, true, true, true, true, true, false, false, false, false]
abbrev goodB3 : Array Bool := #[true, true, true, true, true, true, true, false, false, false]
abbrev goodB4 : Array Bool := #[true, true, true, true, true, true, true, true, false, false]
abbrev goodB5 : Array Bool := #[true, true, true, true, true, true, true, true, true, false]
abbrev goodB6 : Array Bool := #[true, true, true, true, true, true, true, true, true, true]
abbrev goodB7 : Array Bool := #[true, true, true, false, false, false, false, false, false, false]
abbrev goodB8 : Array Bool := #[true, true, true, true, false, false, false, false, false, false]
abbrev goodB9 : Array Bool := #[false, false, false, false, false, false, false, false, false, false]
abbrev goodB10 : Array Bool := #[true, true, true, true, true, false, false, false, false, false]
mutual
def variorumref11_Good.j0 : Nat → ByteArray → Bool → Int → Int → Int → Int → Int → Int → List (S85) → ByteArray → List (S104) → Option (Bool)
 | 0, _, _, _, _, _, _, _, _, _, _, _ => none
 | k + 1, x3, x44, x285000, x285001, x285002, x285003, x285004, x285005, x285006, x285007, x285008 => if x44 = true then (some false) else (variorumref11_Good.l0 k x3 (⟨#[99, 101, 114, 115, 100]⟩ : ByteArray) 0 x285000 x285001 x285002 x285003 x285004 x285005 x285006 x285007 x285008)
def variorumref11_Good.l0 : Nat → ByteArray → ByteArray → Int → Int → Int → Int → Int → Int → Int → List (S85) → ByteArray → List (S104) → Option (Bool)
 | 0, _, _, _, _, _, _, _, _, _, _, _, _ => none
 | k + 1, x3, x4, x5, x285000, x285001, x285002, x285003, x285004, x285005, x285006, x285007, x285008 => if x5 < (x4.size : Int) then (if 0 ≤ x5 then ((variorumref11_num.f x285000 x285001 x285002 x285003 x285004 x285005 x285006 x285007 x285008 (bt x4 x5)).bind fun bt295 => ((variorumref11_has.f k x3 (bt x4 x5)).bind fun t297 => (if t297 = true then (if bt295.1 < 0 then (some false) else (if bt295.1 > bt295.2 then (some false) else (variorumref11_Good.l0 k x3 x4 (wrap64 (x5 + 1)) x285000 x285001 x285002 x285003 x285004 x285005 x285006 x285007 x285008))) else (if bt295.1 < 0 then (some false) else (if bt295.1 > 0 then (some false) else (variorumref11_Good.l0 k x3 x4 (wrap64 (x5 + 1)) x285000 x285001 x285002 x285003 x285004 x285005 x285006 x285007 x285008)))))) else (none)) else ((variorumref06_Good.f x285006).bind fun t293 => (if t293 = true then (if (x285007.size : Int) ≤ 16777216 then ((variorumref11_Notes.f k x285008).bind fun t294 => (some t294)) else (some false)) else (some false)))
end
def variorumref11_Good.f (k : Nat) (a0_0 : Int) (a0_1 : Int) (a0_2 : Int) (a0_3 : Int) (a0_4 : Int) (a0_5 : Int) (l0_6 : List (S85)) (a0_7 : ByteArray) (l0_8 : List (S104)) : Option (Bool) := (variorumref11_Fields.f a0_0).bind fun t285 => (if t285.toList = ([] : List UInt8) then (variorumref11_Good.j0 k t285 true a0_0 a0_1 a0_2 a0_3 a0_4 a0_5 l0_6 a0_7 l0_8) else ((variorumref11_has.f k t285 111).bind fun t286 => (if t286 = true then ((variorumref11_has.f k t285 116).bind fun t287 => (if t287 = true then ((variorumref11_has.f k t285 110).bind fun t288 => (if t288 = true then (variorumref11_Good.j0 k t285 false a0_0 a0_1 a0_2 a0_3 a0_4 a0_5 l0_6 a0_7 l0_8) else (variorumref11_Good.j0 k t285 (decide ((l0_8.length : Int) > 0)) a0_0 a0_1 a0_2 a0_3 a0_4 a0_5 l0_6 a0_7 l0_8))) else (if a0_7.toList = ([] : List UInt8) then ((variorumref11_has.f k t285 110).bind fun t289 => (if t289 = true then (variorumref11_Good.j0 k t285 false a0_0 a0_1 a0_2 a0_3 a0_4 a0_5 l0_6 a0_7 l0_8) else (variorumref11_Good.j0 k t285 (decide ((l0_8.length : Int) > 0)) a0_0 a0_1 a0_2 a0_3 a0_4 a0_5 l0_6 a0_7 l0_8))) else (variorumref11_Good.j0 k t285 true a0_0 a0_1 a0_2 a0_3 a0_4 a0_5 l0_6 a0_7 l0_8)))) else (if (l0_6.length : Int) > 0 then (variorumref11_Good.j0 k t285 true a0_0 a0_1 a0_2 a0_3 a0_4 a0_5 l0_6 a0_7 l0_8) else ((variorumref11_has.f k t285 116).bind fun t290 => (if t290 = true then ((variorumref11_has.f k t285 110).bind fun t291 => (if t291 = true then (variorumref11_Good.j0 k t285 false a0_0 a0_1 a0_2 a0_3 a0_4 a0_5 l0_6 a0_7 l0_8) else (variorumref11_Good.j0 k t285 (decide ((l0_8.length : Int) > 0)) a0_0 a0_1 a0_2 a0_3 a0_4 a0_5 l0_6 a0_7 l0_8))) else (if a0_7.toList = ([] : List UInt8) then ((variorumref11_has.f k t285 110).bind fun t292 => (if t292 = true then (variorumref11_Good.j0 k t285 false a0_0 a0_1 a0_2 a0_3 a0_4 a0_5 l0_6 a0_7 l0_8) else (variorumref11_Good.j0 k t285 (decide ((l0_8.length : Int) > 0)) a0_0 a0_1 a0_2 a0_3 a0_4 a0_5 l0_6 a0_7 l0_8))) else (variorumref11_Good.j0 k t285 true a0_0 a0_1 a0_2 a0_3 a0_4 a0_5 l0_6 a0_7 l0_8))))))))
def variorumref11_Good.T8 : Bool × List (List Nat × List Nat) := (true, [([], []), ([], []), ([], []), ([1, 2], [1, 2]), ([0, 3], [0, 3]), ([4], [4]), ([5], [5]), ([5], [5]), ([6, 4, 0, 1, 2, 3, 4, 5, 6], [6]), ([7, 8, 0, 1, 2, 3, 4, 5, 6, 7, 8], [7])])
def variorumref11_Good.B8 : List Nat := [0, 0, 0, 6, 15, 31, 63, 63, 127, 511]
theorem variorumref11_Good.tab8 : rtab .any (opsOf Try.f24 8) = variorumref11_Good.T8 := by kernel_rfl
theorem variorumref11_Good.bits8 : waitsOk variorumref11_Good.T8.2 variorumref11_Good.B8 = true := by kernel_rfl
set_option maxHeartbeats 8000000 in
set_option maxRecDepth 100000 in
theorem variorumref11_Good.calls (k : Nat) (a0_0 : Int) (a0_1 : Int) (a0_2 : Int) (a0_3 : Int) (a0_4 : Int) (a0_5 : Int) (A0_6 : Option Addr) (c0_6 : Nat) (l0_6 : List (S85)) (a0_7 : ByteArray) (A0_8 : Option Addr) (c0_8 : Nat) (l0_8 : List (S104)) (r : Bool) (w : World) (hr0_6 : Kd.C k85 w A0_6 l0_6.length l0_6) (hc0_6 : l0_6.length ≤ c0_6) (hr0_8 : Kd.C k104 w A0_8 l0_8.length l0_8) (hc0_8 : l0_8.length ≤ c0_8) (h : variorumref11_Good.f k a0_0 a0_1 a0_2 a0_3 a0_4 a0_5 l0_6 a0_7 l0_8 = some r) :
  Calls Try.prog 24 #[.agg #[.int .i64 a0_0, .int .i64 a0_1, .int .i64 a0_2, .int .i64 a0_3, .int .i64 a0_4, .int .i64 a0_5, .slice A0_6 l0_6.length c0_6, .string a0_7, .slice A0_8 l0_8.length c0_8]] w fun e w' => e = .returned (.bool r) ∧ Below w.heap.size w w' := by
 have hu44 := Try.underlying44
 have HR0_6 := Aside0.mk hr0_6
 have HC0_6 := Aside0.mk hc0_6
 clear hr0_6 hc0_6
 have HR0_8 := Aside0.mk hr0_8
 have HC0_8 := Aside0.mk hc0_8
 clear hr0_8 hc0_8
 have HB := Aside0.mk (Below.refl w.heap.size w)
 have H : ((variorumref11_Fields.f a0_0).bind fun t285 => (if t285.toList = ([] : List UInt8) then (variorumref11_Good.j0 k t285 true a0_0 a0_1 a0_2 a0_3 a0_4 a0_5 l0_6 a0_7 l0_8) else ((variorumref11_has.f k t285 111).bind fun t286 => (if t286 = true then ((variorumref11_has.f k t285 116).bind fun t287 => (if t287 = true then ((variorumref11_has.f k t285 110).bind fun t288 => (if t288 = true then (variorumref11_Good.j0 k t285 false a0_0 a0_1 a0_2 a0_3 a0_4 a0_5 l0_6 a0_7 l0_8) else (variorumref11_Good.j0 k t285 (decide ((l0_8.length : Int) > 0)) a0_0 a0_1 a0_2 a0_3 a0_4 a0_5 l0_6 a0_7 l0_8))) else (if a0_7.toList = ([] : List UInt8) then ((variorumref11_has.f k t285 110).bind fun t289 => (if t289 = true then (variorumref11_Good.j0 k t285 false a0_0 a0_1 a0_2 a0_3 a0_4 a0_5 l0_6 a0_7 l0_8) else (variorumref11_Good.j0 k t285 (decide ((l0_8.length : Int) > 0)) a0_0 a0_1 a0_2 a0_3 a0_4 a0_5 l0_6 a0_7 l0_8))) else (variorumref11_Good.j0 k t285 true a0_0 a0_1 a0_2 a0_3 a0_4 a0_5 l0_6 a0_7 l0_8)))) else (if (l0_6.length : Int) > 0 then (variorumref11_Good.j0 k t285 true a0_0 a0_1 a0_2 a0_3 a0_4 a0_5 l0_6 a0_7 l0_8) else ((variorumref11_has.f k t285 116).bind fun t290 => (if t290 = true then ((variorumref11_has.f k t285 110).bind fun t291 => (if t291 = true then (variorumref11_Good.j0 k t285 false a0_0 a0_1 a0_2 a0_3 a0_4 a0_5 l0_6 a0_7 l0_8) else (variorumref11_Good.j0 k t285 (decide ((l0_8.length : Int) > 0)) a0_0 a0_1 a0_2 a0_3 a0_4 a0_5 l0_6 a0_7 l0_8))) else (if a0_7.toList = ([] : List UInt8) then ((variorumref11_has.f k t285 110).bind fun t292 => (if t292 = true then (variorumref11_Good.j0 k t285 false a0_0 a0_1 a0_2 a0_3 a0_4 a0_5 l0_6 a0_7 l0_8) else (variorumref11_Good.j0 k t285 (decide ((l0_8.length : Int) > 0)) a0_0 a0_1 a0_2 a0_3 a0_4 a0_5 l0_6 a0_7 l0_8))) else (variorumref11_Good.j0 k t285 true a0_0 a0_1 a0_2 a0_3 a0_4 a0_5 l0_6 a0_7 l0_8))))))))) = some r := h
 clear h
 replace H := Option.bind_eq_some_iff.mp H
 obtain ⟨t285, A20, H⟩ := H
 replace H : (if t285.toList = ([] : List UInt8) then (variorumref11_Good.j0 k t285 true a0_0 a0_1 a0_2 a0_3 a0_4 a0_5 l0_6 a0_7 l0_8) else ((variorumref11_has.f k t285 111).bind fun t286 => (if t286 = true then ((variorumref11_has.f k t285 116).bind fun t287 => (if t287 = true then ((variorumref11_has.f k t285 110).bind fun t288 => (if t288 = true then (variorumref11_Good.j0 k t285 false a0_0 a0_1 a0_2 a0_3 a0_4 a0_5 l0_6 a0_7 l0_8) else (variorumref11_Good.j0 k t285 (decide ((l0_8.length : Int) > 0)) a0_0 a0_1 a0_2 a0_3 a0_4 a0_5 l0_6 a0_7 l0_8))) else (if a0_7.toList = ([] : List UInt8) then ((variorumref11_has.f k t285 110).bind fun t289 => (if t289 = true then (variorumref11_Good.j0 k t285 false a0_0 a0_1 a0_2 a0_3 a0_4 a0_5 l0_6 a0_7 l0_8) else (variorumref11_Good.j0 k t285 (decide ((l0_8.length : Int) > 0)) a0_0 a0_1 a0_2 a0_3 a0_4 a0_5 l0_6 a0_7 l0_8))) else (variorumref11_Good.j0 k t285 true a0_0 a0_1 a0_2 a0_3 a0_4 a0_5 l0_6 a0_7 l0_8)))) else (if (l0_6.length : Int) > 0 then (variorumref11_Good.j0 k t285 true a0_0 a0_1 a0_2 a0_3 a0_4 a0_5 l0_6 a0_7 l0_8) else ((variorumref11_has.f k t285 116).bind fun t290 => (if t290 = true then ((variorumref11_has.f k t285 110).bind fun t291 => (if t291 = true then (variorumref11_Good.j0 k t285 false a0_0 a0_1 a0_2 a0_3 a0_4 a0_5 l0_6 a0_7 l0_8) else (variorumref11_Good.j0 k t285 (decide ((l0_8.length : Int) > 0)) a0_0 a0_1 a0_2 a0_3 a0_4 a0_5 l0_6 a0_7 l0_8))) else (if a0_7.toList = ([] : List UInt8) then ((variorumref11_has.f k t285 110).bind fun t292 => (if t292 = true then (variorumref11_Good.j0 k t285 false a0_0 a0_1 a0_2 a0_3 a0_4 a0_5 l0_6 a0_7 l0_8) else (variorumref11_Good.j0 k t285 (decide ((l0_8.length : Int) > 0)) a0_0 a0_1 a0_2 a0_3 a0_4 a0_5 l0_6 a0_7 l0_8))) else (variorumref11_Good.j0 k t285 true a0_0 a0_1 a0_2 a0_3 a0_4 a0_5 l0_6 a0_7 l0_8)))))))) = some r := H
 have A2 := Aside0.mk A20
 clear A20
 have HC3 := Aside0.mk H
 clear H
 go_enter Try.func24, Try.ntmps24
 go_upto_region 2 with (first | ((with_reducible refine gate_dst (N := 1) rfl ?_); (try (refine gate_guard (by rfl) ?_; dsimp only)); refine box_event ?hg (N := 1) ?hd (cs := #[.int .i64 a0_0, .int .i64 a0_1, .int .i64 a0_2, .int .i64 a0_3, .int .i64 a0_4, .int .i64 a0_5, .slice A0_6 l0_6.length c0_6, .string a0_7, .slice A0_8 l0_8.length c0_8]) (t := 44) ?hr ?_; (case hd => rfl); (case hg => rfl); (case hr => (go_simp; done)); intro gb284 hg w4 hbox hb; have n0_ := Aside0.mk (below_step (by repeat ((with_reducible (exact HB.out)))) hb); have n1_ := Aside0.mk (hbox); have n2_ := Aside0.mk ((by rw [hg]; exact (below_size (by repeat ((with_reducible (exact HB.out))))) : w.heap.size ≤ gb284)); have n3_ := Aside0.mk ((by rw [hg]; exact (below_size (by repeat ((with_reducible (exact HB.out))))) : w.heap.size ≤ gb284)); clear HB; have HB := n0_; have BK284 := n1_; have GW284 := n2_; have GE284 := n3_; clear n0_ n1_ n2_ n3_; clear hb hbox hg; have hcz5_0 : w4.cell? ⟨gb284, 0, none⟩ = some (.int .i64 a0_0) := (blk_cell BK284.out 0).trans rfl; have hcz5_1 : w4.cell? ⟨gb284, 1, none⟩ = some (.int .i64 a0_1) := (blk_cell BK284.out 1).trans rfl; have hcz5_2 : w4.cell? ⟨gb284, 2, none⟩ = some (.int .i64 a0_2) := (blk_cell BK284.out 2).trans rfl; have hcz5_3 : w4.cell? ⟨gb284, 3, none⟩ = some (.int .i64 a0_3) := (blk_cell BK284.out 3).trans rfl; have hcz5_4 : w4.cell? ⟨gb284, 4, none⟩ = some (.int .i64 a0_4) := (blk_cell BK284.out 4).trans rfl; have hcz5_5 : w4.cell? ⟨gb284, 5, none⟩ = some (.int .i64 a0_5) := (blk_cell BK284.out 5).trans rfl; have hcz5_6 : w4.cell? ⟨gb284, 6, none⟩ = some (.slice A0_6 l0_6.length c0_6) := (blk_cell BK284.out 6).trans rfl; have hcz5_7 : w4.cell? ⟨gb284, 7, none⟩ = some (.string a0_7) := (blk_cell BK284.out 7).trans rfl; have hcz5_8 : w4.cell? ⟨gb284, 8, none⟩ = some (.slice A0_8 l0_8.length c0_8) := (blk_cell BK284.out 8).trans rfl; have hfz5_0 := blk_frozen BK284.out 0; have hfz5_1 := blk_frozen BK284.out 1; have hfz5_2 := blk_frozen BK284.out 2; have hfz5_3 := blk_frozen BK284.out 3; have hfz5_4 := blk_frozen BK284.out 4; have hfz5_5 := blk_frozen BK284.out 5; have hfz5_6 := blk_frozen BK284.out 6; have hfz5_7 := blk_frozen BK284.out 7; have hfz5_8 := blk_frozen BK284.out 8) | ((with_reducible refine gate_callee (f := 63) rfl ?_); refine goesL_ (some 10) rfl rfl Try.func63 (by kernel_rfl) rfl #[.int .i64 a0_0] rfl (by (try simp only [List.map_toArray, List.map_cons, List.map_nil]); (rfl)) ?_; (with_reducible refine (variorumref11_Fields.calls a0_0 t285 _ A2.out).mono ?_); rintro e w' ⟨rfl, ⟨nd, rfl⟩⟩; refine ⟨_, rfl, ?_⟩))
 (try simp only [Act.put, List.setIfInBounds_toArray, List.set_cons_zero, List.set_cons_succ])
 go_cut [44] (fun v44 wc => ∃ (kq : Nat) (x44_2 : Bool), v44 = .bool x44_2 ∧ Aside0 (variorumref11_Good.j0 kq t285 x44_2 a0_0 a0_1 a0_2 a0_3 a0_4 a0_5 l0_6 a0_7 l0_8 = some r) ∧ Aside0 (kq ≤ k) ∧ Aside0 (wc.heap[gb284]? = some (.cells #[.int .i64 a0_0, .int .i64 a0_1, .int .i64 a0_2, .int .i64 a0_3, .int .i64 a0_4, .int .i64 a0_5, (.slice A0_6 l0_6.length c0_6), .string a0_7, (.slice A0_8 l0_8.length c0_8)] 44 (0, 0))) ∧ Aside0 (Below w.heap.size w wc))
 case first =>
  have H := HC3.out
  clear HC3
  by_cases c6 : t285.toList = ([] : List UInt8)
  ·rw [if_pos c6] at H
   have c6b0 : (t285.toList == ([] : List UInt8)) = true := beq_iff_eq.mpr c6
   have c6b1 : (t285.toList != ([] : List UInt8)) = false := bne_eq_false_iff_eq.mpr c6
   clear c6
   ((skip))
   have H' := Aside0.mk H
   clear H
   go_wp2
   go_meet
   case rel => exact ⟨_, (true), (by (rfl)), H', ⟨by (omega)⟩, ⟨by (with_reducible repeat ((refine blk_drewN ?_ _))); exact BK284.out⟩, ⟨by repeat ((with_reducible first | exact HB.out | apply pw_below_drewN))⟩⟩
  ·rw [if_neg c6] at H
   have c6b0 : (t285.toList == ([] : List UInt8)) = false := beq_eq_false_iff_ne.mpr c6
   have c6b1 : (t285.toList != ([] : List UInt8)) = true := bne_iff_ne.mpr c6
   ((skip))
   replace H := Option.bind_eq_some_iff.mp H
   obtain ⟨t286, A70, H⟩ := H
   replace H : (if t286 = true then ((variorumref11_has.f k t285 116).bind fun t287 => (if t287 = true then ((variorumref11_has.f k t285 110).bind fun t288 => (if t288 = true then (variorumref11_Good.j0 k t285 false a0_0 a0_1 a0_2 a0_3 a0_4 a0_5 l0_6 a0_7 l0_8) else (variorumref11_Good.j0 k t285 (decide ((l0_8.length : Int) > 0)) a0_0 a0_1 a0_2 a0_3 a0_4 a0_5 l0_6 a0_7 l0_8))) else (if a0_7.toList = ([] : List UInt8) then ((variorumref11_has.f k t285 110).bind fun t289 => (if t289 = true then (variorumref11_Good.j0 k t285 false a0_0 a0_1 a0_2 a0_3 a0_4 a0_5 l0_6 a0_7 l0_8) else (variorumref11_Good.j0 k t285 (decide ((l0_8.length : Int) > 0)) a0_0 a0_1 a0_2 a0_3 a0_4 a0_5 l0_6 a0_7 l0_8))) else (variorumref11_Good.j0 k t285 true a0_0 a0_1 a0_2 a0_3 a0_4 a0_5 l0_6 a0_7 l0_8)))) else (if (l0_6.length : Int) > 0 then (variorumref11_Good.j0 k t285 true a0_0 a0_1 a0_2 a0_3 a0_4 a0_5 l0_6 a0_7 l0_8) else ((variorumref11_has.f k t285 116).bind fun t290 => (if t290 = true then ((variorumref11_has.f k t285 110).bind fun t291 => (if t291 = true then (variorumref11_Good.j0 k t285 false a0_0 a0_1 a0_2 a0_3 a0_4 a0_5 l0_6 a0_7 l0_8) else (variorumref11_Good.j0 k t285 (decide ((l0_8.length : Int) > 0)) a0_0 a0_1 a0_2 a0_3 a0_4 a0_5 l0_6 a0_7 l0_8))) else (if a0_7.toList = ([] : List UInt8) then ((variorumref11_has.f k t285 110).bind fun t292 => (if t292 = true then (variorumref11_Good.j0 k t285 false a0_0 a0_1 a0_2 a0_3 a0_4 a0_5 l0_6 a0_7 l0_8) else (variorumref11_Good.j0 k t285 (decide ((l0_8.length : Int) > 0)) a0_0 a0_1 a0_2 a0_3 a0_4 a0_5 l0_6 a0_7 l0_8))) else (variorumref11_Good.j0 k t285 true a0_0 a0_1 a0_2 a0_3 a0_4 a0_5 l0_6 a0_7 l0_8)))))) = some r := H
   have A7 := Aside0.mk A70
   clear A70
   by_cases c8 : t286 = true
   ·subst c8
    have H1 : ((variorumref11_has.f k t285 116).bind fun t287 => (if t287 = true then ((variorumref11_has.f k t285 110).bind fun t288 => (if t288 = true then (variorumref11_Good.j0 k t285 false a0_0 a0_1 a0_2 a0_3 a0_4 a0_5 l0_6 a0_7 l0_8) else (variorumref11_Good.j0 k t285 (decide ((l0_8.length : Int) > 0)) a0_0 a0_1 a0_2 a0_3 a0_4 a0_5 l0_6 a0_7 l0_8))) else (if a0_7.toList = ([] : List UInt8) then ((variorumref11_has.f k t285 110).bind fun t289 => (if t289 = true then (variorumref11_Good.j0 k t285 false a0_0 a0_1 a0_2 a0_3 a0_4 a0_5 l0_6 a0_7 l0_8) else (variorumref11_Good.j0 k t285 (decide ((l0_8.length : Int) > 0)) a0_0 a0_1 a0_2 a0_3 a0_4 a0_5 l0_6 a0_7 l0_8))) else (variorumref11_Good.j0 k t285 true a0_0 a0_1 a0_2 a0_3 a0_4 a0_5 l0_6 a0_7 l0_8)))) = some r := by rw [if_pos rfl] at H; exact H
    clear H
    have H := H1
    clear H1
    replace H := Option.bind_eq_some_iff.mp H
    obtain ⟨t287, A90, H⟩ := H
    replace H : (if t287 = true then ((variorumref11_has.f k t285 110).bind fun t288 => (if t288 = true then (variorumref11_Good.j0 k t285 false a0_0 a0_1 a0_2 a0_3 a0_4 a0_5 l0_6 a0_7 l0_8) else (variorumref11_Good.j0 k t285 (decide ((l0_8.length : Int) > 0)) a0_0 a0_1 a0_2 a0_3 a0_4 a0_5 l0_6 a0_7 l0_8))) else (if a0_7.toList = ([] : List UInt8) then ((variorumref11_has.f k t285 110).bind fun t289 => (if t289 = true then (variorumref11_Good.j0 k t285 false a0_0 a0_1 a0_2 a0_3 a0_4 a0_5 l0_6 a0_7 l0_8) else (variorumref11_Good.j0 k t285 (decide ((l0_8.length : Int) > 0)) a0_0 a0_1 a0_2 a0_3 a0_4 a0_5 l0_6 a0_7 l0_8))) else (variorumref11_Good.j0 k t285 true a0_0 a0_1 a0_2 a0_3 a0_4 a0_5 l0_6 a0_7 l0_8))) = some r := H
    have A9 := Aside0.mk A90
    clear A90
    by_cases c10 : t287 = true
    ·subst c10
     have H1 : ((variorumref11_has.f k t285 110).bind fun t288 => (if t288 = true then (variorumref11_Good.j0 k t285 false a0_0 a0_1 a0_2 a0_3 a0_4 a0_5 l0_6 a0_7 l0_8) else (variorumref11_Good.j0 k t285 (decide ((l0_8.length : Int) > 0)) a0_0 a0_1 a0_2 a0_3 a0_4 a0_5 l0_6 a0_7 l0_8))) = some r := by rw [if_pos rfl] at H; exact H
     clear H
     have H := H1
     clear H1
     replace H := Option.bind_eq_some_iff.mp H
     obtain ⟨t288, A110, H⟩ := H
     replace H : (if t288 = true then (variorumref11_Good.j0 k t285 false a0_0 a0_1 a0_2 a0_3 a0_4 a0_5 l0_6 a0_7 l0_8) else (variorumref11_Good.j0 k t285 (decide ((l0_8.length : Int) > 0)) a0_0 a0_1 a0_2 a0_3 a0_4 a0_5 l0_6 a0_7 l0_8)) = some r := H
     have A11 := Aside0.mk A110
     clear A110
     by_cases c12 : t288 = true
     ·subst c12
      have H1 : (variorumref11_Good.j0 k t285 false a0_0 a0_1 a0_2 a0_3 a0_4 a0_5 l0_6 a0_7 l0_8) = some r := by rw [if_pos rfl] at H; exact H
      clear H
      have H := H1
      clear H1
      have H' := Aside0.mk H
      clear H
      try have qq0 : x5_2 < (5 : Int) := of_decide_eq_true (by assumption)
      try have qq1 : ¬ x5_2 < (5 : Int) := of_decide_eq_false (by assumption)
      go_wp2_with (first | (go_at_call 68; (with_reducible refine (variorumref11_has.calls k t285 111 true _ A7.out).mono ?_); rintro e w' ⟨rfl, ⟨nd, rfl⟩⟩) | (go_at_call 68; (with_reducible refine (variorumref11_has.calls k t285 116 true _ A9.out).mono ?_); rintro e w' ⟨rfl, ⟨nd, rfl⟩⟩) | (go_at_call 68; (with_reducible refine (variorumref11_has.calls k t285 110 true _ A11.out).mono ?_); rintro e w' ⟨rfl, ⟨nd, rfl⟩⟩))
      go_meet
      case rel => exact ⟨_, (false), (by (rfl)), H', ⟨by (omega)⟩, ⟨by (with_reducible repeat ((refine blk_drewN ?_ _))); exact BK284.out⟩, ⟨by repeat ((with_reducible first | exact HB.out | apply pw_below_drewN))⟩⟩
     ·replace c12 := Bool.eq_false_iff.mpr c12
      subst c12
      have H1 : (variorumref11_Good.j0 k t285 (decide ((l0_8.length : Int) > 0)) a0_0 a0_1 a0_2 a0_3 a0_4 a0_5 l0_6 a0_7 l0_8) = some r := by rw [if_neg (show ¬ (false = true) by decide)] at H; exact H
      clear H
      have H := H1
      clear H1
      have H' := Aside0.mk H
      clear H
      try have qq0 : x5_2 < (5 : Int) := of_decide_eq_true (by assumption)
      try have qq1 : ¬ x5_2 < (5 : Int) := of_decide_eq_false (by assumption)
      go_wp2_with (first | (go_at_call 68; (with_reducible refine (variorumref11_has.calls k t285 111 true _ A7.out).mono ?_); rintro e w' ⟨rfl, ⟨nd, rfl⟩⟩) | (go_at_call 68; (with_reducible refine (variorumref11_has.calls k t285 116 true _ A9.out).mono ?_); rintro e w' ⟨rfl, ⟨nd, rfl⟩⟩) | (go_at_call 68; (with_reducible refine (variorumref11_has.calls k t285 110 false _ A11.out).mono ?_); rintro e w' ⟨rfl, ⟨nd, rfl⟩⟩; have hcz13_0 : w4.cell? ⟨gb284, 0, none⟩ = some (.int .i64 a0_0) := (blk_cell BK284.out 0).trans rfl; have hcz13_1 : w4.cell? ⟨gb284, 1, none⟩ = some (.int .i64 a0_1) := (blk_cell BK284.out 1).trans rfl; have hcz13_2 : w4.cell? ⟨gb284, 2, none⟩ = some (.int .i64 a0_2) := (blk_cell BK284.out 2).trans rfl; have hcz13_3 : w4.cell? ⟨gb284, 3, none⟩ = some (.int .i64 a0_3) := (blk_cell BK284.out 3).trans rfl; have hcz13_4 : w4.cell? ⟨gb284, 4, none⟩ = some (.int .i64 a0_4) := (blk_cell BK284.out 4).trans rfl; have hcz13_5 : w4.cell? ⟨gb284, 5, none⟩ = some (.int .i64 a0_5) := (blk_cell BK284.out 5).trans rfl; have hcz13_6 : w4.cell? ⟨gb284, 6, none⟩ = some (.slice A0_6 l0_6.length c0_6) := (blk_cell BK284.out 6).trans rfl; have hcz13_7 : w4.cell? ⟨gb284, 7, none⟩ = some (.string a0_7) := (blk_cell BK284.out 7).trans rfl; have hcz13_8 : w4.cell? ⟨gb284, 8, none⟩ = some (.slice A0_8 l0_8.length c0_8) := (blk_cell BK284.out 8).trans rfl; have hfz13_0 := blk_frozen BK284.out 0; have hfz13_1 := blk_frozen BK284.out 1; have hfz13_2 := blk_frozen BK284.out 2; have hfz13_3 := blk_frozen BK284.out 3; have hfz13_4 := blk_frozen BK284.out 4; have hfz13_5 := blk_frozen BK284.out 5; have hfz13_6 := blk_frozen BK284.out 6; have hfz13_7 := blk_frozen BK284.out 7; have hfz13_8 := blk_frozen BK284.out 8))
      go_meet
      case rel => exact ⟨_, (decide ((l0_8.length : Int) > 0)), (by (simp; done)), H', ⟨by (omega)⟩, ⟨by (with_reducible repeat ((refine blk_drewN ?_ _))); exact BK284.out⟩, ⟨by repeat ((with_reducible first | exact HB.out | apply pw_below_drewN))⟩⟩
    ·replace c10 := Bool.eq_false_iff.mpr c10
     subst c10
     have H1 : (if a0_7.toList = ([] : List UInt8) then ((variorumref11_has.f k t285 110).bind fun t289 => (if t289 = true then (variorumref11_Good.j0 k t285 false a0_0 a0_1 a0_2 a0_3 a0_4 a0_5 l0_6 a0_7 l0_8) else (variorumref11_Good.j0 k t285 (decide ((l0_8.length : Int) > 0)) a0_0 a0_1 a0_2 a0_3 a0_4 a0_5 l0_6 a0_7 l0_8))) else (variorumref11_Good.j0 k t285 true a0_0 a0_1 a0_2 a0_3 a0_4 a0_5 l0_6 a0_7 l0_8)) = some r := by rw [if_neg (show ¬ (false = true) by decide)] at H; exact H
     clear H
     have H := H1
     clear H1
     by_cases c14 : a0_7.toList = ([] : List UInt8)
     ·rw [if_pos c14] at H
      have c14b0 : (a0_7.toList == ([] : List UInt8)) = true := beq_iff_eq.mpr c14
      have c14b1 : (a0_7.toList != ([] : List UInt8)) = false := bne_eq_false_iff_eq.mpr c14
      clear c14
      replace H := Option.bind_eq_some_iff.mp H
      obtain ⟨t289, A150, H⟩ := H
      replace H : (if t289 = true then (variorumref11_Good.j0 k t285 false a0_0 a0_1 a0_2 a0_3 a0_4 a0_5 l0_6 a0_7 l0_8) else (variorumref11_Good.j0 k t285 (decide ((l0_8.length : Int) > 0)) a0_0 a0_1 a0_2 a0_3 a0_4 a0_5 l0_6 a0_7 l0_8)) = some r := H
      have A15 := Aside0.mk A150
      clear A150
      by_cases c16 : t289 = true
      ·subst c16
       have H1 : (variorumref11_Good.j0 k t285 false a0_0 a0_1 a0_2 a0_3 a0_4 a0_5 l0_6 a0_7 l0_8) = some r := by rw [if_pos rfl] at H; exact H
       clear H
       have H := H1
       clear H1
       have H' := Aside0.mk H
       clear H
       try have qq0 : x5_2 < (5 : Int) := of_decide_eq_true (by assumption)
       try have qq1 : ¬ x5_2 < (5 : Int) := of_decide_eq_false (by assumption)
       go_wp2_with (first | (go_at_call 68; (with_reducible refine (variorumref11_has.calls k t285 111 true _ A7.out).mono ?_); rintro e w' ⟨rfl, ⟨nd, rfl⟩⟩) | (go_at_call 68; (with_reducible refine (variorumref11_has.calls k t285 116 false _ A9.out).mono ?_); rintro e w' ⟨rfl, ⟨nd, rfl⟩⟩; have hcz17_0 : w4.cell? ⟨gb284, 0, none⟩ = some (.int .i64 a0_0) := (blk_cell BK284.out 0).trans rfl; have hcz17_1 : w4.cell? ⟨gb284, 1, none⟩ = some (.int .i64 a0_1) := (blk_cell BK284.out 1).trans rfl; have hcz17_2 : w4.cell? ⟨gb284, 2, none⟩ = some (.int .i64 a0_2) := (blk_cell BK284.out 2).trans rfl; have hcz17_3 : w4.cell? ⟨gb284, 3, none⟩ = some (.int .i64 a0_3) := (blk_cell BK284.out 3).trans rfl; have hcz17_4 : w4.cell? ⟨gb284, 4, none⟩ = some (.int .i64 a0_4) := (blk_cell BK284.out 4).trans rfl; have hcz17_5 : w4.cell? ⟨gb284, 5, none⟩ = some (.int .i64 a0_5) := (blk_cell BK284.out 5).trans rfl; have hcz17_6 : w4.cell? ⟨gb284, 6, none⟩ = some (.slice A0_6 l0_6.length c0_6) := (blk_cell BK284.out 6).trans rfl; have hcz17_7 : w4.cell? ⟨gb284, 7, none⟩ = some (.string a0_7) := (blk_cell BK284.out 7).trans rfl; have hcz17_8 : w4.cell? ⟨gb284, 8, none⟩ = some (.slice A0_8 l0_8.length c0_8) := (blk_cell BK284.out 8).trans rfl; have hfz17_0 := blk_frozen BK284.out 0; have hfz17_1 := blk_frozen BK284.out 1; have hfz17_2 := blk_frozen BK284.out 2; have hfz17_3 := blk_frozen BK284.out 3; have hfz17_4 := blk_frozen BK284.out 4; have hfz17_5 := blk_frozen BK284.out 5; have hfz17_6 := blk_frozen BK284.out 6; have hfz17_7 := blk_frozen BK284.out 7; have hfz17_8 := blk_frozen BK284.out 8) | (go_at_call 68; (with_reducible refine (variorumref11_has.calls k t285 110 true _ A15.out).mono ?_); rintro e w' ⟨rfl, ⟨nd, rfl⟩⟩))
       go_meet
       case rel => exact ⟨_, (false), (by (rfl)), H', ⟨by (omega)⟩, ⟨by (with_reducible repeat ((refine blk_drewN ?_ _))); exact BK284.out⟩, ⟨by repeat ((with_reducible first | exact HB.out | apply pw_below_drewN))⟩⟩
      ·replace c16 := Bool.eq_false_iff.mpr c16
       subst c16
       have H1 : (variorumref11_Good.j0 k t285 (decide ((l0_8.length : Int) > 0)) a0_0 a0_1 a0_2 a0_3 a0_4 a0_5 l0_6 a0_7 l0_8) = some r := by rw [if_neg (show ¬ (false = true) by decide)] at H; exact H
       clear H
       have H := H1
       clear H1
       have H' := Aside0.mk H
       clear H
       try have qq0 : x5_2 < (5 : Int) := of_decide_eq_true (by assumption)
       try have qq1 : ¬ x5_2 < (5 : Int) := of_decide_eq_false (by assumption)
       go_wp2_with (first | (go_at_call 68; (with_reducible refine (variorumref11_has.calls k t285 111 true _ A7.out).mono ?_); rintro e w' ⟨rfl, ⟨nd, rfl⟩⟩) | (go_at_call 68; (with_reducible refine (variorumref11_has.calls k t285 116 false _ A9.out).mono ?_); rintro e w' ⟨rfl, ⟨nd, rfl⟩⟩; have hcz18_0 : w4.cell? ⟨gb284, 0, none⟩ = some (.int .i64 a0_0) := (blk_cell BK284.out 0).trans rfl; have hcz18_1 : w4.cell? ⟨gb284, 1, none⟩ = some (.int .i64 a0_1) := (blk_cell BK284.out 1).trans rfl; have hcz18_2 : w4.cell? ⟨gb284, 2, none⟩ = some (.int .i64 a0_2) := (blk_cell BK284.out 2).trans rfl; have hcz18_3 : w4.cell? ⟨gb284, 3, none⟩ = some (.int .i64 a0_3) := (blk_cell BK284.out 3).trans rfl; have hcz18_4 : w4.cell? ⟨gb284, 4, none⟩ = some (.int .i64 a0_4) := (blk_cell BK284.out 4).trans rfl; have hcz18_5 : w4.cell? ⟨gb284, 5, none⟩ = some (.int .i64 a0_5) := (blk_cell BK284.out 5).trans rfl; have hcz18_6 : w4.cell? ⟨gb284, 6, none⟩ = some (.slice A0_6 l0_6.length c0_6) := (blk_cell BK284.out 6).trans rfl; have hcz18_7 : w4.cell? ⟨gb284, 7, none⟩ = some (.string a0_7) := (blk_cell BK284.out 7).trans rfl; have hcz18_8 : w4.cell? ⟨gb284, 8, none⟩ = some (.slice A0_8 l0_8.length c0_8) := (blk_cell BK284.out 8).trans rfl; have hfz18_0 := blk_frozen BK284.out 0; have hfz18_1 := blk_frozen BK284.out 1; have hfz18_2 := blk_frozen BK284.out 2; have hfz18_3 := blk_frozen BK284.out 3; have hfz18_4 := blk_frozen BK284.out 4; have hfz18_5 := blk_frozen BK284.out 5; have hfz18_6 := blk_frozen BK284.out 6; have hfz18_7 := blk_frozen BK284.out 7; have hfz18_8 := blk_frozen BK284.out 8) | (go_at_call 68; (with_reducible refine (variorumref11_has.calls k t285 110 false _ A15.out).mono ?_); rintro e w' ⟨rfl, ⟨nd, rfl⟩⟩))
       go_meet
       case rel => exact ⟨_, (decide ((l0_8.length : Int) > 0)), (by (simp; done)), H', ⟨by (omega)⟩, ⟨by (with_reducible repeat ((refine blk_drewN ?_ _))); exact BK284.out⟩, ⟨by repeat ((with_reducible first | exact HB.out | apply pw_below_drewN))⟩⟩
     ·rw [if_neg c14] at H
      have c14b0 : (a0_7.toList == ([] : List UInt8)) = false := beq_eq_false_iff_ne.mpr c14
      have c14b1 : (a0_7.toList != ([] : List UInt8)) = true := bne_iff_ne.mpr c14
      have H' := Aside0.mk H
      clear H
      try have qq0 : x5_2 < (5 : Int) := of_decide_eq_true (by assumption)
      try have qq1 : ¬ x5_2 < (5 : Int) := of_decide_eq_false (by assumption)
      go_wp2_with (first | (go_at_call 68; (with_reducible refine (variorumref11_has.calls k t285 111 true _ A7.out).mono ?_); rintro e w' ⟨rfl, ⟨nd, rfl⟩⟩) | (go_at_call 68; (with_reducible refine (variorumref11_has.calls k t285 116 false _ A9.out).mono ?_); rintro e w' ⟨rfl, ⟨nd, rfl⟩⟩; have hcz19_0 : w4.cell? ⟨gb284, 0, none⟩ = some (.int .i64 a0_0) := (blk_cell BK284.out 0).trans rfl; have hcz19_1 : w4.cell? ⟨gb284, 1, none⟩ = some (.int .i64 a0_1) := (blk_cell BK284.out 1).trans rfl; have hcz19_2 : w4.cell? ⟨gb284, 2, none⟩ = some (.int .i64 a0_2) := (blk_cell BK284.out 2).trans rfl; have hcz19_3 : w4.cell? ⟨gb284, 3, none⟩ = some (.int .i64 a0_3) := (blk_cell BK284.out 3).trans rfl; have hcz19_4 : w4.cell? ⟨gb284, 4, none⟩ = some (.int .i64 a0_4) := (blk_cell BK284.out 4).trans rfl; have hcz19_5 : w4.cell? ⟨gb284, 5, none⟩ = some (.int .i64 a0_5) := (blk_cell BK284.out 5).trans rfl; have hcz19_6 : w4.cell? ⟨gb284, 6, none⟩ = some (.slice A0_6 l0_6.length c0_6) := (blk_cell BK284.out 6).trans rfl; have hcz19_7 : w4.cell? ⟨gb284, 7, none⟩ = some (.string a0_7) := (blk_cell BK284.out 7).trans rfl; have hcz19_8 : w4.cell? ⟨gb284, 8, none⟩ = some (.slice A0_8 l0_8.length c0_8) := (blk_cell BK284.out 8).trans rfl; have hfz19_0 := blk_frozen BK284.out 0; have hfz19_1 := blk_frozen BK284.out 1; have hfz19_2 := blk_frozen BK284.out 2; have hfz19_3 := blk_frozen BK284.out 3; have hfz19_4 := blk_frozen BK284.out 4; have hfz19_5 := blk_frozen BK284.out 5; have hfz19_6 := blk_frozen BK284.out 6; have hfz19_7 := blk_frozen BK284.out 7; have hfz19_8 := blk_frozen BK284.out 8))
      go_meet
      case rel => exact ⟨_, (true), (by (rfl)), H', ⟨by (omega)⟩, ⟨by (with_reducible repeat ((refine blk_drewN ?_ _))); exact BK284.out⟩, ⟨by repeat ((with_reducible first | exact HB.out | apply pw_below_drewN))⟩⟩
   ·replace c8 := Bool.eq_false_iff.mpr c8
    subst c8
    have H1 : (if (l0_6.length : Int) > 0 then (variorumref11_Good.j0 k t285 true a0_0 a0_1 a0_2 a0_3 a0_4 a0_5 l0_6 a0_7 l0_8) else ((variorumref11_has.f k t285 116).bind fun t290 => (if t290 = true then ((variorumref11_has.f k t285 110).bind fun t291 => (if t291 = true then (variorumref11_Good.j0 k t285 false a0_0 a0_1 a0_2 a0_3 a0_4 a0_5 l0_6 a0_7 l0_8) else (variorumref11_Good.j0 k t285 (decide ((l0_8.length : Int) > 0)) a0_0 a0_1 a0_2 a0_3 a0_4 a0_5 l0_6 a0_7 l0_8))) else (if a0_7.toList = ([] : List UInt8) then ((variorumref11_has.f k t285 110).bind fun t292 => (if t292 = true then (variorumref11_Good.j0 k t285 false a0_0 a0_1 a0_2 a0_3 a0_4 a0_5 l0_6 a0_7 l0_8) else (variorumref11_Good.j0 k t285 (decide ((l0_8.length : Int) > 0)) a0_0 a0_1 a0_2 a0_3 a0_4 a0_5 l0_6 a0_7 l0_8))) else (variorumref11_Good.j0 k t285 true a0_0 a0_1 a0_2 a0_3 a0_4 a0_5 l0_6 a0_7 l0_8))))) = some r := by rw [if_neg (show ¬ (false = true) by decide)] at H; exact H
    clear H
    have H := H1
    clear H1
    by_cases c20 : (l0_6.length : Int) > 0
    ·rw [if_pos c20] at H
     have c20b0 : decide (0 < (l0_6.length : Int)) = true := decide_eq_true c20
     have c20b1 : decide (0 < l0_6.length) = true := decide_eq_true (by omega)
     clear c20
     have H' := Aside0.mk H
     clear H
     try have qq0 : x5_2 < (5 : Int) := of_decide_eq_true (by assumption)
     try have qq1 : ¬ x5_2 < (5 : Int) := of_decide_eq_false (by assumption)
     go_wp2_with (first | (go_at_call 68; (with_reducible refine (variorumref11_has.calls k t285 111 false _ A7.out).mono ?_); rintro e w' ⟨rfl, ⟨nd, rfl⟩⟩; have hcz21_0 : w4.cell? ⟨gb284, 0, none⟩ = some (.int .i64 a0_0) := (blk_cell BK284.out 0).trans rfl; have hcz21_1 : w4.cell? ⟨gb284, 1, none⟩ = some (.int .i64 a0_1) := (blk_cell BK284.out 1).trans rfl; have hcz21_2 : w4.cell? ⟨gb284, 2, none⟩ = some (.int .i64 a0_2) := (blk_cell BK284.out 2).trans rfl; have hcz21_3 : w4.cell? ⟨gb284, 3, none⟩ = some (.int .i64 a0_3) := (blk_cell BK284.out 3).trans rfl; have hcz21_4 : w4.cell? ⟨gb284, 4, none⟩ = some (.int .i64 a0_4) := (blk_cell BK284.out 4).trans rfl; have hcz21_5 : w4.cell? ⟨gb284, 5, none⟩ = some (.int .i64 a0_5) := (blk_cell BK284.out 5).trans rfl; have hcz21_6 : w4.cell? ⟨gb284, 6, none⟩ = some (.slice A0_6 l0_6.length c0_6) := (blk_cell BK284.out 6).trans rfl; have hcz21_7 : w4.cell? ⟨gb284, 7, none⟩ = some (.string a0_7) := (blk_cell BK284.out 7).trans rfl; have hcz21_8 : w4.cell? ⟨gb284, 8, none⟩ = some (.slice A0_8 l0_8.length c0_8) := (blk_cell BK284.out 8).trans rfl; have hfz21_0 := blk_frozen BK284.out 0; have hfz21_1 := blk_frozen BK284.out 1; have hfz21_2 := blk_frozen BK284.out 2; have hfz21_3 := blk_frozen BK284.out 3; have hfz21_4 := blk_frozen BK284.out 4; have hfz21_5 := blk_frozen BK284.out 5; have hfz21_6 := blk_frozen BK284.out 6; have hfz21_7 := blk_frozen BK284.out 7; have hfz21_8 := blk_frozen BK284.out 8))
     go_meet
     case rel => exact ⟨_, (true), (by (rfl)), H', ⟨by (omega)⟩, ⟨by (with_reducible repeat ((refine blk_drewN ?_ _))); exact BK284.out⟩, ⟨by repeat ((with_reducible first | exact HB.out | apply pw_below_drewN))⟩⟩
    ·rw [if_neg c20] at H
     have c20b0 : decide (0 < (l0_6.length : Int)) = false := decide_eq_false c20
     have c20b1 : decide (0 < l0_6.length) = false := decide_eq_false (by omega)
     clear c20
     replace H := Option.bind_eq_some_iff.mp H
     obtain ⟨t290, A220, H⟩ := H
     replace H : (if t290 = true then ((variorumref11_has.f k t285 110).bind fun t291 => (if t291 = true then (variorumref11_Good.j0 k t285 false a0_0 a0_1 a0_2 a0_3 a0_4 a0_5 l0_6 a0_7 l0_8) else (variorumref11_Good.j0 k t285 (decide ((l0_8.length : Int) > 0)) a0_0 a0_1 a0_2 a0_3 a0_4 a0_5 l0_6 a0_7 l0_8))) else (if a0_7.toList = ([] : List UInt8) then ((variorumref11_has.f k t285 110).bind fun t292 => (if t292 = true then (variorumref11_Good.j0 k t285 false a0_0 a0_1 a0_2 a0_3 a0_4 a0_5 l0_6 a0_7 l0_8) else (variorumref11_Good.j0 k t285 (decide ((l0_8.length : Int) > 0)) a0_0 a0_1 a0_2 a0_3 a0_4 a0_5 l0_6 a0_7 l0_8))) else (variorumref11_Good.j0 k t285 true a0_0 a0_1 a0_2 a0_3 a0_4 a0_5 l0_6 a0_7 l0_8))) = some r := H
     have A22 := Aside0.mk A220
     clear A220
     by_cases c23 : t290 = true
     ·subst c23
      have H1 : ((variorumref11_has.f k t285 110).bind fun t291 => (if t291 = true then (variorumref11_Good.j0 k t285 false a0_0 a0_1 a0_2 a0_3 a0_4 a0_5 l0_6 a0_7 l0_8) else (variorumref11_Good.j0 k t285 (decide ((l0_8.length : Int) > 0)) a0_0 a0_1 a0_2 a0_3 a0_4 a0_5 l0_6 a0_7 l0_8))) = some r := by rw [if_pos rfl] at H; exact H
      clear H
      have H := H1
      clear H1
      replace H := Option.bind_eq_some_iff.mp H
      obtain ⟨t291, A240, H⟩ := H
      replace H : (if t291 = true then (variorumref11_Good.j0 k t285 false a0_0 a0_1 a0_2 a0_3 a0_4 a0_5 l0_6 a0_7 l0_8) else (variorumref11_Good.j0 k t285 (decide ((l0_8.length : Int) > 0)) a0_0 a0_1 a0_2 a0_3 a0_4 a0_5 l0_6 a0_7 l0_8)) = some r := H
      have A24 := Aside0.mk A240
      clear A240
      by_cases c25 : t291 = true
      ·subst c25
       have H1 : (variorumref11_Good.j0 k t285 false a0_0 a0_1 a0_2 a0_3 a0_4 a0_5 l0_6 a0_7 l0_8) = some r := by rw [if_pos rfl] at H; exact H
       clear H
       have H := H1
       clear H1
       have H' := Aside0.mk H
       clear H
       try have qq0 : x5_2 < (5 : Int) := of_decide_eq_true (by assumption)
       try have qq1 : ¬ x5_2 < (5 : Int) := of_decide_eq_false (by assumption)
       go_wp2_with (first | (go_at_call 68; (with_reducible refine (variorumref11_has.calls k t285 111 false _ A7.out).mono ?_); rintro e w' ⟨rfl, ⟨nd, rfl⟩⟩; have hcz26_0 : w4.cell? ⟨gb284, 0, none⟩ = some (.int .i64 a0_0) := (blk_cell BK284.out 0).trans rfl; have hcz26_1 : w4.cell? ⟨gb284, 1, none⟩ = some (.int .i64 a0_1) := (blk_cell BK284.out 1).trans rfl; have hcz26_2 : w4.cell? ⟨gb284, 2, none⟩ = some (.int .i64 a0_2) := (blk_cell BK284.out 2).trans rfl; have hcz26_3 : w4.cell? ⟨gb284, 3, none⟩ = some (.int .i64 a0_3) := (blk_cell BK284.out 3).trans rfl; have hcz26_4 : w4.cell? ⟨gb284, 4, none⟩ = some (.int .i64 a0_4) := (blk_cell BK284.out 4).trans rfl; have hcz26_5 : w4.cell? ⟨gb284, 5, none⟩ = some (.int .i64 a0_5) := (blk_cell BK284.out 5).trans rfl; have hcz26_6 : w4.cell? ⟨gb284, 6, none⟩ = some (.slice A0_6 l0_6.length c0_6) := (blk_cell BK284.out 6).trans rfl; have hcz26_7 : w4.cell? ⟨gb284, 7, none⟩ = some (.string a0_7) := (blk_cell BK284.out 7).trans rfl; have hcz26_8 : w4.cell? ⟨gb284, 8, none⟩ = some (.slice A0_8 l0_8.length c0_8) := (blk_cell BK284.out 8).trans rfl; have hfz26_0 := blk_frozen BK284.out 0; have hfz26_1 := blk_frozen BK284.out 1; have hfz26_2 := blk_frozen BK284.out 2; have hfz26_3 := blk_frozen BK284.out 3; have hfz26_4 := blk_frozen BK284.out 4; have hfz26_5 := blk_frozen BK284.out 5; have hfz26_6 := blk_frozen BK284.out 6; have hfz26_7 := blk_frozen BK284.out 7; have hfz26_8 := blk_frozen BK284.out 8) | (go_at_call 68; (with_reducible refine (variorumref11_has.calls k t285 116 true _ A22.out).mono ?_); rintro e w' ⟨rfl, ⟨nd, rfl⟩⟩) | (go_at_call 68; (with_reducible refine (variorumref11_has.calls k t285 110 true _ A24.out).mono ?_); rintro e w' ⟨rfl, ⟨nd, rfl⟩⟩))
       go_meet
       case rel => exact ⟨_, (false), (by (rfl)), H', ⟨by (omega)⟩, ⟨by (with_reducible repeat ((refine blk_drewN ?_ _))); exact BK284.out⟩, ⟨by repeat ((with_reducible first | exact HB.out | apply pw_below_drewN))⟩⟩
      ·replace c25 := Bool.eq_false_iff.mpr c25
       subst c25
       have H1 : (variorumref11_Good.j0 k t285 (decide ((l0_8.length : Int) > 0)) a0_0 a0_1 a0_2 a0_3 a0_4 a0_5 l0_6 a0_7 l0_8) = some r := by rw [if_neg (show ¬ (false = true) by decide)] at H; exact H
       clear H
       have H := H1
       clear H1
       have H' := Aside0.mk H
       clear H
       try have qq0 : x5_2 < (5 : Int) := of_decide_eq_true (by assumption)
       try have qq1 : ¬ x5_2 < (5 : Int) := of_decide_eq_false (by assumption)
       go_wp2_with (first | (go_at_call 68; (with_reducible refine (variorumref11_has.calls k t285 111 false _ A7.out).mono ?_); rintro e w' ⟨rfl, ⟨nd, rfl⟩⟩; have hcz27_0 : w4.cell? ⟨gb284, 0, none⟩ = some (.int .i64 a0_0) := (blk_cell BK284.out 0).trans rfl; have hcz27_1 : w4.cell? ⟨gb284, 1, none⟩ = some (.int .i64 a0_1) := (blk_cell BK284.out 1).trans rfl; have hcz27_2 : w4.cell? ⟨gb284, 2, none⟩ = some (.int .i64 a0_2) := (blk_cell BK284.out 2).trans rfl; have hcz27_3 : w4.cell? ⟨gb284, 3, none⟩ = some (.int .i64 a0_3) := (blk_cell BK284.out 3).trans rfl; have hcz27_4 : w4.cell? ⟨gb284, 4, none⟩ = some (.int .i64 a0_4) := (blk_cell BK284.out 4).trans rfl; have hcz27_5 : w4.cell? ⟨gb284, 5, none⟩ = some (.int .i64 a0_5) := (blk_cell BK284.out 5).trans rfl; have hcz27_6 : w4.cell? ⟨gb284, 6, none⟩ = some (.slice A0_6 l0_6.length c0_6) := (blk_cell BK284.out 6).trans rfl; have hcz27_7 : w4.cell? ⟨gb284, 7, none⟩ = some (.string a0_7) := (blk_cell BK284.out 7).trans rfl; have hcz27_8 : w4.cell? ⟨gb284, 8, none⟩ = some (.slice A0_8 l0_8.length c0_8) := (blk_cell BK284.out 8).trans rfl; have hfz27_0 := blk_frozen BK284.out 0; have hfz27_1 := blk_frozen BK284.out 1; have hfz27_2 := blk_frozen BK284.out 2; have hfz27_3 := blk_frozen BK284.out 3; have hfz27_4 := blk_frozen BK284.out 4; have hfz27_5 := blk_frozen BK284.out 5; have hfz27_6 := blk_frozen BK284.out 6; have hfz27_7 := blk_frozen BK284.out 7; have hfz27_8 := blk_frozen BK284.out 8) | (go_at_call 68; (with_reducible refine (variorumref11_has.calls k t285 116 true _ A22.out).mono ?_); rintro e w' ⟨rfl, ⟨nd, rfl⟩⟩) | (go_at_call 68; (with_reducible refine (variorumref11_has.calls k t285 110 false _ A24.out).mono ?_); rintro e w' ⟨rfl, ⟨nd, rfl⟩⟩))
       go_meet
       case rel => exact ⟨_, (decide ((l0_8.length : Int) > 0)), (by (simp; done)), H', ⟨by (omega)⟩, ⟨by (with_reducible repeat ((refine blk_drewN ?_ _))); exact BK284.out⟩, ⟨by repeat ((with_reducible first | exact HB.out | apply pw_below_drewN))⟩⟩
     ·replace c23 := Bool.eq_false_iff.mpr c23
      subst c23
      have H1 : (if a0_7.toList = ([] : List UInt8) then ((variorumref11_has.f k t285 110).bind fun t292 => (if t292 = true then (variorumref11_Good.j0 k t285 false a0_0 a0_1 a0_2 a0_3 a0_4 a0_5 l0_6 a0_7 l0_8) else (variorumref11_Good.j0 k t285 (decide ((l0_8.length : Int) > 0)) a0_0 a0_1 a0_2 a0_3 a0_4 a0_5 l0_6 a0_7 l0_8))) else (variorumref11_Good.j0 k t285 true a0_0 a0_1 a0_2 a0_3 a0_4 a0_5 l0_6 a0_7 l0_8)) = some r := by rw [if_neg (show ¬ (false = true) by decide)] at H; exact H
      clear H
      have H := H1
      clear H1
      by_cases c28 : a0_7.toList = ([] : List UInt8)
      ·rw [if_pos c28] at H
       have c28b0 : (a0_7.toList == ([] : List UInt8)) = true := beq_iff_eq.mpr c28
       have c28b1 : (a0_7.toList != ([] : List UInt8)) = false := bne_eq_false_iff_eq.mpr c28
       clear c28
       replace H := Option.bind_eq_some_iff.mp H
       obtain ⟨t292, A290, H⟩ := H
       replace H : (if t292 = true then (variorumref11_Good.j0 k t285 false a0_0 a0_1 a0_2 a0_3 a0_4 a0_5 l0_6 a0_7 l0_8) else (variorumref11_Good.j0 k t285 (decide ((l0_8.length : Int) > 0)) a0_0 a0_1 a0_2 a0_3 a0_4 a0_5 l0_6 a0_7 l0_8)) = some r := H
       have A29 := Aside0.mk A290
       clear A290
       by_cases c30 : t292 = true
       ·subst c30
        have H1 : (variorumref11_Good.j0 k t285 false a0_0 a0_1 a0_2 a0_3 a0_4 a0_5 l0_6 a0_7 l0_8) = some r := by rw [if_pos rfl] at H; exact H
        clear H
        have H := H1
        clear H1
        have H' := Aside0.mk H
        clear H
        try have qq0 : x5_2 < (5 : Int) := of_decide_eq_true (by assumption)
        try have qq1 : ¬ x5_2 < (5 : Int) := of_decide_eq_false (by assumption)
        go_wp2_with (first | (go_at_call 68; (with_reducible refine (variorumref11_has.calls k t285 111 false _ A7.out).mono ?_); rintro e w' ⟨rfl, ⟨nd, rfl⟩⟩; have hcz31_0 : w4.cell? ⟨gb284, 0, none⟩ = some (.int .i64 a0_0) := (blk_cell BK284.out 0).trans rfl; have hcz31_1 : w4.cell? ⟨gb284, 1, none⟩ = some (.int .i64 a0_1) := (blk_cell BK284.out 1).trans rfl; have hcz31_2 : w4.cell? ⟨gb284, 2, none⟩ = some (.int .i64 a0_2) := (blk_cell BK284.out 2).trans rfl; have hcz31_3 : w4.cell? ⟨gb284, 3, none⟩ = some (.int .i64 a0_3) := (blk_cell BK284.out 3).trans rfl; have hcz31_4 : w4.cell? ⟨gb284, 4, none⟩ = some (.int .i64 a0_4) := (blk_cell BK284.out 4).trans rfl; have hcz31_5 : w4.cell? ⟨gb284, 5, none⟩ = some (.int .i64 a0_5) := (blk_cell BK284.out 5).trans rfl; have hcz31_6 : w4.cell? ⟨gb284, 6, none⟩ = some (.slice A0_6 l0_6.length c0_6) := (blk_cell BK284.out 6).trans rfl; have hcz31_7 : w4.cell? ⟨gb284, 7, none⟩ = some (.string a0_7) := (blk_cell BK284.out 7).trans rfl; have hcz31_8 : w4.cell? ⟨gb284, 8, none⟩ = some (.slice A0_8 l0_8.length c0_8) := (blk_cell BK284.out 8).trans rfl; have hfz31_0 := blk_frozen BK284.out 0; have hfz31_1 := blk_frozen BK284.out 1; have hfz31_2 := blk_frozen BK284.out 2; have hfz31_3 := blk_frozen BK284.out 3; have hfz31_4 := blk_frozen BK284.out 4; have hfz31_5 := blk_frozen BK284.out 5; have hfz31_6 := blk_frozen BK284.out 6; have hfz31_7 := blk_frozen BK284.out 7; have hfz31_8 := blk_frozen BK284.out 8) | (go_at_call 68; (with_reducible refine (variorumref11_has.calls k t285 116 false _ A22.out).mono ?_); rintro e w' ⟨rfl, ⟨nd, rfl⟩⟩) | (go_at_call 68; (with_reducible refine (variorumref11_has.calls k t285 110 true _ A29.out).mono ?_); rintro e w' ⟨rfl, ⟨nd, rfl⟩⟩))
        go_meet
        case rel => exact ⟨_, (false), (by (rfl)), H', ⟨by (omega)⟩, ⟨by (with_reducible repeat ((refine blk_drewN ?_ _))); exact BK284.out⟩, ⟨by repeat ((with_reducible first | exact HB.out | apply pw_below_drewN))⟩⟩
       ·replace c30 := Bool.eq_false_iff.mpr c30
        subst c30
        have H1 : (variorumref11_Good.j0 k t285 (decide ((l0_8.length : Int) > 0)) a0_0 a0_1 a0_2 a0_3 a0_4 a0_5 l0_6 a0_7 l0_8) = some r := by rw [if_neg (show ¬ (false = true) by decide)] at H; exact H
        clear H
        have H := H1
        clear H1
        have H' := Aside0.mk H
        clear H
        try have qq0 : x5_2 < (5 : Int) := of_decide_eq_true (by assumption)
        try have qq1 : ¬ x5_2 < (5 : Int) := of_decide_eq_false (by assumption)
        go_wp2_with (first | (go_at_call 68; (with_reducible refine (variorumref11_has.calls k t285 111 false _ A7.out).mono ?_); rintro e w' ⟨rfl, ⟨nd, rfl⟩⟩; have hcz32_0 : w4.cell? ⟨gb284, 0, none⟩ = some (.int .i64 a0_0) := (blk_cell BK284.out 0).trans rfl; have hcz32_1 : w4.cell? ⟨gb284, 1, none⟩ = some (.int .i64 a0_1) := (blk_cell BK284.out 1).trans rfl; have hcz32_2 : w4.cell? ⟨gb284, 2, none⟩ = some (.int .i64 a0_2) := (blk_cell BK284.out 2).trans rfl; have hcz32_3 : w4.cell? ⟨gb284, 3, none⟩ = some (.int .i64 a0_3) := (blk_cell BK284.out 3).trans rfl; have hcz32_4 : w4.cell? ⟨gb284, 4, none⟩ = some (.int .i64 a0_4) := (blk_cell BK284.out 4).trans rfl; have hcz32_5 : w4.cell? ⟨gb284, 5, none⟩ = some (.int .i64 a0_5) := (blk_cell BK284.out 5).trans rfl; have hcz32_6 : w4.cell? ⟨gb284, 6, none⟩ = some (.slice A0_6 l0_6.length c0_6) := (blk_cell BK284.out 6).trans rfl; have hcz32_7 : w4.cell? ⟨gb284, 7, none⟩ = some (.string a0_7) := (blk_cell BK284.out 7).trans rfl; have hcz32_8 : w4.cell? ⟨gb284, 8, none⟩ = some (.slice A0_8 l0_8.length c0_8) := (blk_cell BK284.out 8).trans rfl; have hfz32_0 := blk_frozen BK284.out 0; have hfz32_1 := blk_frozen BK284.out 1; have hfz32_2 := blk_frozen BK284.out 2; have hfz32_3 := blk_frozen BK284.out 3; have hfz32_4 := blk_frozen BK284.out 4; have hfz32_5 := blk_frozen BK284.out 5; have hfz32_6 := blk_frozen BK284.out 6; have hfz32_7 := blk_frozen BK284.out 7; have hfz32_8 := blk_frozen BK284.out 8) | (go_at_call 68; (with_reducible refine (variorumref11_has.calls k t285 116 false _ A22.out).mono ?_); rintro e w' ⟨rfl, ⟨nd, rfl⟩⟩) | (go_at_call 68; (with_reducible refine (variorumref11_has.calls k t285 110 false _ A29.out).mono ?_); rintro e w' ⟨rfl, ⟨nd, rfl⟩⟩))
        go_meet
        case rel => exact ⟨_, (decide ((l0_8.length : Int) > 0)), (by (simp; done)), H', ⟨by (omega)⟩, ⟨by (with_reducible repeat ((refine blk_drewN ?_ _))); exact BK284.out⟩, ⟨by repeat ((with_reducible first | exact HB.out | apply pw_below_drewN))⟩⟩
      ·rw [if_neg c28] at H
       have c28b0 : (a0_7.toList == ([] : List UInt8)) = false := beq_eq_false_iff_ne.mpr c28
       have c28b1 : (a0_7.toList != ([] : List UInt8)) = true := bne_iff_ne.mpr c28
       have H' := Aside0.mk H
       clear H
       try have qq0 : x5_2 < (5 : Int) := of_decide_eq_true (by assumption)
       try have qq1 : ¬ x5_2 < (5 : Int) := of_decide_eq_false (by assumption)
       go_wp2_with (first | (go_at_call 68; (with_reducible refine (variorumref11_has.calls k t285 111 false _ A7.out).mono ?_); rintro e w' ⟨rfl, ⟨nd, rfl⟩⟩; have hcz33_0 : w4.cell? ⟨gb284, 0, none⟩ = some (.int .i64 a0_0) := (blk_cell BK284.out 0).trans rfl; have hcz33_1 : w4.cell? ⟨gb284, 1, none⟩ = some (.int .i64 a0_1) := (blk_cell BK284.out 1).trans rfl; have hcz33_2 : w4.cell? ⟨gb284, 2, none⟩ = some (.int .i64 a0_2) := (blk_cell BK284.out 2).trans rfl; have hcz33_3 : w4.cell? ⟨gb284, 3, none⟩ = some (.int .i64 a0_3) := (blk_cell BK284.out 3).trans rfl; have hcz33_4 : w4.cell? ⟨gb284, 4, none⟩ = some (.int .i64 a0_4) := (blk_cell BK284.out 4).trans rfl; have hcz33_5 : w4.cell? ⟨gb284, 5, none⟩ = some (.int .i64 a0_5) := (blk_cell BK284.out 5).trans rfl; have hcz33_6 : w4.cell? ⟨gb284, 6, none⟩ = some (.slice A0_6 l0_6.length c0_6) := (blk_cell BK284.out 6).trans rfl; have hcz33_7 : w4.cell? ⟨gb284, 7, none⟩ = some (.string a0_7) := (blk_cell BK284.out 7).trans rfl; have hcz33_8 : w4.cell? ⟨gb284, 8, none⟩ = some (.slice A0_8 l0_8.length c0_8) := (blk_cell BK284.out 8).trans rfl; have hfz33_0 := blk_frozen BK284.out 0; have hfz33_1 := blk_frozen BK284.out 1; have hfz33_2 := blk_frozen BK284.out 2; have hfz33_3 := blk_frozen BK284.out 3; have hfz33_4 := blk_frozen BK284.out 4; have hfz33_5 := blk_frozen BK284.out 5; have hfz33_6 := blk_frozen BK284.out 6; have hfz33_7 := blk_frozen BK284.out 7; have hfz33_8 := blk_frozen BK284.out 8) | (go_at_call 68; (with_reducible refine (variorumref11_has.calls k t285 116 false _ A22.out).mono ?_); rintro e w' ⟨rfl, ⟨nd, rfl⟩⟩))
       go_meet
       case rel => exact ⟨_, (true), (by (rfl)), H', ⟨by (omega)⟩, ⟨by (with_reducible repeat ((refine blk_drewN ?_ _))); exact BK284.out⟩, ⟨by repeat ((with_reducible first | exact HB.out | apply pw_below_drewN))⟩⟩
 case rest =>
  clear HC3
  try clear c1
  try clear c2
  try clear p2
  try clear c3
  try clear c6
  try clear c6b0
  try clear c6b1
  try clear c8
  try clear c10
  try clear c12
  try clear c14
  try clear c14b0
  try clear c14b1
  try clear c16
  try clear c20
  try clear c20b0
  try clear c20b1
  try clear c23
  try clear c24
  try clear c25
  try clear c28
  try clear c28b0
  try clear c28b1
  try clear c30
  try clear hcz13_0
  try clear hcz13_1
  try clear hcz13_2
  try clear hcz13_3
  try clear hcz13_4
  try clear hcz13_5
  try clear hcz13_6
  try clear hcz13_7
  try clear hcz13_8
  try clear hcz17_0
  try clear hcz17_1
  try clear hcz17_2
  try clear hcz17_3
  try clear hcz17_4
  try clear hcz17_5
  try clear hcz17_6
  try clear hcz17_7
  try clear hcz17_8
  try clear hcz18_0
  try clear hcz18_1
  try clear hcz18_2
  try clear hcz18_3
  try clear hcz18_4
  try clear hcz18_5
  try clear hcz18_6
  try clear hcz18_7
  try clear hcz18_8
  try clear hcz19_0
  try clear hcz19_1
  try clear hcz19_2
  try clear hcz19_3
  try clear hcz19_4
  try clear hcz19_5
  try clear hcz19_6
  try clear hcz19_7
  try clear hcz19_8
  try clear hcz21_0
  try clear hcz21_1
  try clear hcz21_2
  try clear hcz21_3
  try clear hcz21_4
  try clear hcz21_5
  try clear hcz21_6
  try clear hcz21_7
  try clear hcz21_8
  try clear hcz26_0
  try clear hcz26_1
  try clear hcz26_2
  try clear hcz26_3
  try clear hcz26_4
  try clear hcz26_5
  try clear hcz26_6
  try clear hcz26_7
  try clear hcz26_8
  try clear hcz27_0
  try clear hcz27_1
  try clear hcz27_2
  try clear hcz27_3
  try clear hcz27_4
  try clear hcz27_5
  try clear hcz27_6
  try clear hcz27_7
  try clear hcz27_8
  try clear hcz31_0
  try clear hcz31_1
  try clear hcz31_2
  try clear hcz31_3
  try clear hcz31_4
  try clear hcz31_5
  try clear hcz31_6
  try clear hcz31_7
  try clear hcz31_8
  try clear hcz32_0
  try clear hcz32_1
  try clear hcz32_2
  try clear hcz32_3
  try clear hcz32_4
  try clear hcz32_5
  try clear hcz32_6
  try clear hcz32_7
  try clear hcz32_8
  try clear hcz33_0
  try clear hcz33_1
  try clear hcz33_2
  try clear hcz33_3
  try clear hcz33_4
  try clear hcz33_5
  try clear hcz33_6
  try clear hcz33_7
  try clear hcz33_8
  try clear hcz5_0
  try clear hcz5_1
  try clear hcz5_2
  try clear hcz5_3
  try clear hcz5_4
  try clear hcz5_5
  try clear hcz5_6
  try clear hcz5_7
  try clear hcz5_8
  try clear hfz13_0
  try clear hfz13_1
  try clear hfz13_2
  try clear hfz13_3
  try clear hfz13_4
  try clear hfz13_5
  try clear hfz13_6
  try clear hfz13_7
  try clear hfz13_8
  try clear hfz17_0
  try clear hfz17_1
  try clear hfz17_2
  try clear hfz17_3
  try clear hfz17_4
  try clear hfz17_5
  try clear hfz17_6
  try clear hfz17_7
  try clear hfz17_8
  try clear hfz18_0
  try clear hfz18_1
  try clear hfz18_2
  try clear hfz18_3
  try clear hfz18_4
  try clear hfz18_5
  try clear hfz18_6
  try clear hfz18_7
  try clear hfz18_8
  try clear hfz19_0
  try clear hfz19_1
  try clear hfz19_2
  try clear hfz19_3
  try clear hfz19_4
  try clear hfz19_5
  try clear hfz19_6
  try clear hfz19_7
  try clear hfz19_8
  try clear hfz21_0
  try clear hfz21_1
  try clear hfz21_2
  try clear hfz21_3
  try clear hfz21_4
  try clear hfz21_5
  try clear hfz21_6
  try clear hfz21_7
  try clear hfz21_8
  try clear hfz26_0
  try clear hfz26_1
  try clear hfz26_2
  try clear hfz26_3
  try clear hfz26_4
  try clear hfz26_5
  try clear hfz26_6
  try clear hfz26_7
  try clear hfz26_8
  try clear hfz27_0
  try clear hfz27_1
  try clear hfz27_2
  try clear hfz27_3
  try clear hfz27_4
  try clear hfz27_5
  try clear hfz27_6
  try clear hfz27_7
  try clear hfz27_8
  try clear hfz31_0
  try clear hfz31_1
  try clear hfz31_2
  try clear hfz31_3
  try clear hfz31_4
  try clear hfz31_5
  try clear hfz31_6
  try clear hfz31_7
  try clear hfz31_8
  try clear hfz32_0
  try clear hfz32_1
  try clear hfz32_2
  try clear hfz32_3
  try clear hfz32_4
  try clear hfz32_5
  try clear hfz32_6
  try clear hfz32_7
  try clear hfz32_8
  try clear hfz33_0
  try clear hfz33_1
  try clear hfz33_2
  try clear hfz33_3
  try clear hfz33_4
  try clear hfz33_5
  try clear hfz33_6
  try clear hfz33_7
  try clear hfz33_8
  try clear hfz5_0
  try clear hfz5_1
  try clear hfz5_2
  try clear hfz5_3
  try clear hfz5_4
  try clear hfz5_5
  try clear hfz5_6
  try clear hfz5_7
  try clear hfz5_8
  obtain ⟨kq, x44_2, rfl, HA, HJ2, BK284, HB⟩ := hcut
  cases kq with
  | zero => exact absurd HA.out (by simp [variorumref11_Good.j0])
  | succ kj2 =>
   have H := HA.out
   clear HA
   simp only [variorumref11_Good.j0] at H
   by_cases c34 : x44_2 = true
   ·subst c34
    have H1 : (some false) = some r := by rw [if_pos rfl] at H; exact H
    clear H
    have H := H1
    clear H1
    obtain rfl := Option.some.inj H
    go_wp2
    go_ret
    exact ⟨by (rfl), by repeat ((with_reducible (exact HB.out)))⟩
   ·replace c34 := Bool.eq_false_iff.mpr c34
    subst c34
    have H1 : (variorumref11_Good.l0 kj2 t285 (⟨#[99, 101, 114, 115, 100]⟩ : ByteArray) 0 a0_0 a0_1 a0_2 a0_3 a0_4 a0_5 l0_6 a0_7 l0_8) = some r := by rw [if_neg (show ¬ (false = true) by decide)] at H; exact H
    clear H
    have H := H1
    clear H1
    have H' := Aside0.mk H
    clear H
    go_wp2
    go_loopg [5] kj2 (fun kq v5 w' => ∃ (x5_2 : Int), v5 = .int .i64 x5_2 ∧ Aside0 (variorumref11_Good.l0 kq t285 (⟨#[99, 101, 114, 115, 100]⟩ : ByteArray) x5_2 a0_0 a0_1 a0_2 a0_3 a0_4 a0_5 l0_6 a0_7 l0_8 = some r) ∧ Aside0 (kq ≤ kj2) ∧ Aside0 (w'.heap[gb284]? = some (.cells #[.int .i64 a0_0, .int .i64 a0_1, .int .i64 a0_2, .int .i64 a0_3, .int .i64 a0_4, .int .i64 a0_5, (.slice A0_6 l0_6.length c0_6), .string a0_7, (.slice A0_8 l0_8.length c0_8)] 44 (0, 0))) ∧ Aside0 (Below w.heap.size w w'))
    case atStart => exact ⟨(0), (by (rfl)), H', ⟨Nat.le_refl _⟩, ⟨by (with_reducible repeat ((refine blk_drew ?_))); exact BK284.out⟩, ⟨by repeat ((with_reducible (exact HB.out)))⟩⟩
    case round =>
     clear H'
     try clear c1
     try clear c2
     try clear p2
     try clear c3
     try clear c6
     try clear c6b0
     try clear c6b1
     try clear c8
     try clear c10
     try clear c12
     try clear c14
     try clear c14b0
     try clear c14b1
     try clear c16
     try clear c20
     try clear c20b0
     try clear c20b1
     try clear c23
     try clear c24
     try clear c25
     try clear c28
     try clear c28b0
     try clear c28b1
     try clear c30
     try clear c34
     try clear hcz13_0
     try clear hcz13_1
     try clear hcz13_2
     try clear hcz13_3
     try clear hcz13_4
     try clear hcz13_5
     try clear hcz13_6
     try clear hcz13_7
     try clear hcz13_8
     try clear hcz17_0
     try clear hcz17_1
     try clear hcz17_2
     try clear hcz17_3
     try clear hcz17_4
     try clear hcz17_5
     try clear hcz17_6
     try clear hcz17_7
     try clear hcz17_8
     try clear hcz18_0
     try clear hcz18_1
     try clear hcz18_2
     try clear hcz18_3
     try clear hcz18_4
     try clear hcz18_5
     try clear hcz18_6
     try clear hcz18_7
     try clear hcz18_8
     try clear hcz19_0
     try clear hcz19_1
     try clear hcz19_2
     try clear hcz19_3
     try clear hcz19_4
     try clear hcz19_5
     try clear hcz19_6
     try clear hcz19_7
     try clear hcz19_8
     try clear hcz21_0
     try clear hcz21_1
     try clear hcz21_2
     try clear hcz21_3
     try clear hcz21_4
     try clear hcz21_5
     try clear hcz21_6
     try clear hcz21_7
     try clear hcz21_8
     try clear hcz26_0
     try clear hcz26_1
     try clear hcz26_2
     try clear hcz26_3
     try clear hcz26_4
     try clear hcz26_5
     try clear hcz26_6
     try clear hcz26_7
     try clear hcz26_8
     try clear hcz27_0
     try clear hcz27_1
     try clear hcz27_2
     try clear hcz27_3
     try clear hcz27_4
     try clear hcz27_5
     try clear hcz27_6
     try clear hcz27_7
     try clear hcz27_8
     try clear hcz31_0
     try clear hcz31_1
     try clear hcz31_2
     try clear hcz31_3
     try clear hcz31_4
     try clear hcz31_5
     try clear hcz31_6
     try clear hcz31_7
     try clear hcz31_8
     try clear hcz32_0
     try clear hcz32_1
     try clear hcz32_2
     try clear hcz32_3
     try clear hcz32_4
     try clear hcz32_5
     try clear hcz32_6
     try clear hcz32_7
     try clear hcz32_8
     try clear hcz33_0
     try clear hcz33_1
     try clear hcz33_2
     try clear hcz33_3
     try clear hcz33_4
     try clear hcz33_5
     try clear hcz33_6
     try clear hcz33_7
     try clear hcz33_8
     try clear hcz5_0
     try clear hcz5_1
     try clear hcz5_2
     try clear hcz5_3
     try clear hcz5_4
     try clear hcz5_5
     try clear hcz5_6
     try clear hcz5_7
     try clear hcz5_8
     try clear hfz13_0
     try clear hfz13_1
     try clear hfz13_2
     try clear hfz13_3
     try clear hfz13_4
     try clear hfz13_5
     try clear hfz13_6
     try clear hfz13_7
     try clear hfz13_8
     try clear hfz17_0
     try clear hfz17_1
     try clear hfz17_2
     try clear hfz17_3
     try clear hfz17_4
     try clear hfz17_5
     try clear hfz17_6
     try clear hfz17_7
     try clear hfz17_8
     try clear hfz18_0
     try clear hfz18_1
     try clear hfz18_2
     try clear hfz18_3
     try clear hfz18_4
     try clear hfz18_5
     try clear hfz18_6
     try clear hfz18_7
     try clear hfz18_8
     try clear hfz19_0
     try clear hfz19_1
     try clear hfz19_2
     try clear hfz19_3
     try clear hfz19_4
     try clear hfz19_5
     try clear hfz19_6
     try clear hfz19_7
     try clear hfz19_8
     try clear hfz21_0
     try clear hfz21_1
     try clear hfz21_2
     try clear hfz21_3
     try clear hfz21_4
     try clear hfz21_5
     try clear hfz21_6
     try clear hfz21_7
     try clear hfz21_8
     try clear hfz26_0
     try clear hfz26_1
     try clear hfz26_2
     try clear hfz26_3
     try clear hfz26_4
     try clear hfz26_5
     try clear hfz26_6
     try clear hfz26_7
     try clear hfz26_8
     try clear hfz27_0
     try clear hfz27_1
     try clear hfz27_2
     try clear hfz27_3
     try clear hfz27_4
     try clear hfz27_5
     try clear hfz27_6
     try clear hfz27_7
     try clear hfz27_8
     try clear hfz31_0
     try clear hfz31_1
     try clear hfz31_2
     try clear hfz31_3
     try clear hfz31_4
     try clear hfz31_5
     try clear hfz31_6
     try clear hfz31_7
     try clear hfz31_8
     try clear hfz32_0
     try clear hfz32_1
     try clear hfz32_2
     try clear hfz32_3
     try clear hfz32_4
     try clear hfz32_5
     try clear hfz32_6
     try clear hfz32_7
     try clear hfz32_8
     try clear hfz33_0
     try clear hfz33_1
     try clear hfz33_2
     try clear hfz33_3
     try clear hfz33_4
     try clear hfz33_5
     try clear hfz33_6
     try clear hfz33_7
     try clear hfz33_8
     try clear hfz5_0
     try clear hfz5_1
     try clear hfz5_2
     try clear hfz5_3
     try clear hfz5_4
     try clear hfz5_5
     try clear hfz5_6
     try clear hfz5_7
     try clear hfz5_8
     try clear p2
     obtain ⟨x5_2, rfl, HA, HK2, BK284, HB⟩ := hrel
     cases gk with
     | zero => exact absurd HA.out (by simp [variorumref11_Good.l0])
     | succ k2 =>
      have H := HA.out
      clear HA
      simp only [variorumref11_Good.l0] at H
      by_cases c35 : x5_2 < ((⟨#[99, 101, 114, 115, 100]⟩ : ByteArray).size : Int)
      ·rw [if_pos c35] at H
       have c35b0 : decide (x5_2 < ((⟨#[99, 101, 114, 115, 100]⟩ : ByteArray).size : Int)) = true := decide_eq_true c35
       clear c35
       by_cases c36 : 0 ≤ x5_2
       ·rw [if_pos c36] at H
        have c36b0 : decide (0 ≤ x5_2) = true := decide_eq_true c36
        clear c36
        replace H := Option.bind_eq_some_iff.mp H
        obtain ⟨⟨t295, t296⟩, A380, H⟩ := H
        replace H : ((variorumref11_has.f k2 t285 (bt (⟨#[99, 101, 114, 115, 100]⟩ : ByteArray) x5_2)).bind fun t297 => (if t297 = true then (if t295 < 0 then (some false) else (if t295 > t296 then (some false) else (variorumref11_Good.l0 k2 t285 (⟨#[99, 101, 114, 115, 100]⟩ : ByteArray) (wrap64 (x5_2 + 1)) a0_0 a0_1 a0_2 a0_3 a0_4 a0_5 l0_6 a0_7 l0_8))) else (if t295 < 0 then (some false) else (if t295 > 0 then (some false) else (variorumref11_Good.l0 k2 t285 (⟨#[99, 101, 114, 115, 100]⟩ : ByteArray) (wrap64 (x5_2 + 1)) a0_0 a0_1 a0_2 a0_3 a0_4 a0_5 l0_6 a0_7 l0_8))))) = some r := H
        have A38 := Aside0.mk A380
        clear A380
        replace H := Option.bind_eq_some_iff.mp H
        obtain ⟨t297, A400, H⟩ := H
        replace H : (if t297 = true then (if t295 < 0 then (some false) else (if t295 > t296 then (some false) else (variorumref11_Good.l0 k2 t285 (⟨#[99, 101, 114, 115, 100]⟩ : ByteArray) (wrap64 (x5_2 + 1)) a0_0 a0_1 a0_2 a0_3 a0_4 a0_5 l0_6 a0_7 l0_8))) else (if t295 < 0 then (some false) else (if t295 > 0 then (some false) else (variorumref11_Good.l0 k2 t285 (⟨#[99, 101, 114, 115, 100]⟩ : ByteArray) (wrap64 (x5_2 + 1)) a0_0 a0_1 a0_2 a0_3 a0_4 a0_5 l0_6 a0_7 l0_8)))) = some r := H
        have A40 := Aside0.mk A400
        clear A400
        by_cases c41 : t297 = true
        ·subst c41
         have H1 : (if t295 < 0 then (some false) else (if t295 > t296 then (some false) else (variorumref11_Good.l0 k2 t285 (⟨#[99, 101, 114, 115, 100]⟩ : ByteArray) (wrap64 (x5_2 + 1)) a0_0 a0_1 a0_2 a0_3 a0_4 a0_5 l0_6 a0_7 l0_8))) = some r := by rw [if_pos rfl] at H; exact H
         clear H
         have H := H1
         clear H1
         by_cases c42 : t295 < 0
         ·rw [if_pos c42] at H
          have c42b0 : decide (t295 < 0) = true := decide_eq_true c42
          clear c42
          obtain rfl := Option.some.inj H
          try have qq0 : x5_2 < (5 : Int) := of_decide_eq_true (by assumption)
          try have qq1 : ¬ x5_2 < (5 : Int) := of_decide_eq_false (by assumption)
          try go_wp2
          have n0_ := Aside0.mk (blk_drew BK284.out)
          have n1_ := Aside0.mk (below_drew1 HB.out)
          clear BK284
          clear HB
          have BK284 := n0_
          have HB := n1_
          clear n0_ n1_
          have p37 : 0 ≤ (x5_2 : Int) := of_decide_eq_true (by (with_reducible assumption))
          have q37 : x5_2 < (5 : Int) := of_decide_eq_true (by (assumption))
          have hx37 := bt_at (⟨#[99, 101, 114, 115, 100]⟩ : ByteArray) x5_2
          replace p37 := eq_true p37
          replace q37 := eq_true q37
          refine start_ (n := 10) (S := fun w' => w'.cell? ⟨gb284, 0, none⟩ = some (.int .i64 a0_0) ∧ w'.cell? ⟨gb284, 1, none⟩ = some (.int .i64 a0_1) ∧ w'.cell? ⟨gb284, 2, none⟩ = some (.int .i64 a0_2) ∧ w'.cell? ⟨gb284, 3, none⟩ = some (.int .i64 a0_3) ∧ w'.cell? ⟨gb284, 4, none⟩ = some (.int .i64 a0_4) ∧ w'.cell? ⟨gb284, 5, none⟩ = some (.int .i64 a0_5) ∧ w'.cell? ⟨gb284, 6, none⟩ = some (.slice A0_6 l0_6.length c0_6) ∧ w'.cell? ⟨gb284, 7, none⟩ = some (.string a0_7) ∧ w'.cell? ⟨gb284, 8, none⟩ = some (.slice A0_8 l0_8.length c0_8)) (ds := []) goodB9 (by kernel_rfl) rfl rfl ⟨(blk_cell BK284.out 0).trans rfl, (blk_cell BK284.out 1).trans rfl, (blk_cell BK284.out 2).trans rfl, (blk_cell BK284.out 3).trans rfl, (blk_cell BK284.out 4).trans rfl, (blk_cell BK284.out 5).trans rfl, (blk_cell BK284.out 6).trans rfl, (blk_cell BK284.out 7).trans rfl, (blk_cell BK284.out 8).trans rfl⟩ (fun hHeld => ?_); refine with_tabW variorumref11_Good.tab8 variorumref11_Good.bits8 (fun HT_ HW_ => ?_)
          generalize wr.drew = w43 at BK284 HB hHeld ⊢
          refine pu_ 1 53 goodB0 HT_ ?_
          refine pu_ 2 54 goodB1 HT_ ?_
          refine pt_ 0 52 goodB7 HT_ HW_ rfl hHeld (by rintro w' ⟨s0, s1, s2, s3, s4, s5, s6, s7, s8⟩; go_simp; with_reducible rfl) ?_
          refine pt_ 3 55 goodB8 HT_ HW_ rfl hHeld (by rintro w' ⟨s0, s1, s2, s3, s4, s5, s6, s7, s8⟩; go_simp; with_reducible rfl) ?_
          refine one_ (i := 4) (N := some 56) goodB10 rfl rfl (one_of HT_.out (by kernel_rfl)) (by decide) (fun K hK => ?_)
          refine goes_ Try.func66 (by kernel_rfl) rfl #[.agg #[.int .i64 a0_0, .int .i64 a0_1, .int .i64 a0_2, .int .i64 a0_3, .int .i64 a0_4, .int .i64 a0_5, .slice A0_6 l0_6.length c0_6, .string a0_7, .slice A0_8 l0_8.length c0_8], .int .u8 (bt (⟨#[99, 101, 114, 115, 100]⟩ : ByteArray) x5_2)] (by rfl) rfl rfl (by (try simp only [List.map_toArray, List.map_cons, List.map_nil]); (rfl)) ?_
          with_reducible refine (variorumref11_num.calls a0_0 a0_1 a0_2 a0_3 a0_4 a0_5 _ _ l0_6 a0_7 _ _ l0_8 (bt (⟨#[99, 101, 114, 115, 100]⟩ : ByteArray) x5_2) t295 t296 _ ?side1 ?side2 ?side3 ?side4 A38.out).mono ?_
          (case side1 => repeat ((exact (Kd.C_below HR0_6.out HB.out))))
          (case side2 => exact HC0_6.out)
          (case side3 => repeat ((exact (Kd.C_below HR0_8.out HB.out))))
          (case side4 => exact HC0_8.out)
          rintro e w44 ⟨rfl, hb⟩
          refine ⟨_, rfl, ?_⟩
          have n0_ := Aside0.mk (blk_below (g := gb284) (o := .cells #[.int .i64 a0_0, .int .i64 a0_1, .int .i64 a0_2, .int .i64 a0_3, .int .i64 a0_4, .int .i64 a0_5, .slice A0_6 l0_6.length c0_6, .string a0_7, .slice A0_8 l0_8.length c0_8] 44 (0, 0)) (by (with_reducible repeat ((refine blk_drew ?_))); exact BK284.out) hb)
          have n1_ := Aside0.mk (below_step (by repeat ((with_reducible (exact HB.out)))) hb)
          clear BK284
          clear HB
          have BK284 := n0_
          have HB := n1_
          clear n0_ n1_
          (try clear hb)
          (try clear hb2)
          (try clear hk)
          (try clear hi)
          refine hK.out _ _ ⟨(blk_cell BK284.out 0).trans rfl, (blk_cell BK284.out 1).trans rfl, (blk_cell BK284.out 2).trans rfl, (blk_cell BK284.out 3).trans rfl, (blk_cell BK284.out 4).trans rfl, (blk_cell BK284.out 5).trans rfl, (blk_cell BK284.out 6).trans rfl, (blk_cell BK284.out 7).trans rfl, (blk_cell BK284.out 8).trans rfl⟩ (fun hHeld => ?_)
          clear hK K
          refine norm_ (a' := ?_) ?_ ?_
          rotate_left
          ·show Act.put _ (some 56) _ = _
           simp only [Act.put, List.setIfInBounds_toArray, List.set_cons_zero, List.set_cons_succ, i64_w, i32_w]
           rfl
          refine pu_ 5 51 goodB2 HT_ ?_
          refine pu_ 6 57 goodB3 HT_ ?_
          refine pu_ 7 58 goodB4 HT_ ?_
          refine pu_ 8 6 goodB5 HT_ ?_
          refine pu_ 9 7 goodB6 HT_ ?_
          refine done_ (done_of HT_.out (by kernel_rfl)) ?_
          have p39 : 0 ≤ (x5_2 : Int) := of_decide_eq_true (by (with_reducible assumption))
          have q39 : x5_2 < (5 : Int) := of_decide_eq_true (by (assumption))
          have hx39 := bt_at (⟨#[99, 101, 114, 115, 100]⟩ : ByteArray) x5_2
          replace p39 := eq_true p39
          replace q39 := eq_true q39
          try go_wp2_with (first | ((with_reducible refine gate_callee (f := 68) rfl ?_); refine goesL_ (some 63) rfl rfl Try.func68 (by kernel_rfl) rfl #[.string t285, .int .u8 (bt (⟨#[99, 101, 114, 115, 100]⟩ : ByteArray) x5_2)] rfl (by (try simp only [List.map_toArray, List.map_cons, List.map_nil]); (rfl)) ?_; (with_reducible refine (variorumref11_has.calls k2 t285 (bt (⟨#[99, 101, 114, 115, 100]⟩ : ByteArray) x5_2) true _ A40.out).mono ?_); rintro e w' ⟨rfl, ⟨nd, rfl⟩⟩; refine ⟨_, rfl, ?_⟩))
          go_ret
          exact ⟨by (rfl), by repeat ((with_reducible first | exact HB.out | apply pw_below_drewN))⟩
         ·rw [if_neg c42] at H
          have c42b0 : decide (t295 < 0) = false := decide_eq_false c42
          clear c42
          by_cases c45 : t295 > t296
          ·rw [if_pos c45] at H
           have c45b0 : decide (t296 < t295) = true := decide_eq_true c45
           clear c45
           obtain rfl := Option.some.inj H
           try have qq0 : x5_2 < (5 : Int) := of_decide_eq_true (by assumption)
           try have qq1 : ¬ x5_2 < (5 : Int) := of_decide_eq_false (by assumption)
           try go_wp2
           have n0_ := Aside0.mk (blk_drew BK284.out)
           have n1_ := Aside0.mk (below_drew1 HB.out)
           clear BK284
           clear HB
           have BK284 := n0_
           have HB := n1_
           clear n0_ n1_
           have p37 : 0 ≤ (x5_2 : Int) := of_decide_eq_true (by (with_reducible assumption))
           have q37 : x5_2 < (5 : Int) := of_decide_eq_true (by (assumption))
           have hx37 := bt_at (⟨#[99, 101, 114, 115, 100]⟩ : ByteArray) x5_2
           replace p37 := eq_true p37
           replace q37 := eq_true q37
           refine start_ (n := 10) (S := fun w' => w'.cell? ⟨gb284, 0, none⟩ = some (.int .i64 a0_0) ∧ w'.cell? ⟨gb284, 1, none⟩ = some (.int .i64 a0_1) ∧ w'.cell? ⟨gb284, 2, none⟩ = some (.int .i64 a0_2) ∧ w'.cell? ⟨gb284, 3, none⟩ = some (.int .i64 a0_3) ∧ w'.cell? ⟨gb284, 4, none⟩ = some (.int .i64 a0_4) ∧ w'.cell? ⟨gb284, 5, none⟩ = some (.int .i64 a0_5) ∧ w'.cell? ⟨gb284, 6, none⟩ = some (.slice A0_6 l0_6.length c0_6) ∧ w'.cell? ⟨gb284, 7, none⟩ = some (.string a0_7) ∧ w'.cell? ⟨gb284, 8, none⟩ = some (.slice A0_8 l0_8.length c0_8)) (ds := []) goodB9 (by kernel_rfl) rfl rfl ⟨(blk_cell BK284.out 0).trans rfl, (blk_cell BK284.out 1).trans rfl, (blk_cell BK284.out 2).trans rfl, (blk_cell BK284.out 3).trans rfl, (blk_cell BK284.out 4).trans rfl, (blk_cell BK284.out 5).trans rfl, (blk_cell BK284.out 6).trans rfl, (blk_cell BK284.out 7).trans rfl, (blk_cell BK284.out 8).trans rfl⟩ (fun hHeld => ?_); refine with_tabW variorumref11_Good.tab8 variorumref11_Good.bits8 (fun HT_ HW_ => ?_)
           generalize wr.drew = w46 at BK284 HB hHeld ⊢
           refine pu_ 1 53 goodB0 HT_ ?_
           refine pu_ 2 54 goodB1 HT_ ?_
           refine pt_ 0 52 goodB7 HT_ HW_ rfl hHeld (by rintro w' ⟨s0, s1, s2, s3, s4, s5, s6, s7, s8⟩; go_simp; with_reducible rfl) ?_
           refine pt_ 3 55 goodB8 HT_ HW_ rfl hHeld (by rintro w' ⟨s0, s1, s2, s3, s4, s5, s6, s7, s8⟩; go_simp; with_reducible rfl) ?_
           refine one_ (i := 4) (N := some 56) goodB10 rfl rfl (one_of HT_.out (by kernel_rfl)) (by decide) (fun K hK => ?_)
           refine goes_ Try.func66 (by kernel_rfl) rfl #[.agg #[.int .i64 a0_0, .int .i64 a0_1, .int .i64 a0_2, .int .i64 a0_3, .int .i64 a0_4, .int .i64 a0_5, .slice A0_6 l0_6.length c0_6, .string a0_7, .slice A0_8 l0_8.length c0_8], .int .u8 (bt (⟨#[99, 101, 114, 115, 100]⟩ : ByteArray) x5_2)] (by rfl) rfl rfl (by (try simp only [List.map_toArray, List.map_cons, List.map_nil]); (rfl)) ?_
           with_reducible refine (variorumref11_num.calls a0_0 a0_1 a0_2 a0_3 a0_4 a0_5 _ _ l0_6 a0_7 _ _ l0_8 (bt (⟨#[99, 101, 114, 115, 100]⟩ : ByteArray) x5_2) t295 t296 _ ?side1 ?side2 ?side3 ?side4 A38.out).mono ?_
           (case side1 => repeat ((exact (Kd.C_below HR0_6.out HB.out))))
           (case side2 => exact HC0_6.out)
           (case side3 => repeat ((exact (Kd.C_below HR0_8.out HB.out))))
           (case side4 => exact HC0_8.out)
           rintro e w47 ⟨rfl, hb⟩
           refine ⟨_, rfl, ?_⟩
           have n0_ := Aside0.mk (blk_below (g := gb284) (o := .cells #[.int .i64 a0_0, .int .i64 a0_1, .int .i64 a0_2, .int .i64 a0_3, .int .i64 a0_4, .int .i64 a0_5, .slice A0_6 l0_6.length c0_6, .string a0_7, .slice A0_8 l0_8.length c0_8] 44 (0, 0)) (by (with_reducible repeat ((refine blk_drew ?_))); exact BK284.out) hb)
           have n1_ := Aside0.mk (below_step (by repeat ((with_reducible (exact HB.out)))) hb)
           clear BK284
           clear HB
           have BK284 := n0_
           have HB := n1_
           clear n0_ n1_
           (try clear hb)
           (try clear hb2)
           (try clear hk)
           (try clear hi)
           refine hK.out _ _ ⟨(blk_cell BK284.out 0).trans rfl, (blk_cell BK284.out 1).trans rfl, (blk_cell BK284.out 2).trans rfl, (blk_cell BK284.out 3).trans rfl, (blk_cell BK284.out 4).trans rfl, (blk_cell BK284.out 5).trans rfl, (blk_cell BK284.out 6).trans rfl, (blk_cell BK284.out 7).trans rfl, (blk_cell BK284.out 8).trans rfl⟩ (fun hHeld => ?_)
           clear hK K
           refine norm_ (a' := ?_) ?_ ?_
           rotate_left
           ·show Act.put _ (some 56) _ = _
            simp only [Act.put, List.setIfInBounds_toArray, List.set_cons_zero, List.set_cons_succ, i64_w, i32_w]
            rfl
           refine pu_ 5 51 goodB2 HT_ ?_
           refine pu_ 6 57 goodB3 HT_ ?_
           refine pu_ 7 58 goodB4 HT_ ?_
           refine pu_ 8 6 goodB5 HT_ ?_
           refine pu_ 9 7 goodB6 HT_ ?_
           refine done_ (done_of HT_.out (by kernel_rfl)) ?_
           have p39 : 0 ≤ (x5_2 : Int) := of_decide_eq_true (by (with_reducible assumption))
           have q39 : x5_2 < (5 : Int) := of_decide_eq_true (by (assumption))
           have hx39 := bt_at (⟨#[99, 101, 114, 115, 100]⟩ : ByteArray) x5_2
           replace p39 := eq_true p39
           replace q39 := eq_true q39
           try go_wp2_with (first | ((with_reducible refine gate_callee (f := 68) rfl ?_); refine goesL_ (some 63) rfl rfl Try.func68 (by kernel_rfl) rfl #[.string t285, .int .u8 (bt (⟨#[99, 101, 114, 115, 100]⟩ : ByteArray) x5_2)] rfl (by (try simp only [List.map_toArray, List.map_cons, List.map_nil]); (rfl)) ?_; (with_reducible refine (variorumref11_has.calls k2 t285 (bt (⟨#[99, 101, 114, 115, 100]⟩ : ByteArray) x5_2) true _ A40.out).mono ?_); rintro e w' ⟨rfl, ⟨nd, rfl⟩⟩; refine ⟨_, rfl, ?_⟩))
           go_ret
           exact ⟨by (rfl), by repeat ((with_reducible first | exact HB.out | apply pw_below_drewN))⟩
          ·rw [if_neg c45] at H
           have c45b0 : decide (t296 < t295) = false := decide_eq_false c45
           clear c45
           have H' := Aside0.mk H
           clear H
           try have qq0 : x5_2 < (5 : Int) := of_decide_eq_true (by assumption)
           try have qq1 : ¬ x5_2 < (5 : Int) := of_decide_eq_false (by assumption)
           try go_wp2
           have n0_ := Aside0.mk (blk_drew BK284.out)
           have n1_ := Aside0.mk (below_drew1 HB.out)
           clear BK284
           clear HB
           have BK284 := n0_
           have HB := n1_
           clear n0_ n1_
           have p37 : 0 ≤ (x5_2 : Int) := of_decide_eq_true (by (with_reducible assumption))
           have q37 : x5_2 < (5 : Int) := of_decide_eq_true (by (assumption))
           have hx37 := bt_at (⟨#[99, 101, 114, 115, 100]⟩ : ByteArray) x5_2
           replace p37 := eq_true p37
           replace q37 := eq_true q37
           refine start_ (n := 10) (S := fun w' => w'.cell? ⟨gb284, 0, none⟩ = some (.int .i64 a0_0) ∧ w'.cell? ⟨gb284, 1, none⟩ = some (.int .i64 a0_1) ∧ w'.cell? ⟨gb284, 2, none⟩ = some (.int .i64 a0_2) ∧ w'.cell? ⟨gb284, 3, none⟩ = some (.int .i64 a0_3) ∧ w'.cell? ⟨gb284, 4, none⟩ = some (.int .i64 a0_4) ∧ w'.cell? ⟨gb284, 5, none⟩ = some (.int .i64 a0_5) ∧ w'.cell? ⟨gb284, 6, none⟩ = some (.slice A0_6 l0_6.length c0_6) ∧ w'.cell? ⟨gb284, 7, none⟩ = some (.string a0_7) ∧ w'.cell? ⟨gb284, 8, none⟩ = some (.slice A0_8 l0_8.length c0_8)) (ds := []) goodB9 (by kernel_rfl) rfl rfl ⟨(blk_cell BK284.out 0).trans rfl, (blk_cell BK284.out 1).trans rfl, (blk_cell BK284.out 2).trans rfl, (blk_cell BK284.out 3).trans rfl, (blk_cell BK284.out 4).trans rfl, (blk_cell BK284.out 5).trans rfl, (blk_cell BK284.out 6).trans rfl, (blk_cell BK284.out 7).trans rfl, (blk_cell BK284.out 8).trans rfl⟩ (fun hHeld => ?_); refine with_tabW variorumref11_Good.tab8 variorumref11_Good.bits8 (fun HT_ HW_ => ?_)
           generalize wr.drew = w48 at BK284 HB hHeld ⊢
           refine pu_ 1 53 goodB0 HT_ ?_
           refine pu_ 2 54 goodB1 HT_ ?_
           refine pt_ 0 52 goodB7 HT_ HW_ rfl hHeld (by rintro w' ⟨s0, s1, s2, s3, s4, s5, s6, s7, s8⟩; go_simp; with_reducible rfl) ?_
           refine pt_ 3 55 goodB8 HT_ HW_ rfl hHeld (by rintro w' ⟨s0, s1, s2, s3, s4, s5, s6, s7, s8⟩; go_simp; with_reducible rfl) ?_
           refine one_ (i := 4) (N := some 56) goodB10 rfl rfl (one_of HT_.out (by kernel_rfl)) (by decide) (fun K hK => ?_)
           refine goes_ Try.func66 (by kernel_rfl) rfl #[.agg #[.int .i64 a0_0, .int .i64 a0_1, .int .i64 a0_2, .int .i64 a0_3, .int .i64 a0_4, .int .i64 a0_5, .slice A0_6 l0_6.length c0_6, .string a0_7, .slice A0_8 l0_8.length c0_8], .int .u8 (bt (⟨#[99, 101, 114, 115, 100]⟩ : ByteArray) x5_2)] (by rfl) rfl rfl (by (try simp only [List.map_toArray, List.map_cons, List.map_nil]); (rfl)) ?_
           with_reducible refine (variorumref11_num.calls a0_0 a0_1 a0_2 a0_3 a0_4 a0_5 _ _ l0_6 a0_7 _ _ l0_8 (bt (⟨#[99, 101, 114, 115, 100]⟩ : ByteArray) x5_2) t295 t296 _ ?side1 ?side2 ?side3 ?side4 A38.out).mono ?_
           (case side1 => repeat ((exact (Kd.C_below HR0_6.out HB.out))))
           (case side2 => exact HC0_6.out)
           (case side3 => repeat ((exact (Kd.C_below HR0_8.out HB.out))))
           (case side4 => exact HC0_8.out)
           rintro e w49 ⟨rfl, hb⟩
           refine ⟨_, rfl, ?_⟩
           have n0_ := Aside0.mk (blk_below (g := gb284) (o := .cells #[.int .i64 a0_0, .int .i64 a0_1, .int .i64 a0_2, .int .i64 a0_3, .int .i64 a0_4, .int .i64 a0_5, .slice A0_6 l0_6.length c0_6, .string a0_7, .slice A0_8 l0_8.length c0_8] 44 (0, 0)) (by (with_reducible repeat ((refine blk_drew ?_))); exact BK284.out) hb)
           have n1_ := Aside0.mk (below_step (by repeat ((with_reducible (exact HB.out)))) hb)
           clear BK284
           clear HB
           have BK284 := n0_
           have HB := n1_
           clear n0_ n1_
           (try clear hb)
           (try clear hb2)
           (try clear hk)
           (try clear hi)
           refine hK.out _ _ ⟨(blk_cell BK284.out 0).trans rfl, (blk_cell BK284.out 1).trans rfl, (blk_cell BK284.out 2).trans rfl, (blk_cell BK284.out 3).trans rfl, (blk_cell BK284.out 4).trans rfl, (blk_cell BK284.out 5).trans rfl, (blk_cell BK284.out 6).trans rfl, (blk_cell BK284.out 7).trans rfl, (blk_cell BK284.out 8).trans rfl⟩ (fun hHeld => ?_)
           clear hK K
           refine norm_ (a' := ?_) ?_ ?_
           rotate_left
           ·show Act.put _ (some 56) _ = _
            simp only [Act.put, List.setIfInBounds_toArray, List.set_cons_zero, List.set_cons_succ, i64_w, i32_w]
            rfl
           refine pu_ 5 51 goodB2 HT_ ?_
           refine pu_ 6 57 goodB3 HT_ ?_
           refine pu_ 7 58 goodB4 HT_ ?_
           refine pu_ 8 6 goodB5 HT_ ?_
           refine pu_ 9 7 goodB6 HT_ ?_
           refine done_ (done_of HT_.out (by kernel_rfl)) ?_
           have p39 : 0 ≤ (x5_2 : Int) := of_decide_eq_true (by (with_reducible assumption))
           have q39 : x5_2 < (5 : Int) := of_decide_eq_true (by (assumption))
           have hx39 := bt_at (⟨#[99, 101, 114, 115, 100]⟩ : ByteArray) x5_2
           replace p39 := eq_true p39
           replace q39 := eq_true q39
           try go_wp2_with (first | ((with_reducible refine gate_callee (f := 68) rfl ?_); refine goesL_ (some 63) rfl rfl Try.func68 (by kernel_rfl) rfl #[.string t285, .int .u8 (bt (⟨#[99, 101, 114, 115, 100]⟩ : ByteArray) x5_2)] rfl (by (try simp only [List.map_toArray, List.map_cons, List.map_nil]); (rfl)) ?_; (with_reducible refine (variorumref11_has.calls k2 t285 (bt (⟨#[99, 101, 114, 115, 100]⟩ : ByteArray) x5_2) true _ A40.out).mono ?_); rintro e w' ⟨rfl, ⟨nd, rfl⟩⟩; refine ⟨_, rfl, ?_⟩))
           go_roundg k2
           case measure => have := HJ2.out; have := HK2.out; omega
           case rel => exact ⟨(wrap64 (x5_2 + 1)), (by (rfl)), H', ⟨by have := HJ2.out; have := HK2.out; omega⟩, ⟨by (with_reducible repeat ((refine blk_drewN ?_ _))); exact BK284.out⟩, ⟨by repeat ((with_reducible first | exact HB.out | apply pw_below_drewN))⟩⟩
        ·replace c41 := Bool.eq_false_iff.mpr c41
         subst c41
         have H1 : (if t295 < 0 then (some false) else (if t295 > 0 then (some false) else (variorumref11_Good.l0 k2 t285 (⟨#[99, 101, 114, 115, 100]⟩ : ByteArray) (wrap64 (x5_2 + 1)) a0_0 a0_1 a0_2 a0_3 a0_4 a0_5 l0_6 a0_7 l0_8))) = some r := by rw [if_neg (show ¬ (false = true) by decide)] at H; exact H
         clear H
         have H := H1
         clear H1
         by_cases c50 : t295 < 0
         ·rw [if_pos c50] at H
          have c50b0 : decide (t295 < 0) = true := decide_eq_true c50
          clear c50
          obtain rfl := Option.some.inj H
          try have qq0 : x5_2 < (5 : Int) := of_decide_eq_true (by assumption)
          try have qq1 : ¬ x5_2 < (5 : Int) := of_decide_eq_false (by assumption)
          try go_wp2
          have n0_ := Aside0.mk (blk_drew BK284.out)
          have n1_ := Aside0.mk (below_drew1 HB.out)
          clear BK284
          clear HB
          have BK284 := n0_
          have HB := n1_
          clear n0_ n1_
          have p37 : 0 ≤ (x5_2 : Int) := of_decide_eq_true (by (with_reducible assumption))
          have q37 : x5_2 < (5 : Int) := of_decide_eq_true (by (assumption))
          have hx37 := bt_at (⟨#[99, 101, 114, 115, 100]⟩ : ByteArray) x5_2
          replace p37 := eq_true p37
          replace q37 := eq_true q37
          refine start_ (n := 10) (S := fun w' => w'.cell? ⟨gb284, 0, none⟩ = some (.int .i64 a0_0) ∧ w'.cell? ⟨gb284, 1, none⟩ = some (.int .i64 a0_1) ∧ w'.cell? ⟨gb284, 2, none⟩ = some (.int .i64 a0_2) ∧ w'.cell? ⟨gb284, 3, none⟩ = some (.int .i64 a0_3) ∧ w'.cell? ⟨gb284, 4, none⟩ = some (.int .i64 a0_4) ∧ w'.cell? ⟨gb284, 5, none⟩ = some (.int .i64 a0_5) ∧ w'.cell? ⟨gb284, 6, none⟩ = some (.slice A0_6 l0_6.length c0_6) ∧ w'.cell? ⟨gb284, 7, none⟩ = some (.string a0_7) ∧ w'.cell? ⟨gb284, 8, none⟩ = some (.slice A0_8 l0_8.length c0_8)) (ds := []) goodB9 (by kernel_rfl) rfl rfl ⟨(blk_cell BK284.out 0).trans rfl, (blk_cell BK284.out 1).trans rfl, (blk_cell BK284.out 2).trans rfl, (blk_cell BK284.out 3).trans rfl, (blk_cell BK284.out 4).trans rfl, (blk_cell BK284.out 5).trans rfl, (blk_cell BK284.out 6).trans rfl, (blk_cell BK284.out 7).trans rfl, (blk_cell BK284.out 8).trans rfl⟩ (fun hHeld => ?_); refine with_tabW variorumref11_Good.tab8 variorumref11_Good.bits8 (fun HT_ HW_ => ?_)
          generalize wr.drew = w51 at BK284 HB hHeld ⊢
          refine pu_ 1 53 goodB0 HT_ ?_
          refine pu_ 2 54 goodB1 HT_ ?_
          refine pt_ 0 52 goodB7 HT_ HW_ rfl hHeld (by rintro w' ⟨s0, s1, s2, s3, s4, s5, s6, s7, s8⟩; go_simp; with_reducible rfl) ?_
          refine pt_ 3 55 goodB8 HT_ HW_ rfl hHeld (by rintro w' ⟨s0, s1, s2, s3, s4, s5, s6, s7, s8⟩; go_simp; with_reducible rfl) ?_
          refine one_ (i := 4) (N := some 56) goodB10 rfl rfl (one_of HT_.out (by kernel_rfl)) (by decide) (fun K hK => ?_)
          refine goes_ Try.func66 (by kernel_rfl) rfl #[.agg #[.int .i64 a0_0, .int .i64 a0_1, .int .i64 a0_2, .int .i64 a0_3, .int .i64 a0_4, .int .i64 a0_5, .slice A0_6 l0_6.length c0_6, .string a0_7, .slice A0_8 l0_8.length c0_8], .int .u8 (bt (⟨#[99, 101, 114, 115, 100]⟩ : ByteArray) x5_2)] (by rfl) rfl rfl (by (try simp only [List.map_toArray, List.map_cons, List.map_nil]); (rfl)) ?_
          with_reducible refine (variorumref11_num.calls a0_0 a0_1 a0_2 a0_3 a0_4 a0_5 _ _ l0_6 a0_7 _ _ l0_8 (bt (⟨#[99, 101, 114, 115, 100]⟩ : ByteArray) x5_2) t295 t296 _ ?side1 ?side2 ?side3 ?side4 A38.out).mono ?_
          (case side1 => repeat ((exact (Kd.C_below HR0_6.out HB.out))))
          (case side2 => exact HC0_6.out)
          (case side3 => repeat ((exact (Kd.C_below HR0_8.out HB.out))))
          (case side4 => exact HC0_8.out)
          rintro e w52 ⟨rfl, hb⟩
          refine ⟨_, rfl, ?_⟩
          have n0_ := Aside0.mk (blk_below (g := gb284) (o := .cells #[.int .i64 a0_0, .int .i64 a0_1, .int .i64 a0_2, .int .i64 a0_3, .int .i64 a0_4, .int .i64 a0_5, .slice A0_6 l0_6.length c0_6, .string a0_7, .slice A0_8 l0_8.length c0_8] 44 (0, 0)) (by (with_reducible repeat ((refine blk_drew ?_))); exact BK284.out) hb)
          have n1_ := Aside0.mk (below_step (by repeat ((with_reducible (exact HB.out)))) hb)
          clear BK284
          clear HB
          have BK284 := n0_
          have HB := n1_
          clear n0_ n1_
          (try clear hb)
          (try clear hb2)
          (try clear hk)
          (try clear hi)
          refine hK.out _ _ ⟨(blk_cell BK284.out 0).trans rfl, (blk_cell BK284.out 1).trans rfl, (blk_cell BK284.out 2).trans rfl, (blk_cell BK284.out 3).trans rfl, (blk_cell BK284.out 4).trans rfl, (blk_cell BK284.out 5).trans rfl, (blk_cell BK284.out 6).trans rfl, (blk_cell BK284.out 7).trans rfl, (blk_cell BK284.out 8).trans rfl⟩ (fun hHeld => ?_)
          clear hK K
          refine norm_ (a' := ?_) ?_ ?_
          rotate_left
          ·show Act.put _ (some 56) _ = _
           simp only [Act.put, List.setIfInBounds_toArray, List.set_cons_zero, List.set_cons_succ, i64_w, i32_w]
           rfl
          refine pu_ 5 51 goodB2 HT_ ?_
          refine pu_ 6 57 goodB3 HT_ ?_
          refine pu_ 7 58 goodB4 HT_ ?_
          refine pu_ 8 6 goodB5 HT_ ?_
          refine pu_ 9 7 goodB6 HT_ ?_
          refine done_ (done_of HT_.out (by kernel_rfl)) ?_
          have p39 : 0 ≤ (x5_2 : Int) := of_decide_eq_true (by (with_reducible assumption))
          have q39 : x5_2 < (5 : Int) := of_decide_eq_true (by (assumption))
          have hx39 := bt_at (⟨#[99, 101, 114, 115, 100]⟩ : ByteArray) x5_2
          replace p39 := eq_true p39
          replace q39 := eq_true q39
          try go_wp2_with (first | ((with_reducible refine gate_callee (f := 68) rfl ?_); refine goesL_ (some 63) rfl rfl Try.func68 (by kernel_rfl) rfl #[.string t285, .int .u8 (bt (⟨#[99, 101, 114, 115, 100]⟩ : ByteArray) x5_2)] rfl (by (try simp only [List.map_toArray, List.map_cons, List.map_nil]); (rfl)) ?_; (with_reducible refine (variorumref11_has.calls k2 t285 (bt (⟨#[99, 101, 114, 115, 100]⟩ : ByteArray) x5_2) false _ A40.out).mono ?_); rintro e w' ⟨rfl, ⟨nd, rfl⟩⟩; refine ⟨_, rfl, ?_⟩))
          go_ret
          exact ⟨by (rfl), by repeat ((with_reducible first | exact HB.out | apply pw_below_drewN))⟩
         ·rw [if_neg c50] at H
          have c50b0 : decide (t295 < 0) = false := decide_eq_false c50
          clear c50
          by_cases c53 : t295 > 0
          ·rw [if_pos c53] at H
           have c53b0 : decide (0 < t295) = true := decide_eq_true c53
           clear c53
           obtain rfl := Option.some.inj H
           try have qq0 : x5_2 < (5 : Int) := of_decide_eq_true (by assumption)
           try have qq1 : ¬ x5_2 < (5 : Int) := of_decide_eq_false (by assumption)
           try go_wp2
           have n0_ := Aside0.mk (blk_drew BK284.out)
           have n1_ := Aside0.mk (below_drew1 HB.out)
           clear BK284
           clear HB
           have BK284 := n0_
           have HB := n1_
           clear n0_ n1_
           have p37 : 0 ≤ (x5_2 : Int) := of_decide_eq_true (by (with_reducible assumption))
           have q37 : x5_2 < (5 : Int) := of_decide_eq_true (by (assumption))
           have hx37 := bt_at (⟨#[99, 101, 114, 115, 100]⟩ : ByteArray) x5_2
           replace p37 := eq_true p37
           replace q37 := eq_true q37
           refine start_ (n := 10) (S := fun w' => w'.cell? ⟨gb284, 0, none⟩ = some (.int .i64 a0_0) ∧ w'.cell? ⟨gb284, 1, none⟩ = some (.int .i64 a0_1) ∧ w'.cell? ⟨gb284, 2, none⟩ = some (.int .i64 a0_2) ∧ w'.cell? ⟨gb284, 3, none⟩ = some (.int .i64 a0_3) ∧ w'.cell? ⟨gb284, 4, none⟩ = some (.int .i64 a0_4) ∧ w'.cell? ⟨gb284, 5, none⟩ = some (.int .i64 a0_5) ∧ w'.cell? ⟨gb284, 6, none⟩ = some (.slice A0_6 l0_6.length c0_6) ∧ w'.cell? ⟨gb284, 7, none⟩ = some (.string a0_7) ∧ w'.cell? ⟨gb284, 8, none⟩ = some (.slice A0_8 l0_8.length c0_8)) (ds := []) goodB9 (by kernel_rfl) rfl rfl ⟨(blk_cell BK284.out 0).trans rfl, (blk_cell BK284.out 1).trans rfl, (blk_cell BK284.out 2).trans rfl, (blk_cell BK284.out 3).trans rfl, (blk_cell BK284.out 4).trans rfl, (blk_cell BK284.out 5).trans rfl, (blk_cell BK284.out 6).trans rfl, (blk_cell BK284.out 7).trans rfl, (blk_cell BK284.out 8).trans rfl⟩ (fun hHeld => ?_); refine with_tabW variorumref11_Good.tab8 variorumref11_Good.bits8 (fun HT_ HW_ => ?_)
           generalize wr.drew = w54 at BK284 HB hHeld ⊢
           refine pu_ 1 53 goodB0 HT_ ?_
           refine pu_ 2 54 goodB1 HT_ ?_
           refine pt_ 0 52 goodB7 HT_ HW_ rfl hHeld (by rintro w' ⟨s0, s1, s2, s3, s4, s5, s6, s7, s8⟩; go_simp; with_reducible rfl) ?_
           refine pt_ 3 55 goodB8 HT_ HW_ rfl hHeld (by rintro w' ⟨s0, s1, s2, s3, s4, s5, s6, s7, s8⟩; go_simp; with_reducible rfl) ?_
           refine one_ (i := 4) (N := some 56) goodB10 rfl rfl (one_of HT_.out (by kernel_rfl)) (by decide) (fun K hK => ?_)
           refine goes_ Try.func66 (by kernel_rfl) rfl #[.agg #[.int .i64 a0_0, .int .i64 a0_1, .int .i64 a0_2, .int .i64 a0_3, .int .i64 a0_4, .int .i64 a0_5, .slice A0_6 l0_6.length c0_6, .string a0_7, .slice A0_8 l0_8.length c0_8], .int .u8 (bt (⟨#[99, 101, 114, 115, 100]⟩ : ByteArray) x5_2)] (by rfl) rfl rfl (by (try simp only [List.map_toArray, List.map_cons, List.map_nil]); (rfl)) ?_
           with_reducible refine (variorumref11_num.calls a0_0 a0_1 a0_2 a0_3 a0_4 a0_5 _ _ l0_6 a0_7 _ _ l0_8 (bt (⟨#[99, 101, 114, 115, 100]⟩ : ByteArray) x5_2) t295 t296 _ ?side1 ?side2 ?side3 ?side4 A38.out).mono ?_
           (case side1 => repeat ((exact (Kd.C_below HR0_6.out HB.out))))
           (case side2 => exact HC0_6.out)
           (case side3 => repeat ((exact (Kd.C_below HR0_8.out HB.out))))
           (case side4 => exact HC0_8.out)
           rintro e w55 ⟨rfl, hb⟩
           refine ⟨_, rfl, ?_⟩
           have n0_ := Aside0.mk (blk_below (g := gb284) (o := .cells #[.int .i64 a0_0, .int .i64 a0_1, .int .i64 a0_2, .int .i64 a0_3, .int .i64 a0_4, .int .i64 a0_5, .slice A0_6 l0_6.length c0_6, .string a0_7, .slice A0_8 l0_8.length c0_8] 44 (0, 0)) (by (with_reducible repeat ((refine blk_drew ?_))); exact BK284.out) hb)
           have n1_ := Aside0.mk (below_step (by repeat ((with_reducible (exact HB.out)))) hb)
           clear BK284
           clear HB
           have BK284 := n0_
           have HB := n1_
           clear n0_ n1_
           (try clear hb)
           (try clear hb2)
           (try clear hk)
           (try clear hi)
           refine hK.out _ _ ⟨(blk_cell BK284.out 0).trans rfl, (blk_cell BK284.out 1).trans rfl, (blk_cell BK284.out 2).trans rfl, (blk_cell BK284.out 3).trans rfl, (blk_cell BK284.out 4).trans rfl, (blk_cell BK284.out 5).trans rfl, (blk_cell BK284.out 6).trans rfl, (blk_cell BK284.out 7).trans rfl, (blk_cell BK284.out 8).trans rfl⟩ (fun hHeld => ?_)
           clear hK K
           refine norm_ (a' := ?_) ?_ ?_
           rotate_left
           ·show Act.put _ (some 56) _ = _
            simp only [Act.put, List.setIfInBounds_toArray, List.set_cons_zero, List.set_cons_succ, i64_w, i32_w]
            rfl
           refine pu_ 5 51 goodB2 HT_ ?_
           refine pu_ 6 57 goodB3 HT_ ?_
           refine pu_ 7 58 goodB4 HT_ ?_
           refine pu_ 8 6 goodB5 HT_ ?_
           refine pu_ 9 7 goodB6 HT_ ?_
           refine done_ (done_of HT_.out (by kernel_rfl)) ?_
           have p39 : 0 ≤ (x5_2 : Int) := of_decide_eq_true (by (with_reducible assumption))
           have q39 : x5_2 < (5 : Int) := of_decide_eq_true (by (assumption))
           have hx39 := bt_at (⟨#[99, 101, 114, 115, 100]⟩ : ByteArray) x5_2
           replace p39 := eq_true p39
           replace q39 := eq_true q39
           try go_wp2_with (first | ((with_reducible refine gate_callee (f := 68) rfl ?_); refine goesL_ (some 63) rfl rfl Try.func68 (by kernel_rfl) rfl #[.string t285, .int .u8 (bt (⟨#[99, 101, 114, 115, 100]⟩ : ByteArray) x5_2)] rfl (by (try simp only [List.map_toArray, List.map_cons, List.map_nil]); (rfl)) ?_; (with_reducible refine (variorumref11_has.calls k2 t285 (bt (⟨#[99, 101, 114, 115, 100]⟩ : ByteArray) x5_2) false _ A40.out).mono ?_); rintro e w' ⟨rfl, ⟨nd, rfl⟩⟩; refine ⟨_, rfl, ?_⟩))
           go_ret
           exact ⟨by (rfl), by repeat ((with_reducible first | exact HB.out | apply pw_below_drewN))⟩
          ·rw [if_neg c53] at H
           have c53b0 : decide (0 < t295) = false := decide_eq_false c53
           clear c53
           have H' := Aside0.mk H
           clear H
           try have qq0 : x5_2 < (5 : Int) := of_decide_eq_true (by assumption)
           try have qq1 : ¬ x5_2 < (5 : Int) := of_decide_eq_false (by assumption)
           try go_wp2
           have n0_ := Aside0.mk (blk_drew BK284.out)
           have n1_ := Aside0.mk (below_drew1 HB.out)
           clear BK284
           clear HB
           have BK284 := n0_
           have HB := n1_
           clear n0_ n1_
           have p37 : 0 ≤ (x5_2 : Int) := of_decide_eq_true (by (with_reducible assumption))
           have q37 : x5_2 < (5 : Int) := of_decide_eq_true (by (assumption))
           have hx37 := bt_at (⟨#[99, 101, 114, 115, 100]⟩ : ByteArray) x5_2
           replace p37 := eq_true p37
           replace q37 := eq_true q37
           refine start_ (n := 10) (S := fun w' => w'.cell? ⟨gb284, 0, none⟩ = some (.int .i64 a0_0) ∧ w'.cell? ⟨gb284, 1, none⟩ = some (.int .i64 a0_1) ∧ w'.cell? ⟨gb284, 2, none⟩ = some (.int .i64 a0_2) ∧ w'.cell? ⟨gb284, 3, none⟩ = some (.int .i64 a0_3) ∧ w'.cell? ⟨gb284, 4, none⟩ = some (.int .i64 a0_4) ∧ w'.cell? ⟨gb284, 5, none⟩ = some (.int .i64 a0_5) ∧ w'.cell? ⟨gb284, 6, none⟩ = some (.slice A0_6 l0_6.length c0_6) ∧ w'.cell? ⟨gb284, 7, none⟩ = some (.string a0_7) ∧ w'.cell? ⟨gb284, 8, none⟩ = some (.slice A0_8 l0_8.length c0_8)) (ds := []) goodB9 (by kernel_rfl) rfl rfl ⟨(blk_cell BK284.out 0).trans rfl, (blk_cell BK284.out 1).trans rfl, (blk_cell BK284.out 2).trans rfl, (blk_cell BK284.out 3).trans rfl, (blk_cell BK284.out 4).trans rfl, (blk_cell BK284.out 5).trans rfl, (blk_cell BK284.out 6).trans rfl, (blk_cell BK284.out 7).trans rfl, (blk_cell BK284.out 8).trans rfl⟩ (fun hHeld => ?_); refine with_tabW variorumref11_Good.tab8 variorumref11_Good.bits8 (fun HT_ HW_ => ?_)
           generalize wr.drew = w56 at BK284 HB hHeld ⊢
           refine pu_ 1 53 goodB0 HT_ ?_
           refine pu_ 2 54 goodB1 HT_ ?_
           refine pt_ 0 52 goodB7 HT_ HW_ rfl hHeld (by rintro w' ⟨s0, s1, s2, s3, s4, s5, s6, s7, s8⟩; go_simp; with_reducible rfl) ?_
           refine pt_ 3 55 goodB8 HT_ HW_ rfl hHeld (by rintro w' ⟨s0, s1, s2, s3, s4, s5, s6, s7, s8⟩; go_simp; with_reducible rfl) ?_
           refine one_ (i := 4) (N := some 56) goodB10 rfl rfl (one_of HT_.out (by kernel_rfl)) (by decide) (fun K hK => ?_)
           refine goes_ Try.func66 (by kernel_rfl) rfl #[.agg #[.int .i64 a0_0, .int .i64 a0_1, .int .i64 a0_2, .int .i64 a0_3, .int .i64 a0_4, .int .i64 a0_5, .slice A0_6 l0_6.length c0_6, .string a0_7, .slice A0_8 l0_8.length c0_8], .int .u8 (bt (⟨#[99, 101, 114, 115, 100]⟩ : ByteArray) x5_2)] (by rfl) rfl rfl (by (try simp only [List.map_toArray, List.map_cons, List.map_nil]); (rfl)) ?_
           with_reducible refine (variorumref11_num.calls a0_0 a0_1 a0_2 a0_3 a0_4 a0_5 _ _ l0_6 a0_7 _ _ l0_8 (bt (⟨#[99, 101, 114, 115, 100]⟩ : ByteArray) x5_2) t295 t296 _ ?side1 ?side2 ?side3 ?side4 A38.out).mono ?_
           (case side1 => repeat ((exact (Kd.C_below HR0_6.out HB.out))))
           (case side2 => exact HC0_6.out)
           (case side3 => repeat ((exact (Kd.C_below HR0_8.out HB.out))))
           (case side4 => exact HC0_8.out)
           rintro e w57 ⟨rfl, hb⟩
           refine ⟨_, rfl, ?_⟩
           have n0_ := Aside0.mk (blk_below (g := gb284) (o := .cells #[.int .i64 a0_0, .int .i64 a0_1, .int .i64 a0_2, .int .i64 a0_3, .int .i64 a0_4, .int .i64 a0_5, .slice A0_6 l0_6.length c0_6, .string a0_7, .slice A0_8 l0_8.length c0_8] 44 (0, 0)) (by (with_reducible repeat ((refine blk_drew ?_))); exact BK284.out) hb)
           have n1_ := Aside0.mk (below_step (by repeat ((with_reducible (exact HB.out)))) hb)
           clear BK284
           clear HB
           have BK284 := n0_
           have HB := n1_
           clear n0_ n1_
           (try clear hb)
           (try clear hb2)
           (try clear hk)
           (try clear hi)
           refine hK.out _ _ ⟨(blk_cell BK284.out 0).trans rfl, (blk_cell BK284.out 1).trans rfl, (blk_cell BK284.out 2).trans rfl, (blk_cell BK284.out 3).trans rfl, (blk_cell BK284.out 4).trans rfl, (blk_cell BK284.out 5).trans rfl, (blk_cell BK284.out 6).trans rfl, (blk_cell BK284.out 7).trans rfl, (blk_cell BK284.out 8).trans rfl⟩ (fun hHeld => ?_)
           clear hK K
           refine norm_ (a' := ?_) ?_ ?_
           rotate_left
           ·show Act.put _ (some 56) _ = _
            simp only [Act.put, List.setIfInBounds_toArray, List.set_cons_zero, List.set_cons_succ, i64_w, i32_w]
            rfl
           refine pu_ 5 51 goodB2 HT_ ?_
           refine pu_ 6 57 goodB3 HT_ ?_
           refine pu_ 7 58 goodB4 HT_ ?_
           refine pu_ 8 6 goodB5 HT_ ?_
           refine pu_ 9 7 goodB6 HT_ ?_
           refine done_ (done_of HT_.out (by kernel_rfl)) ?_
           have p39 : 0 ≤ (x5_2 : Int) := of_decide_eq_true (by (with_reducible assumption))
           have q39 : x5_2 < (5 : Int) := of_decide_eq_true (by (assumption))
           have hx39 := bt_at (⟨#[99, 101, 114, 115, 100]⟩ : ByteArray) x5_2
           replace p39 := eq_true p39
           replace q39 := eq_true q39
           try go_wp2_with (first | ((with_reducible refine gate_callee (f := 68) rfl ?_); refine goesL_ (some 63) rfl rfl Try.func68 (by kernel_rfl) rfl #[.string t285, .int .u8 (bt (⟨#[99, 101, 114, 115, 100]⟩ : ByteArray) x5_2)] rfl (by (try simp only [List.map_toArray, List.map_cons, List.map_nil]); (rfl)) ?_; (with_reducible refine (variorumref11_has.calls k2 t285 (bt (⟨#[99, 101, 114, 115, 100]⟩ : ByteArray) x5_2) false _ A40.out).mono ?_); rintro e w' ⟨rfl, ⟨nd, rfl⟩⟩; refine ⟨_, rfl, ?_⟩))
           go_roundg k2
           case measure => have := HJ2.out; have := HK2.out; omega
           case rel => exact ⟨(wrap64 (x5_2 + 1)), (by (rfl)), H', ⟨by have := HJ2.out; have := HK2.out; omega⟩, ⟨by (with_reducible repeat ((refine blk_drewN ?_ _))); exact BK284.out⟩, ⟨by repeat ((with_reducible first | exact HB.out | apply pw_below_drewN))⟩⟩
       ·rw [if_neg c36] at H
        exact absurd H (by simp)
      ·rw [if_neg c35] at H
       have c35b0 : decide (x5_2 < ((⟨#[99, 101, 114, 115, 100]⟩ : ByteArray).size : Int)) = false := decide_eq_false c35
       clear c35
       replace H := Option.bind_eq_some_iff.mp H
       obtain ⟨t293, A580, H⟩ := H
       replace H : (if t293 = true then (if (a0_7.size : Int) ≤ 16777216 then ((variorumref11_Notes.f k2 l0_8).bind fun t294 => (some t294)) else (some false)) else (some false)) = some r := H
       have A58 := Aside0.mk A580
       clear A580
       by_cases c59 : t293 = true
       ·subst c59
        have H1 : (if (a0_7.size : Int) ≤ 16777216 then ((variorumref11_Notes.f k2 l0_8).bind fun t294 => (some t294)) else (some false)) = some r := by rw [if_pos rfl] at H; exact H
        clear H
        have H := H1
        clear H1
        by_cases c60 : (a0_7.size : Int) ≤ 16777216
        ·rw [if_pos c60] at H
         have c60b0 : decide ((a0_7.size : Int) ≤ 16777216) = true := decide_eq_true c60
         have c60b1 : decide (a0_7.size ≤ 16777216) = true := decide_eq_true (by omega)
         clear c60
         replace H := Option.bind_eq_some_iff.mp H
         obtain ⟨t294, A610, H⟩ := H
         replace H : (some t294) = some r := H
         have A61 := Aside0.mk A610
         clear A610
         obtain rfl := Option.some.inj H
         have hcz62_0 : wr.cell? ⟨gb284, 0, none⟩ = some (.int .i64 a0_0) := (blk_cell BK284.out 0).trans rfl
         have hcz62_1 : wr.cell? ⟨gb284, 1, none⟩ = some (.int .i64 a0_1) := (blk_cell BK284.out 1).trans rfl
         have hcz62_2 : wr.cell? ⟨gb284, 2, none⟩ = some (.int .i64 a0_2) := (blk_cell BK284.out 2).trans rfl
         have hcz62_3 : wr.cell? ⟨gb284, 3, none⟩ = some (.int .i64 a0_3) := (blk_cell BK284.out 3).trans rfl
         have hcz62_4 : wr.cell? ⟨gb284, 4, none⟩ = some (.int .i64 a0_4) := (blk_cell BK284.out 4).trans rfl
         have hcz62_5 : wr.cell? ⟨gb284, 5, none⟩ = some (.int .i64 a0_5) := (blk_cell BK284.out 5).trans rfl
         have hcz62_6 : wr.cell? ⟨gb284, 6, none⟩ = some (.slice A0_6 l0_6.length c0_6) := (blk_cell BK284.out 6).trans rfl
         have hcz62_7 : wr.cell? ⟨gb284, 7, none⟩ = some (.string a0_7) := (blk_cell BK284.out 7).trans rfl
         have hcz62_8 : wr.cell? ⟨gb284, 8, none⟩ = some (.slice A0_8 l0_8.length c0_8) := (blk_cell BK284.out 8).trans rfl
         have hfz62_0 := blk_frozen BK284.out 0
         have hfz62_1 := blk_frozen BK284.out 1
         have hfz62_2 := blk_frozen BK284.out 2
         have hfz62_3 := blk_frozen BK284.out 3
         have hfz62_4 := blk_frozen BK284.out 4
         have hfz62_5 := blk_frozen BK284.out 5
         have hfz62_6 := blk_frozen BK284.out 6
         have hfz62_7 := blk_frozen BK284.out 7
         have hfz62_8 := blk_frozen BK284.out 8
         try have qq0 : x5_2 < (5 : Int) := of_decide_eq_true (by assumption)
         try have qq1 : ¬ x5_2 < (5 : Int) := of_decide_eq_false (by assumption)
         go_wp2_with (first | ((with_reducible refine gate_callee (f := 69) rfl ?_); refine goesL_ (some 74) rfl rfl Try.func69 (by kernel_rfl) rfl #[.slice A0_6 l0_6.length c0_6] rfl (by (try simp only [List.map_toArray, List.map_cons, List.map_nil]); (rfl)) ?_; (with_reducible refine (variorumref06_Good.calls _ _ l0_6 true _ ?side1 ?side2 A58.out).mono ?_); (case side1 => repeat ((exact (Kd.C_below HR0_6.out HB.out)))); (case side2 => exact HC0_6.out); rintro e w63 ⟨rfl, hb⟩; refine ⟨_, rfl, ?_⟩; have n0_ := Aside0.mk (blk_below (g := gb284) (o := .cells #[.int .i64 a0_0, .int .i64 a0_1, .int .i64 a0_2, .int .i64 a0_3, .int .i64 a0_4, .int .i64 a0_5, .slice A0_6 l0_6.length c0_6, .string a0_7, .slice A0_8 l0_8.length c0_8] 44 (0, 0)) (by (with_reducible repeat ((refine blk_drew ?_))); exact BK284.out) hb); have n1_ := Aside0.mk (below_step (by repeat ((with_reducible (exact HB.out)))) hb); clear BK284; clear HB; have BK284 := n0_; have HB := n1_; clear n0_ n1_; (try clear hb); (try clear hb2); (try clear hk); (try clear hi); have hcz64_0 : w63.cell? ⟨gb284, 0, none⟩ = some (.int .i64 a0_0) := (blk_cell BK284.out 0).trans rfl; have hcz64_1 : w63.cell? ⟨gb284, 1, none⟩ = some (.int .i64 a0_1) := (blk_cell BK284.out 1).trans rfl; have hcz64_2 : w63.cell? ⟨gb284, 2, none⟩ = some (.int .i64 a0_2) := (blk_cell BK284.out 2).trans rfl; have hcz64_3 : w63.cell? ⟨gb284, 3, none⟩ = some (.int .i64 a0_3) := (blk_cell BK284.out 3).trans rfl; have hcz64_4 : w63.cell? ⟨gb284, 4, none⟩ = some (.int .i64 a0_4) := (blk_cell BK284.out 4).trans rfl; have hcz64_5 : w63.cell? ⟨gb284, 5, none⟩ = some (.int .i64 a0_5) := (blk_cell BK284.out 5).trans rfl; have hcz64_6 : w63.cell? ⟨gb284, 6, none⟩ = some (.slice A0_6 l0_6.length c0_6) := (blk_cell BK284.out 6).trans rfl; have hcz64_7 : w63.cell? ⟨gb284, 7, none⟩ = some (.string a0_7) := (blk_cell BK284.out 7).trans rfl; have hcz64_8 : w63.cell? ⟨gb284, 8, none⟩ = some (.slice A0_8 l0_8.length c0_8) := (blk_cell BK284.out 8).trans rfl; have hfz64_0 := blk_frozen BK284.out 0; have hfz64_1 := blk_frozen BK284.out 1; have hfz64_2 := blk_frozen BK284.out 2; have hfz64_3 := blk_frozen BK284.out 3; have hfz64_4 := blk_frozen BK284.out 4; have hfz64_5 := blk_frozen BK284.out 5; have hfz64_6 := blk_frozen BK284.out 6; have hfz64_7 := blk_frozen BK284.out 7; have hfz64_8 := blk_frozen BK284.out 8) | (go_at_call 70; (with_reducible refine (variorumref11_Notes.calls k2 _ _ l0_8 t294 _ ?side1 ?side2 A61.out).mono ?_); (case side1 => repeat ((exact (Kd.C_below HR0_8.out HB.out)))); (case side2 => exact HC0_8.out); rintro e w65 ⟨rfl, hb⟩; have n0_ := Aside0.mk (blk_below (g := gb284) (o := .cells #[.int .i64 a0_0, .int .i64 a0_1, .int .i64 a0_2, .int .i64 a0_3, .int .i64 a0_4, .int .i64 a0_5, .slice A0_6 l0_6.length c0_6, .string a0_7, .slice A0_8 l0_8.length c0_8] 44 (0, 0)) (by (with_reducible repeat ((refine blk_drew ?_))); exact BK284.out) hb); have n1_ := Aside0.mk (below_step (by repeat ((with_reducible (exact HB.out)))) hb); clear BK284; clear HB; have BK284 := n0_; have HB := n1_; clear n0_ n1_; (try clear hb); (try clear hb2); (try clear hk); (try clear hi)))
         go_ret
         exact ⟨by (rfl), by repeat ((with_reducible (exact HB.out)))⟩
        ·rw [if_neg c60] at H
         have c60b0 : decide ((a0_7.size : Int) ≤ 16777216) = false := decide_eq_false c60
         have c60b1 : decide (a0_7.size ≤ 16777216) = false := decide_eq_false (by omega)
         clear c60
         obtain rfl := Option.some.inj H
         have hcz66_0 : wr.cell? ⟨gb284, 0, none⟩ = some (.int .i64 a0_0) := (blk_cell BK284.out 0).trans rfl
         have hcz66_1 : wr.cell? ⟨gb284, 1, none⟩ = some (.int .i64 a0_1) := (blk_cell BK284.out 1).trans rfl
         have hcz66_2 : wr.cell? ⟨gb284, 2, none⟩ = some (.int .i64 a0_2) := (blk_cell BK284.out 2).trans rfl
         have hcz66_3 : wr.cell? ⟨gb284, 3, none⟩ = some (.int .i64 a0_3) := (blk_cell BK284.out 3).trans rfl
         have hcz66_4 : wr.cell? ⟨gb284, 4, none⟩ = some (.int .i64 a0_4) := (blk_cell BK284.out 4).trans rfl
         have hcz66_5 : wr.cell? ⟨gb284, 5, none⟩ = some (.int .i64 a0_5) := (blk_cell BK284.out 5).trans rfl
         have hcz66_6 : wr.cell? ⟨gb284, 6, none⟩ = some (.slice A0_6 l0_6.length c0_6) := (blk_cell BK284.out 6).trans rfl
         have hcz66_7 : wr.cell? ⟨gb284, 7, none⟩ = some (.string a0_7) := (blk_cell BK284.out 7).trans rfl
         have hcz66_8 : wr.cell? ⟨gb284, 8, none⟩ = some (.slice A0_8 l0_8.length c0_8) := (blk_cell BK284.out 8).trans rfl
         have hfz66_0 := blk_frozen BK284.out 0
         have hfz66_1 := blk_frozen BK284.out 1
         have hfz66_2 := blk_frozen BK284.out 2
         have hfz66_3 := blk_frozen BK284.out 3
         have hfz66_4 := blk_frozen BK284.out 4
         have hfz66_5 := blk_frozen BK284.out 5
         have hfz66_6 := blk_frozen BK284.out 6
         have hfz66_7 := blk_frozen BK284.out 7
         have hfz66_8 := blk_frozen BK284.out 8
         try have qq0 : x5_2 < (5 : Int) := of_decide_eq_true (by assumption)
         try have qq1 : ¬ x5_2 < (5 : Int) := of_decide_eq_false (by assumption)
         go_wp2_with (first | ((with_reducible refine gate_callee (f := 69) rfl ?_); refine goesL_ (some 74) rfl rfl Try.func69 (by kernel_rfl) rfl #[.slice A0_6 l0_6.length c0_6] rfl (by (try simp only [List.map_toArray, List.map_cons, List.map_nil]); (rfl)) ?_; (with_reducible refine (variorumref06_Good.calls _ _ l0_6 true _ ?side1 ?side2 A58.out).mono ?_); (case side1 => repeat ((exact (Kd.C_below HR0_6.out HB.out)))); (case side2 => exact HC0_6.out); rintro e w67 ⟨rfl, hb⟩; refine ⟨_, rfl, ?_⟩; have n0_ := Aside0.mk (blk_below (g := gb284) (o := .cells #[.int .i64 a0_0, .int .i64 a0_1, .int .i64 a0_2, .int .i64 a0_3, .int .i64 a0_4, .int .i64 a0_5, .slice A0_6 l0_6.length c0_6, .string a0_7, .slice A0_8 l0_8.length c0_8] 44 (0, 0)) (by (with_reducible repeat ((refine blk_drew ?_))); exact BK284.out) hb); have n1_ := Aside0.mk (below_step (by repeat ((with_reducible (exact HB.out)))) hb); clear BK284; clear HB; have BK284 := n0_; have HB := n1_; clear n0_ n1_; (try clear hb); (try clear hb2); (try clear hk); (try clear hi); have hcz68_0 : w67.cell? ⟨gb284, 0, none⟩ = some (.int .i64 a0_0) := (blk_cell BK284.out 0).trans rfl; have hcz68_1 : w67.cell? ⟨gb284, 1, none⟩ = some (.int .i64 a0_1) := (blk_cell BK284.out 1).trans rfl; have hcz68_2 : w67.cell? ⟨gb284, 2, none⟩ = some (.int .i64 a0_2) := (blk_cell BK284.out 2).trans rfl; have hcz68_3 : w67.cell? ⟨gb284, 3, none⟩ = some (.int .i64 a0_3) := (blk_cell BK284.out 3).trans rfl; have hcz68_4 : w67.cell? ⟨gb284, 4, none⟩ = some (.int .i64 a0_4) := (blk_cell BK284.out 4).trans rfl; have hcz68_5 : w67.cell? ⟨gb284, 5, none⟩ = some (.int .i64 a0_5) := (blk_cell BK284.out 5).trans rfl; have hcz68_6 : w67.cell? ⟨gb284, 6, none⟩ = some (.slice A0_6 l0_6.length c0_6) := (blk_cell BK284.out 6).trans rfl; have hcz68_7 : w67.cell? ⟨gb284, 7, none⟩ = some (.string a0_7) := (blk_cell BK284.out 7).trans rfl; have hcz68_8 : w67.cell? ⟨gb284, 8, none⟩ = some (.slice A0_8 l0_8.length c0_8) := (blk_cell BK284.out 8).trans rfl; have hfz68_0 := blk_frozen BK284.out 0; have hfz68_1 := blk_frozen BK284.out 1; have hfz68_2 := blk_frozen BK284.out 2; have hfz68_3 := blk_frozen BK284.out 3; have hfz68_4 := blk_frozen BK284.out 4; have hfz68_5 := blk_frozen BK284.out 5; have hfz68_6 := blk_frozen BK284.out 6; have hfz68_7 := blk_frozen BK284.out 7; have hfz68_8 := blk_frozen BK284.out 8))
         go_ret
         exact ⟨by (rfl), by repeat ((with_reducible (exact HB.out)))⟩
       ·replace c59 := Bool.eq_false_iff.mpr c59
        subst c59
        have H1 : (some false) = some r := by rw [if_neg (show ¬ (false = true) by decide)] at H; exact H
        clear H
        have H := H1
        clear H1
        obtain rfl := Option.some.inj H
        have hcz69_0 : wr.cell? ⟨gb284, 0, none⟩ = some (.int .i64 a0_0) := (blk_cell BK284.out 0).trans rfl
        have hcz69_1 : wr.cell? ⟨gb284, 1, none⟩ = some (.int .i64 a0_1) := (blk_cell BK284.out 1).trans rfl
        have hcz69_2 : wr.cell? ⟨gb284, 2, none⟩ = some (.int .i64 a0_2) := (blk_cell BK284.out 2).trans rfl
        have hcz69_3 : wr.cell? ⟨gb284, 3, none⟩ = some (.int .i64 a0_3) := (blk_cell BK284.out 3).trans rfl
        have hcz69_4 : wr.cell? ⟨gb284, 4, none⟩ = some (.int .i64 a0_4) := (blk_cell BK284.out 4).trans rfl
        have hcz69_5 : wr.cell? ⟨gb284, 5, none⟩ = some (.int .i64 a0_5) := (blk_cell BK284.out 5).trans rfl
        have hcz69_6 : wr.cell? ⟨gb284, 6, none⟩ = some (.slice A0_6 l0_6.length c0_6) := (blk_cell BK284.out 6).trans rfl
        have hcz69_7 : wr.cell? ⟨gb284, 7, none⟩ = some (.string a0_7) := (blk_cell BK284.out 7).trans rfl
        have hcz69_8 : wr.cell? ⟨gb284, 8, none⟩ = some (.slice A0_8 l0_8.length c0_8) := (blk_cell BK284.out 8).trans rfl
        have hfz69_0 := blk_frozen BK284.out 0
        have hfz69_1 := blk_frozen BK284.out 1
        have hfz69_2 := blk_frozen BK284.out 2
        have hfz69_3 := blk_frozen BK284.out 3
        have hfz69_4 := blk_frozen BK284.out 4
        have hfz69_5 := blk_frozen BK284.out 5
        have hfz69_6 := blk_frozen BK284.out 6
        have hfz69_7 := blk_frozen BK284.out 7
        have hfz69_8 := blk_frozen BK284.out 8
        try have qq0 : x5_2 < (5 : Int) := of_decide_eq_true (by assumption)
        try have qq1 : ¬ x5_2 < (5 : Int) := of_decide_eq_false (by assumption)
        go_wp2_with (first | ((with_reducible refine gate_callee (f := 69) rfl ?_); refine goesL_ (some 74) rfl rfl Try.func69 (by kernel_rfl) rfl #[.slice A0_6 l0_6.length c0_6] rfl (by (try simp only [List.map_toArray, List.map_cons, List.map_nil]); (rfl)) ?_; (with_reducible refine (variorumref06_Good.calls _ _ l0_6 false _ ?side1 ?side2 A58.out).mono ?_); (case side1 => repeat ((exact (Kd.C_below HR0_6.out HB.out)))); (case side2 => exact HC0_6.out); rintro e w70 ⟨rfl, hb⟩; refine ⟨_, rfl, ?_⟩; have n0_ := Aside0.mk (blk_below (g := gb284) (o := .cells #[.int .i64 a0_0, .int .i64 a0_1, .int .i64 a0_2, .int .i64 a0_3, .int .i64 a0_4, .int .i64 a0_5, .slice A0_6 l0_6.length c0_6, .string a0_7, .slice A0_8 l0_8.length c0_8] 44 (0, 0)) (by (with_reducible repeat ((refine blk_drew ?_))); exact BK284.out) hb); have n1_ := Aside0.mk (below_step (by repeat ((with_reducible (exact HB.out)))) hb); clear BK284; clear HB; have BK284 := n0_; have HB := n1_; clear n0_ n1_; (try clear hb); (try clear hb2); (try clear hk); (try clear hi)))
        go_ret
        exact ⟨by (rfl), by repeat ((with_reducible (exact HB.out)))⟩
end Go.Proofs.Ytedfcjcnhgomoaa.P
end
-- MERGED YtedfcjcnhgomoaaMsgR
section
namespace Go.Proofs.Ytedfcjcnhgomoaa.MsgR
open Go.RowKit Go.Proofs.Ytedfcjcnhgomoaa.EditK Go.Proofs.Ytedfcjcnhgomoaa.P Go.Proofs.YtedfcjcnhgomoaaW.PrintWords Go.Proofs.YtedfcjcnhgomoaaW.PrintLast Go.Proofs.YtedfcjcnhgomoaaW.PrintMore Go.Proofs.Ytedfcjcnhgomoaa.Own Go.Proofs.Ytedfcjcnhgomoaa.NoteN Go.Proofs.Ytedfcjcnhgomoaa.MsgA Go.Proofs.Ytedfcjcnhgomoaa.MsgD Go.Proofs.Ytedfcjcnhgomoaa.MsgE
set_option linter.unusedSimpArgs false
set_option linter.unusedVariables false
theorem has_k {s : ByteArray} {c : Int} {r : Bool} (h : variorumref11_has.f 10 s c = some r) {k : Nat} (hk : 10 ≤ k) : variorumref11_has.f k s c = some r :=
 at_rounds (g := fun k => variorumref11_has.f k s c) (fun k => variorumref11_has.mono s c k) hk h
def numOk (h : Bool) (n q : Int) : Bool := decide (0 ≤ n) && decide (n ≤ if h then q else 0)
def hasF (l : List Int) (f : Int) : Bool := decide (f ∈ l)
def tailB (m : Ms) : Bool := EditL.good m.o && (decide ((m.t.size : Int) ≤ 16777216) && fineL m.n)
def numsB (m : Ms) (l : List Int) : Bool := numOk (hasF l 0) m.c 63 && (numOk (hasF l 1) m.e 4611686018427387904 && (numOk (hasF l 2) m.r 4611686018427387904 && (numOk (hasF l 3) m.s 4611686018427387904 && numOk (hasF l 4) m.d 65536)))
def restB (m : Ms) (l : List Int) : Bool := (hasF l 5 || decide (m.o.length = 0)) && ((hasF l 6 || decide (m.t.size = 0)) && (hasF l 7 || decide (m.n.length = 0)))
def refGood (m : Ms) : Bool := !(fieldsL m.k).isEmpty && (restB m (fieldsL m.k) && (numsB m (fieldsL m.k) && tailB m))
theorem run_cons (go gn : Bool) (f : Int) (l : List Int) (a x : Mg) : ((MsgD.run go gn (f :: l) a).map (lastOk x)).getD false = (a.ok go gn f.toNat && ((MsgD.run go gn l (a.strip f.toNat)).map (lastOk x)).getD false) := by
 simp only [MsgD.run]
 cases a.ok go gn f.toNat <;> rfl
theorem run_nil (go gn : Bool) (a x : Mg) : ((MsgD.run go gn [] a).map (lastOk x)).getD false = lastOk x a := rfl
theorem tl0 {s : ByteArray} : (s.toList == (⟨#[]⟩ : ByteArray).toList) = decide (s.size = 0) := by
 by_cases h : s.size = 0
 ·rw [decide_eq_true h, EditL.eq_E h]
  exact beq_self_eq_true _
 ·rw [decide_eq_false h, beq_eq_false_iff_ne]
  intro e
  apply h
  rw [ByteArray.toList_eq, ByteArray.toList_eq] at e
  have := congrArg List.length e
  simpa using this
theorem tail_o {m : Ms} (h : m.o.length = 0) : EditL.good m.o = true := by rw [List.eq_nil_of_length_eq_zero h]; rfl
theorem tail_n {m : Ms} (h : m.n.length = 0) : fineL m.n = true := by rw [List.eq_nil_of_length_eq_zero h]; rfl
theorem good_ref (m : Ms) : m.good = refGood m := by
 have ho := @tail_o m
 have hn := @tail_n m
 unfold Ms.good goodM refGood restB numsB tailB numOk hasF
 show ((MsgD.run _ _ (fieldsL m.k) _).map _).getD false = _
 unfold fieldsL
 obtain ⟨go, hgo⟩ : ∃ go, go = EditL.good m.o := ⟨_, rfl⟩
 obtain ⟨gn, hgn⟩ : ∃ gn, gn = fineL m.n := ⟨_, rfl⟩
 rw [← hgo] at ho ⊢
 rw [← hgn] at hn ⊢
 have ho2 : m.o = [] → go = true := fun h => ho (by rw [h]; rfl)
 have hn2 : m.n = [] → gn = true := fun h => hn (by rw [h]; rfl)
 have htl : (m.t.toList = []) ↔ m.t = ByteArray.empty := by
  constructor
  ·intro h
   rw [ByteArray.toList_eq] at h
   exact EditL.eq_E (s := m.t) (by simpa using congrArg List.length h)
  ·intro h
   rw [h, ByteArray.toList_eq]; rfl
 have hts : m.t = ByteArray.empty → (m.t.size : Int) ≤ 16777216 := fun h => by rw [h]; decide
 clear ho hn hgo hgn
 by_cases k1 : m.k = 1
 ·rw [if_pos k1, Bool.eq_iff_iff]
  simp [run_cons, run_nil, lastOk, MsgC.Mg.same, MsgC.Mg.nums, kindM, nil0, Mg.ok, Mg.get, Mg.strip, most, Ms.mg, fieldsL, k1, tl0, htl]
  generalize (m.o = []) = po at *
  generalize (m.n = []) = pn at *
  generalize (m.t = ByteArray.empty) = pt at *
  constructor
  ·intro h; simp_all; (try omega)
  ·intro h; simp_all; (try omega)
 by_cases k2 : m.k = 2
 ·rw [if_neg k1, if_pos k2, Bool.eq_iff_iff]
  simp [run_cons, run_nil, lastOk, MsgC.Mg.same, MsgC.Mg.nums, kindM, nil0, Mg.ok, Mg.get, Mg.strip, most, Ms.mg, fieldsL, k2, tl0, htl]
  generalize (m.o = []) = po at *
  generalize (m.n = []) = pn at *
  generalize (m.t = ByteArray.empty) = pt at *
  constructor
  ·intro h; simp_all; (try omega)
  ·intro h; simp_all; (try omega)
 by_cases k3 : m.k = 3
 ·rw [if_neg k1, if_neg k2, if_pos k3, Bool.eq_iff_iff]
  simp [run_cons, run_nil, lastOk, MsgC.Mg.same, MsgC.Mg.nums, kindM, nil0, Mg.ok, Mg.get, Mg.strip, most, Ms.mg, fieldsL, k3, tl0, htl]
  generalize (m.o = []) = po at *
  generalize (m.n = []) = pn at *
  generalize (m.t = ByteArray.empty) = pt at *
  constructor
  ·intro h; simp_all; (try omega)
  ·intro h; simp_all; (try omega)
 by_cases k4 : m.k = 4
 ·rw [if_neg k1, if_neg k2, if_neg k3, if_pos k4, Bool.eq_iff_iff]
  simp [run_cons, run_nil, lastOk, MsgC.Mg.same, MsgC.Mg.nums, kindM, nil0, Mg.ok, Mg.get, Mg.strip, most, Ms.mg, fieldsL, k4, tl0, htl]
  generalize (m.o = []) = po at *
  generalize (m.n = []) = pn at *
  generalize (m.t = ByteArray.empty) = pt at *
  constructor
  ·intro h; simp_all; (try omega)
  ·intro h; simp_all; (try omega)
 by_cases k5 : m.k = 5
 ·rw [if_neg k1, if_neg k2, if_neg k3, if_neg k4, if_pos k5, Bool.eq_iff_iff]
  simp [run_cons, run_nil, lastOk, MsgC.Mg.same, MsgC.Mg.nums, kindM, nil0, Mg.ok, Mg.get, Mg.strip, most, Ms.mg, fieldsL, k5, tl0, htl]
  generalize (m.o = []) = po at *
  generalize (m.n = []) = pn at *
  generalize (m.t = ByteArray.empty) = pt at *
  constructor
  ·intro h; simp_all; (try omega)
  ·intro h; simp_all; (try omega)
 by_cases k6 : m.k = 6
 ·rw [if_neg k1, if_neg k2, if_neg k3, if_neg k4, if_neg k5, if_pos k6, Bool.eq_iff_iff]
  simp [run_cons, run_nil, lastOk, MsgC.Mg.same, MsgC.Mg.nums, kindM, nil0, Mg.ok, Mg.get, Mg.strip, most, Ms.mg, fieldsL, k6, tl0, htl]
  generalize (m.o = []) = po at *
  generalize (m.n = []) = pn at *
  generalize (m.t = ByteArray.empty) = pt at *
  constructor
  ·intro h; simp_all; (try omega)
  ·intro h; simp_all; (try omega)
 by_cases k7 : m.k = 7
 ·rw [if_neg k1, if_neg k2, if_neg k3, if_neg k4, if_neg k5, if_neg k6, if_pos k7, Bool.eq_iff_iff]
  simp [run_cons, run_nil, lastOk, MsgC.Mg.same, MsgC.Mg.nums, kindM, nil0, Mg.ok, Mg.get, Mg.strip, most, Ms.mg, fieldsL, k7, tl0, htl]
  generalize (m.o = []) = po at *
  generalize (m.n = []) = pn at *
  generalize (m.t = ByteArray.empty) = pt at *
  constructor
  ·intro h; simp_all; (try omega)
  ·intro h; simp_all; (try omega)
 rw [if_neg k1, if_neg k2, if_neg k3, if_neg k4, if_neg k5, if_neg k6, if_neg k7]
 simp [run_nil, lastOk, fieldsL, Ms.mg, k1, k2, k3, k4, k5, k6, k7]
abbrev C5 : ByteArray := ⟨#[99, 101, 114, 115, 100]⟩
theorem step_g (m : Ms) (k : Nat) (x3 : ByteArray) (i c n q : Int) (h : Bool) (h0 : 0 ≤ i) (h5 : i < 5) (hb : bt C5 i = c) (hnum : variorumref11_num.f m.k m.c m.e m.r m.s m.d m.o m.t m.n c = some (n, q)) (hh : variorumref11_has.f k x3 c = some h) :
  variorumref11_Good.l0 (k + 1) x3 C5 i m.k m.c m.e m.r m.s m.d m.o m.t m.n = if numOk h n q = true then variorumref11_Good.l0 k x3 C5 (i + 1) m.k m.c m.e m.r m.s m.d m.o m.t m.n else some false := by
 simp only [variorumref11_Good.l0]
 rw [if_pos (show i < (C5.size : Int) from h5), if_pos h0, hb, hnum, Option.bind_some, hh, Option.bind_some, w64 (x := i + 1) (by omega) (by omega)]
 unfold numOk
 dsimp only
 cases h with
 | true =>
  rw [if_pos rfl]
  by_cases c1 : n < 0
  ·rw [if_pos c1, decide_eq_false (show ¬ 0 ≤ n by omega), Bool.false_and, if_neg Bool.false_ne_true]
  ·rw [if_neg c1, decide_eq_true (show 0 ≤ n by omega), Bool.true_and, if_pos rfl]
   by_cases c2 : n > q
   ·rw [if_pos c2, decide_eq_false (show ¬ n ≤ q by omega), if_neg Bool.false_ne_true]
   ·rw [if_neg c2, decide_eq_true (show n ≤ q by omega), if_pos rfl]
 | false =>
  rw [if_neg Bool.false_ne_true]
  by_cases c1 : n < 0
  ·rw [if_pos c1, decide_eq_false (show ¬ 0 ≤ n by omega), Bool.false_and, if_neg Bool.false_ne_true]
  ·rw [if_neg c1, decide_eq_true (show 0 ≤ n by omega), Bool.true_and, if_neg Bool.false_ne_true]
   by_cases c2 : n > 0
   ·rw [if_pos c2, decide_eq_false (show ¬ n ≤ 0 by omega), if_neg Bool.false_ne_true]
   ·rw [if_neg c2, decide_eq_true (show n ≤ 0 by omega), if_pos rfl]
theorem tail_g (m : Ms) (k : Nat) (x3 : ByteArray) (ho : m.o.length ≤ 140737488351232) (hn : m.n.length ≤ 1000000) (hk : m.n.length < k) :
  variorumref11_Good.l0 (k + 1) x3 C5 5 m.k m.c m.e m.r m.s m.d m.o m.t m.n = some (tailB m) := by
 simp only [variorumref11_Good.l0]
 rw [if_neg (show ¬ (5 : Int) < (C5.size : Int) by decide)]
 unfold variorumref06_Good.f
 rw [if_pos ho, Option.bind_some]
 unfold tailB
 cases EditL.good m.o with
 | false => rfl
 | true =>
  rw [if_pos rfl]
  by_cases h : (m.t.size : Int) ≤ 16777216
  ·rw [if_pos h, CarryRf.notes_f m.n hn k hk, Option.bind_some, decide_eq_true h]; rfl
  ·rw [if_neg h, decide_eq_false h]; rfl
structure Nm (F : ByteArray) (l : List Int) : Prop where
 h0 : variorumref11_has.f 10 F 99 = some (hasF l 0)
 h1 : variorumref11_has.f 10 F 101 = some (hasF l 1)
 h2 : variorumref11_has.f 10 F 114 = some (hasF l 2)
 h3 : variorumref11_has.f 10 F 115 = some (hasF l 3)
 h4 : variorumref11_has.f 10 F 100 = some (hasF l 4)
 h5 : variorumref11_has.f 10 F 111 = some (hasF l 5)
 h6 : variorumref11_has.f 10 F 116 = some (hasF l 6)
 h7 : variorumref11_has.f 10 F 110 = some (hasF l 7)
theorem loop_g (m : Ms) (F : ByteArray) (l : List Int) (h : Nm F l) (k : Nat) (hk : 100 ≤ k) (hk2 : m.n.length + 10 < k) (ho : m.o.length ≤ 140737488351232) (hn : m.n.length ≤ 1000000) :
  variorumref11_Good.l0 k F C5 0 m.k m.c m.e m.r m.s m.d m.o m.t m.n = some (numsB m l && tailB m) := by
 obtain ⟨k, rfl⟩ : ∃ j, k = j + 6 := ⟨k - 6, by omega⟩
 rw [step_g m (k + 5) F 0 99 m.c 63 _ (by decide) (by decide) (by rfl) (by rfl) (has_k h.h0 (by omega)),
  step_g m (k + 4) F (0 + 1) 101 m.e 4611686018427387904 _ (by decide) (by decide) (by rfl) (by rfl) (has_k h.h1 (by omega)),
  step_g m (k + 3) F (0 + 1 + 1) 114 m.r 4611686018427387904 _ (by decide) (by decide) (by rfl) (by rfl) (has_k h.h2 (by omega)),
  step_g m (k + 2) F (0 + 1 + 1 + 1) 115 m.s 4611686018427387904 _ (by decide) (by decide) (by rfl) (by rfl) (has_k h.h3 (by omega)),
  step_g m (k + 1) F (0 + 1 + 1 + 1 + 1) 100 m.d 65536 _ (by decide) (by decide) (by rfl) (by rfl) (has_k h.h4 (by omega)),
  show (0 + 1 + 1 + 1 + 1 + 1 : Int) = 5 by rfl, tail_g m k F ho hn (by omega)]
 unfold numsB
 generalize numOk (hasF l 0) m.c 63 = a0
 generalize numOk (hasF l 1) m.e 4611686018427387904 = a1
 generalize numOk (hasF l 2) m.r 4611686018427387904 = a2
 generalize numOk (hasF l 3) m.s 4611686018427387904 = a3
 generalize numOk (hasF l 4) m.d 65536 = a4
 cases a0 <;> cases a1 <;> cases a2 <;> cases a3 <;> cases a4 <;> rfl
set_option maxRecDepth 100000 in
theorem nm_1 : Nm ⟨#[99, 101, 114, 115]⟩ [0, 1, 2, 3] := by constructor <;> kernel_rfl
set_option maxRecDepth 100000 in
theorem nm_2 : Nm ⟨#[99, 114, 115, 111]⟩ [0, 2, 3, 5] := by constructor <;> kernel_rfl
set_option maxRecDepth 100000 in
theorem nm_3 : Nm ⟨#[114, 115]⟩ [2, 3] := by constructor <;> kernel_rfl
set_option maxRecDepth 100000 in
theorem nm_4 : Nm ⟨#[114, 115, 116]⟩ [2, 3, 6] := by constructor <;> kernel_rfl
set_option maxRecDepth 100000 in
theorem nm_5 : Nm ⟨#[114, 110]⟩ [2, 7] := by constructor <;> kernel_rfl
set_option maxRecDepth 100000 in
theorem nm_6 : Nm ⟨#[101]⟩ [1] := by constructor <;> kernel_rfl
set_option maxRecDepth 100000 in
theorem nm_7 : Nm ⟨#[100]⟩ [4] := by constructor <;> kernel_rfl
theorem fields_nm (q : Int) : ∃ F, variorumref11_Fields.f q = some F ∧ ((fieldsL q = [] ∧ F = ⟨#[]⟩) ∨ (fieldsL q ≠ [] ∧ F.size ≠ 0 ∧ Nm F (fieldsL q))) := by
 unfold variorumref11_Fields.f fieldsL
 repeat' split
 ·exact ⟨_, rfl, .inr ⟨by simp, by decide, nm_1⟩⟩
 ·exact ⟨_, rfl, .inr ⟨by simp, by decide, nm_2⟩⟩
 ·exact ⟨_, rfl, .inr ⟨by simp, by decide, nm_3⟩⟩
 ·exact ⟨_, rfl, .inr ⟨by simp, by decide, nm_4⟩⟩
 ·exact ⟨_, rfl, .inr ⟨by simp, by decide, nm_5⟩⟩
 ·exact ⟨_, rfl, .inr ⟨by simp, by decide, nm_6⟩⟩
 ·exact ⟨_, rfl, .inr ⟨by simp, by decide, nm_7⟩⟩
 ·exact ⟨_, rfl, .inl ⟨rfl, rfl⟩⟩
theorem tlE {s : ByteArray} : s.toList = ([] : List UInt8) ↔ s.size = 0 := by
 constructor
 ·intro e
  rw [ByteArray.toList_eq] at e
  simpa using congrArg List.length e
 ·intro h
  rw [EditL.eq_E h, ByteArray.toList_eq]; rfl
theorem j0_t (m : Ms) (k : Nat) (F : ByteArray) : variorumref11_Good.j0 (k + 1) F true m.k m.c m.e m.r m.s m.d m.o m.t m.n = some false := by
 simp only [variorumref11_Good.j0]
 rw [if_pos (by trivial)]
theorem rgood_f (m : Ms) (k : Nat) (hk : 200 ≤ k) (hk2 : m.n.length + 20 < k) (ho : m.o.length ≤ 140737488351232) (hn : m.n.length ≤ 1000000) :
  variorumref11_Good.f k m.k m.c m.e m.r m.s m.d m.o m.t m.n = some m.good := by
 rw [good_ref]
 obtain ⟨k, rfl⟩ : ∃ j, k = j + 1 := ⟨k - 1, by omega⟩
 unfold variorumref11_Good.f refGood
 obtain ⟨F, hF, h⟩ := fields_nm m.k
 rw [hF, Option.bind_some]
 rcases h with ⟨he, rfl⟩ | ⟨hne, hs, hn7⟩
 ·rw [if_pos (tlE.2 rfl), j0_t, he]; rfl
 ·rw [if_neg (fun e => hs (tlE.1 e)), has_k hn7.h5 (by omega), Option.bind_some]
  have hlp : variorumref11_Good.j0 (k + 1) F false m.k m.c m.e m.r m.s m.d m.o m.t m.n = some (numsB m (fieldsL m.k) && tailB m) := by
   simp only [variorumref11_Good.j0]
   rw [if_neg (by simp)]
   exact loop_g m F _ hn7 k (by omega) (by omega) ho hn
  have hjt := j0_t m k F
  have hfe : (!(fieldsL m.k).isEmpty) = true := by
   cases hq : fieldsL m.k with
   | nil => exact absurd hq hne
   | cons => rfl
  have hte : (m.t.toList = ([] : List UInt8)) ↔ m.t.size = 0 := tlE
  rw [hfe, Bool.true_and]
  unfold restB
  rw [has_k hn7.h6 (by omega), Option.bind_some, has_k hn7.h7 (by omega), Option.bind_some]
  have dn : decide ((m.n.length : Int) > 0) = !decide (m.n.length = 0) := by
   by_cases h : m.n.length = 0
   ·rw [decide_eq_true h, decide_eq_false (by omega)]; rfl
   ·rw [decide_eq_false h, decide_eq_true (by omega)]; rfl
  have dno : ((m.o.length : Int) > 0) ↔ ¬ m.o.length = 0 := by omega
  simp only [dn, dno]
  generalize hasF (fieldsL m.k) 5 = b5
  generalize hasF (fieldsL m.k) 6 = b6
  generalize hasF (fieldsL m.k) 7 = b7
  by_cases e1 : m.o.length = 0 <;> by_cases e2 : m.t.size = 0 <;> by_cases e3 : m.n.length = 0 <;> cases b5 <;> cases b6 <;> cases b7 <;> simp only [e1, e2, e3, hte, hlp, hjt, if_true, if_false, Bool.false_eq_true, not_true, not_false_iff, decide_true, decide_false, Bool.not_true, Bool.not_false, Bool.true_or, Bool.false_or, Bool.or_true, Bool.or_false, Bool.true_and, Bool.false_and]
end Go.Proofs.Ytedfcjcnhgomoaa.MsgR
end
-- MERGED YtedfcjcnhgomoaaPvariorumref01Put
section
namespace Go.Proofs.Ytedfcjcnhgomoaa.P
open Go.RowKit Go.Proofs.YtedfcjcnhgomoaaW.PrintWords Go.Proofs.YtedfcjcnhgomoaaW.PrintLast Go.Proofs.YtedfcjcnhgomoaaW.PrintMore
attribute [local go_sem] max2_int min2_int max_two min_two max_three min_three max_four min_four   -- for this text's walks alone
set_option linter.unusedVariables false
set_option linter.unusedSimpArgs false
mutual
def variorumref01_Put.j0 : Nat → Int → List Int → Bool → Option (List Int)
 | 0, _, _, _ => none
 | k + 1, x1, x5, x14 => if x14 = true then (some x5) else (variorumref01_Put.l0 k x1 x5)
def variorumref01_Put.l0 : Nat → Int → List Int → Option (List Int)
 | 0, _, _ => none
 | k + 1, x1, x5 => if x1 ≥ 128 then (if x5.length < 140737488355328 then (variorumref01_Put.l0 k (wrap64 (Int.tdiv x1 128)) (x5 ++ [(wrap64 ((Int.tmod x1 128) + 128)) % 256])) else (none)) else (if x5.length < 140737488355328 then (some (x5 ++ [(x1) % 256])) else (none))
end
def variorumref01_Put.f (k : Nat) (l0 : List Int) (a1 : Int) : Option (List Int) := (some (([] : List Int) : List Int)).bind fun y110 => (if y110.length + l0.length < 140737488355328 then ((some (y110 ++ l0 : List Int)).bind fun y113 => (if a1 < 0 then (variorumref01_Put.j0 k a1 y113 true) else (variorumref01_Put.j0 k a1 y113 (decide (a1 > 4611686018427387904))))) else (none))
theorem variorumref01_Put.mono_l : ∀ k, (∀ y0 y1 y2, LeO (variorumref01_Put.j0 k y0 y1 y2) (variorumref01_Put.j0 (k + 1) y0 y1 y2)) ∧ (∀ y0 y1, LeO (variorumref01_Put.l0 k y0 y1) (variorumref01_Put.l0 (k + 1) y0 y1))
 | 0 => ⟨fun _ _ _ r h => by simp [variorumref01_Put.j0] at h, fun _ _ r h => by simp [variorumref01_Put.l0] at h⟩
 | k + 1 => by
  obtain ⟨ih0, ih1⟩ := variorumref01_Put.mono_l k
  refine ⟨?_, ?_⟩
  ·intro y0 y1 y2
   unfold variorumref01_Put.j0
   repeat' first | (with_reducible exact ih1 _ _) | (with_reducible exact LeO.refl _) | (with_reducible refine LeO.ite ?_ ?_)
  ·intro y0 y1
   unfold variorumref01_Put.l0
   repeat' first | (with_reducible exact ih1 _ _) | (with_reducible exact LeO.refl _) | (with_reducible refine LeO.ite ?_ ?_)
theorem variorumref01_Put.mono : ∀ a0 a1 k, LeO (variorumref01_Put.f k a0 a1) (variorumref01_Put.f (k + 1) a0 a1) := by
 intro a0 a1 k
 obtain ⟨ih0, ih1⟩ := variorumref01_Put.mono_l k
 unfold variorumref01_Put.f
 repeat' first | (with_reducible exact ih0 _ _ _) | (with_reducible exact LeO.refl _) | (with_reducible refine LeO.ite ?_ ?_) | (with_reducible refine LeO.bind ?_ (fun _ => ?_))
set_option maxHeartbeats 8000000 in
set_option maxRecDepth 100000 in
theorem variorumref01_Put.calls (k : Nat) (A0 : Option Addr) (c0 : Nat) (l0 : List Int) (a1 : Int) (r : List Int) (w : World) (hr0 : Kd.C (Kd.int .u8) w A0 l0.length l0) (hc0 : l0.length ≤ c0) (h : variorumref01_Put.f k l0 a1 = some r) :
  Calls Try.prog 41 #[.slice A0 l0.length c0, .int .i64 a1] w fun e w' => ∃ v0_ : Value, e = .returned (v0_) ∧ Kd.R (Kd.int .u8) 5 w' w.heap.size (fun _ => True) v0_ r ∧ Below w.heap.size w w' := by
 have HR0 := Aside0.mk hr0
 have HC0 := Aside0.mk hc0
 clear hr0 hc0
 have HB := Aside0.mk (Below.refl w.heap.size w)
 have H : ((some (([] : List Int) : List Int)).bind fun y110 => (if y110.length + l0.length < 140737488355328 then ((some (y110 ++ l0 : List Int)).bind fun y113 => (if a1 < 0 then (variorumref01_Put.j0 k a1 y113 true) else (variorumref01_Put.j0 k a1 y113 (decide (a1 > 4611686018427387904))))) else (none))) = some r := h
 clear h
 obtain ⟨y110, hy110⟩ : ∃ y_ : List Int, y_ = (([] : List Int)) := ⟨_, rfl⟩
 replace H : (if y110.length + l0.length < 140737488355328 then ((some (y110 ++ l0 : List Int)).bind fun y113 => (if a1 < 0 then (variorumref01_Put.j0 k a1 y113 true) else (variorumref01_Put.j0 k a1 y113 (decide (a1 > 4611686018427387904))))) else (none)) = some r := by (have H2_ := (Option.bind_some _ _).symm.trans H; rw [hy110]; with_reducible exact H2_)
 have Ny110 := Aside0.mk hy110
 clear hy110
 by_cases c3 : y110.length + l0.length < 140737488355328
 ·rw [if_pos c3] at H
  have LMc3 := Aside0.mk c3
  clear c3
  obtain ⟨y113, hy113⟩ : ∃ y_ : List Int, y_ = (y110 ++ l0) := ⟨_, rfl⟩
  replace H : (if a1 < 0 then (variorumref01_Put.j0 k a1 y113 true) else (variorumref01_Put.j0 k a1 y113 (decide (a1 > 4611686018427387904)))) = some r := by (have H2_ := (Option.bind_some _ _).symm.trans H; rw [hy113]; with_reducible exact H2_)
  have Ny113 := Aside0.mk hy113
  clear hy113
  have HC4 := Aside0.mk H
  clear H
  go_enter Try.func41, Try.ntmps41
  go_upto_region 2 with (first | ((with_reducible refine gate_dst (N := 6) rfl ?_); refine Kd.R_lit (Kd.int .u8) _ 5 ?hg (N := 6) ?hd (xs := ([] : List Int)) (inner := []) (ok := fun _ => True) (okp := fun _ => True) ?hr ?hp (fun _ hk => hk) trivial (Below.refl _ _) (Nat.le_refl _) (by simp) ?_; (case hd => rfl); (case hg => rfl); (case hr => (go_simp; done)); (case hp => exact (Reps.none _ _)); intro v111 w5 ho6 hb hg_ hnew_; clear hg_ hnew_; ((rw [← Ny110.out] at ho6)); have n0_ := Aside0.mk (Kd.R_lower ho6 (below_size (by repeat ((with_reducible (exact HB.out)))))); have n1_ := Aside0.mk (below_step (by repeat ((with_reducible (exact HB.out)))) hb); clear HB; have HO112 := n0_; have HB := n1_; clear n0_ n1_; clear hb ho6) | ((with_reducible refine gate_builtin (b := .append) (xs := #[.tmp 6, .tmp 7]) rfl ?_); at_builtin; refine Kd.R_append_rows (Kd.int .u8) (w0 := w) w.heap.size rfl (.tmp 6) (.tmp 7) 25 5 (.int .u8 0) 1 rfl Try.underlying25 info5 rfl (by decide) (by omega) v111 y110 l0 _ _ _ (fun _ => True) (fun _ => False) rfl rfl ?aO ?aR (fun _ _ h => h) (fun _ h => h.elim) ?aF ?aB ?aS ?aL ?_; (case aR => repeat ((exact (Kd.C_below HR0.out HB.out)))); (case aB => exact (by repeat ((with_reducible (exact HB.out))))); (case aF => exact (fun _ _ => trivial)); (case aO => exact (by (with_reducible repeat ((apply Kd.R_drew))); exact HO112.out)); (case aS => exact (below_size (by repeat ((with_reducible (exact HB.out)))))); (case aL => have := LMc3.out; omega); intro v114 w7 ho hb hg hat; rw [← Ny113.out] at ho; have n0_ := Aside0.mk (hb); have n1_ := Aside0.mk (ho); clear HB; clear HO112; have HB := n0_; have HO115 := n1_; clear n0_ n1_; clear ho hb hg hat))
  (try simp only [Act.put, List.setIfInBounds_toArray, List.set_cons_zero, List.set_cons_succ])
  go_cut [14] (fun v14 wc => ∃ (kq : Nat) (x14_3 : Bool), v14 = .bool x14_3 ∧ Aside0 (variorumref01_Put.j0 kq a1 y113 x14_3 = some r) ∧ Aside0 (kq ≤ k) ∧ Aside0 (Kd.R (Kd.int .u8) 5 wc w.heap.size (fun _ => True) v114 y113) ∧ Aside0 (Below w.heap.size w wc))
  case first =>
   have H := HC4.out
   clear HC4
   by_cases c8 : a1 < 0
   ·rw [if_pos c8] at H
    have c8b0 : decide (a1 < 0) = true := decide_eq_true c8
    clear c8
    ((skip))
    have H' := Aside0.mk H
    clear H
    go_wp2
    go_meet
    case rel => exact ⟨_, (true), (by (rfl)), H', ⟨by (omega)⟩, ⟨by (with_reducible repeat ((apply Kd.R_drew))); exact HO115.out⟩, ⟨by repeat ((with_reducible (exact HB.out)))⟩⟩
   ·rw [if_neg c8] at H
    have c8b0 : decide (a1 < 0) = false := decide_eq_false c8
    clear c8
    ((skip))
    have H' := Aside0.mk H
    clear H
    go_wp2
    go_meet
    case rel => exact ⟨_, (decide (a1 > 4611686018427387904)), (by (rfl)), H', ⟨by (omega)⟩, ⟨by (with_reducible repeat ((apply Kd.R_drew))); exact HO115.out⟩, ⟨by repeat ((with_reducible (exact HB.out)))⟩⟩
  case rest =>
   clear HC4
   try clear p2
   try clear c3
   try clear c4
   try clear c8
   try clear c8b0
   obtain ⟨kq, x14_3, rfl, HA, HJ3, HO_5, HB⟩ := hcut
   cases kq with
   | zero => exact absurd HA.out (by simp [variorumref01_Put.j0])
   | succ kj3 =>
    have H := HA.out
    clear HA
    simp only [variorumref01_Put.j0] at H
    by_cases c9 : x14_3 = true
    ·subst c9
     have H1 : (some y113) = some r := by rw [if_pos rfl] at H; exact H
     clear H
     have H := H1
     clear H1
     obtain rfl := Option.some.inj H
     go_wp2
     go_ret
     exact ⟨_, by (rfl), by (with_reducible repeat ((apply Kd.R_drew))); exact HO_5.out, by repeat ((with_reducible (exact HB.out)))⟩
    ·replace c9 := Bool.eq_false_iff.mpr c9
     subst c9
     have H1 : (variorumref01_Put.l0 kj3 a1 y113) = some r := by rw [if_neg (show ¬ (false = true) by decide)] at H; exact H
     clear H
     have H := H1
     clear H1
     have H' := Aside0.mk H
     clear H
     go_wp2
     go_loopg [1, 5] kj3 (fun kq v1 v5 w' => ∃ (x1_2 : Int) (x5_2 : List Int), v1 = .int .i64 x1_2 ∧ Aside0 (variorumref01_Put.l0 kq x1_2 x5_2 = some r) ∧ Aside0 (kq ≤ kj3) ∧ Aside0 (Kd.R (Kd.int .u8) 5 w' w.heap.size (fun _ => True) v5 x5_2) ∧ Aside0 (Below w.heap.size w w'))
     case atStart => exact ⟨(a1), (y113), (by (rfl)), H', ⟨Nat.le_refl _⟩, ⟨by (with_reducible repeat ((apply Kd.R_drew))); exact HO_5.out⟩, ⟨by repeat ((with_reducible (exact HB.out)))⟩⟩
     case round =>
      clear H'
      try clear p2
      try clear c3
      try clear c4
      try clear c8
      try clear c8b0
      try clear c9
      try clear p2
      obtain ⟨x1_2, x5_2, rfl, HA, HK2, HO_5, HB⟩ := hrel
      cases gk with
      | zero => exact absurd HA.out (by simp [variorumref01_Put.l0])
      | succ k2 =>
       have H := HA.out
       clear HA
       simp only [variorumref01_Put.l0] at H
       by_cases c10 : x1_2 ≥ 128
       ·rw [if_pos c10] at H
        have c10b0 : decide (128 ≤ x1_2) = true := decide_eq_true c10
        clear c10
        by_cases c11 : x5_2.length < 140737488355328
        ·rw [if_pos c11] at H
         have LMc11 := Aside0.mk c11
         clear c11
         obtain ⟨y116, hy116⟩ : ∃ y_ : List Int, y_ = (x5_2 ++ [(wrap64 ((Int.tmod x1_2 128) + 128)) % 256]) := ⟨_, rfl⟩
         replace H : (variorumref01_Put.l0 k2 (wrap64 (Int.tdiv x1_2 128)) y116) = some r := by (rw [hy116]; with_reducible exact H)
         have Ny116 := Aside0.mk hy116
         clear hy116
         have H' := Aside0.mk H
         clear H
         go_wp2_with (first | ((with_reducible refine gate_builtin (b := .append) (xs := #[.tmp 18, .tmp 23]) rfl ?_); at_builtin; refine Kd.R_append (Kd.int .u8) (w0 := w) w.heap.size rfl (.tmp 18) (.tmp 23) 25 5 (.int .u8 0) 1 rfl Try.underlying25 info5 rfl (by decide) (by omega) u5 x5_2 ((wrap64 ((Int.tmod x1_2 128) + 128)) % 256) [.int .u8 ((wrap64 ((Int.tmod x1_2 128) + 128)) % 256)] (fun _ => True) (fun _ => False) rfl rfl ?aP (fun _ hk => hk.elim) ?aF ?aO ?aB ?aS ?aL ?_; (case aP => exact rfl); (case aB => exact (by repeat ((with_reducible (exact HB.out))))); (case aF => exact (fun _ _ => trivial)); (case aO => exact (by (with_reducible repeat ((apply Kd.R_drew))); exact HO_5.out)); (case aS => exact (below_size (by repeat ((with_reducible (exact HB.out)))))); (case aL => have := LMc11.out; omega); intro v117 w12 ho hb hg hat; rw [← Ny116.out] at ho; have n0_ := Aside0.mk (hb); have n1_ := Aside0.mk (ho); clear HB; clear HO_5; have HB := n0_; have HO118 := n1_; clear n0_ n1_; clear ho hb hg hat))
         go_roundg k2
         case measure => have := HJ3.out; have := HK2.out; omega
         case rel => exact ⟨(wrap64 (Int.tdiv x1_2 128)), (y116), (by (rfl)), H', ⟨by have := HJ3.out; have := HK2.out; omega⟩, ⟨by (with_reducible repeat ((apply Kd.R_drew))); exact HO118.out⟩, ⟨by repeat ((with_reducible (exact HB.out)))⟩⟩
        ·rw [if_neg c11] at H
         exact absurd H (by simp)
       ·rw [if_neg c10] at H
        have c10b0 : decide (128 ≤ x1_2) = false := decide_eq_false c10
        clear c10
        by_cases c13 : x5_2.length < 140737488355328
        ·rw [if_pos c13] at H
         have LMc13 := Aside0.mk c13
         clear c13
         obtain ⟨y119, hy119⟩ : ∃ y_ : List Int, y_ = (x5_2 ++ [(x1_2) % 256]) := ⟨_, rfl⟩
         replace H : (some y119) = some r := by (rw [hy119]; with_reducible exact H)
         have Ny119 := Aside0.mk hy119
         clear hy119
         obtain rfl := Option.some.inj H
         go_wp2_with (first | ((with_reducible refine gate_builtin (b := .append) (xs := #[.tmp 27, .tmp 30]) rfl ?_); at_builtin; refine Kd.R_append (Kd.int .u8) (w0 := w) w.heap.size rfl (.tmp 27) (.tmp 30) 25 5 (.int .u8 0) 1 rfl Try.underlying25 info5 rfl (by decide) (by omega) u5 x5_2 ((x1_2) % 256) [.int .u8 ((x1_2) % 256)] (fun _ => True) (fun _ => False) rfl rfl ?aP (fun _ hk => hk.elim) ?aF ?aO ?aB ?aS ?aL ?_; (case aP => exact rfl); (case aB => exact (by repeat ((with_reducible (exact HB.out))))); (case aF => exact (fun _ _ => trivial)); (case aO => exact (by (with_reducible repeat ((apply Kd.R_drew))); exact HO_5.out)); (case aS => exact (below_size (by repeat ((with_reducible (exact HB.out)))))); (case aL => have := LMc13.out; omega); intro v120 w14 ho hb hg hat; rw [← Ny119.out] at ho; have n0_ := Aside0.mk (hb); have n1_ := Aside0.mk (ho); clear HB; clear HO_5; have HB := n0_; have HO121 := n1_; clear n0_ n1_; clear ho hb hg hat))
         go_ret
         exact ⟨_, by (rfl), by (with_reducible repeat ((apply Kd.R_drew))); exact HO121.out, by repeat ((with_reducible (exact HB.out)))⟩
        ·rw [if_neg c13] at H
         exact absurd H (by simp)
 ·rw [if_neg c3] at H
  exact absurd H (by simp)
end Go.Proofs.Ytedfcjcnhgomoaa.P
end
-- MERGED YtedfcjcnhgomoaaPvariorumref01PutText
section
namespace Go.Proofs.Ytedfcjcnhgomoaa.P
open Go.RowKit Go.Proofs.YtedfcjcnhgomoaaW.PrintWords Go.Proofs.YtedfcjcnhgomoaaW.PrintLast Go.Proofs.YtedfcjcnhgomoaaW.PrintMore
attribute [local go_sem] max2_int min2_int max_two min_two max_three min_three max_four min_four   -- for this text's walks alone
set_option linter.unusedVariables false
set_option linter.unusedSimpArgs false
def variorumref01_PutText.f (k : Nat) (l0 : List Int) (a1 : ByteArray) : Option (List Int) := (variorumref01_Put.f k l0 (a1.size : Int)).bind fun t122 => (if t122.length + a1.size < 140737488355328 then (some (t122 ++ bytesOf a1)) else (none))
theorem variorumref01_PutText.mono : ∀ a0 a1 k, LeO (variorumref01_PutText.f k a0 a1) (variorumref01_PutText.f (k + 1) a0 a1) := by
 intro a0 a1 k
 unfold variorumref01_PutText.f
 repeat' first | (with_reducible exact variorumref01_Put.mono _ _ _) | (with_reducible exact LeO.refl _) | (with_reducible refine LeO.bind ?_ (fun _ => ?_))
set_option maxHeartbeats 8000000 in
set_option maxRecDepth 100000 in
theorem variorumref01_PutText.calls (k : Nat) (A0 : Option Addr) (c0 : Nat) (l0 : List Int) (a1 : ByteArray) (r : List Int) (w : World) (hr0 : Kd.C (Kd.int .u8) w A0 l0.length l0) (hc0 : l0.length ≤ c0) (h : variorumref01_PutText.f k l0 a1 = some r) :
  Calls Try.prog 65 #[.slice A0 l0.length c0, .string a1] w fun e w' => ∃ v0_ : Value, e = .returned (v0_) ∧ Kd.R (Kd.int .u8) 5 w' w.heap.size (fun _ => True) v0_ r ∧ Below w.heap.size w w' := by
 have HR0 := Aside0.mk hr0
 have HC0 := Aside0.mk hc0
 clear hr0 hc0
 have HB := Aside0.mk (Below.refl w.heap.size w)
 have H : ((variorumref01_Put.f k l0 (a1.size : Int)).bind fun t122 => (if t122.length + a1.size < 140737488355328 then (some (t122 ++ bytesOf a1)) else (none))) = some r := h
 clear h
 replace H := Option.bind_eq_some_iff.mp H
 obtain ⟨t122, A30, H⟩ := H
 replace H : (if t122.length + a1.size < 140737488355328 then (some (t122 ++ bytesOf a1)) else (none)) = some r := H
 have A3 := Aside0.mk A30
 clear A30
 by_cases c4 : t122.length + a1.size < 140737488355328
 ·rw [if_pos c4] at H
  have LMc4 := Aside0.mk c4
  clear c4
  obtain ⟨y125, hy125⟩ : ∃ y_ : List Int, y_ = (t122 ++ bytesOf a1) := ⟨_, rfl⟩
  replace H : (some y125) = some r := by (rw [hy125]; with_reducible exact H)
  have Ny125 := Aside0.mk hy125
  clear hy125
  obtain rfl := Option.some.inj H
  go_enter Try.func65, Try.ntmps65
  go_wp2_with (first | ((with_reducible refine gate_callee (f := 41) rfl ?_); refine goesL_ (some 8) rfl rfl Try.func41 (by kernel_rfl) rfl #[.slice A0 l0.length c0, .int .i64 (a1.size : Int)] rfl (by (try simp only [List.map_toArray, List.map_cons, List.map_nil]); (rfl)) ?_; (with_reducible refine (variorumref01_Put.calls k _ _ l0 (a1.size : Int) t122 _ ?side1 ?side2 A3.out).mono ?_); (case side1 => repeat ((exact HR0.out))); (case side2 => exact HC0.out); rintro e w5 ⟨v123, rfl, ho0, hb⟩; refine ⟨_, rfl, ?_⟩; have n0_ := Aside0.mk (Kd.R_lower ho0 (below_size (by repeat ((with_reducible (exact HB.out)))))); have n1_ := Aside0.mk (below_step (by repeat ((with_reducible (exact HB.out)))) hb); clear HB; have HO124 := n0_; have HB := n1_; clear n0_ n1_; (try clear hb); (try clear hb2); (try clear hk); (try clear hi); (try clear ho0)) | (at_builtin; refine print_append_str (w0 := w) w.heap.size rfl (.tmp 8) _ 25 9 5 rfl Try.underlying25 Try.underlying9 info5 v123 t122 a1 rfl rfl ?aO ?aB ?aS ?aL ?_; (case aB => exact (by repeat ((with_reducible (exact HB.out))))); (case aO => exact (Kd.own_of_R (by (with_reducible repeat ((apply Kd.R_drew))); exact HO124.out))); (case aS => exact (below_size (by repeat ((with_reducible (exact HB.out)))))); (case aL => have := LMc4.out; omega); intro v126 w6 ho0 hb hg; have ho := Kd.R_of_own (h1 := fun _ => rfl) (ok := fun _ => True) ho0 (fun _ _ => trivial); clear ho0; have hat := True.intro; rw [← Ny125.out] at ho; change Kd.R (Kd.int .u8) 5 w6 w.heap.size (fun _ => True) v126 y125 at ho; have n0_ := Aside0.mk (hb); have n1_ := Aside0.mk (ho); clear HB; clear HO124; have HB := n0_; have HO127 := n1_; clear n0_ n1_; clear ho hb hg hat))
  go_ret
  exact ⟨_, by (rfl), by (with_reducible repeat ((apply Kd.R_drew))); exact HO127.out, by repeat ((with_reducible (exact HB.out)))⟩
 ·rw [if_neg c4] at H
  exact absurd H (by simp)
end Go.Proofs.Ytedfcjcnhgomoaa.P
end
-- MERGED YtedfcjcnhgomoaaPvariorumref01PutSigned
section
namespace Go.Proofs.Ytedfcjcnhgomoaa.P
open Go.RowKit Go.Proofs.YtedfcjcnhgomoaaW.PrintWords Go.Proofs.YtedfcjcnhgomoaaW.PrintLast Go.Proofs.YtedfcjcnhgomoaaW.PrintMore
attribute [local go_sem] max2_int min2_int max_two min_two max_three min_three max_four min_four   -- for this text's walks alone
set_option linter.unusedVariables false
set_option linter.unusedSimpArgs false
def variorumref01_PutSigned.j0 : Nat → List Int → Int → Bool → Option (List Int)
 | 0, _, _, _ => none
 | k + 1, x0, x1, x10 => if x10 = true then ((some (([] : List Int) : List Int)).bind fun y298 => (if y298.length + x0.length < 140737488355328 then (some (y298 ++ x0)) else (none))) else (if x1 < 0 then ((variorumref01_Put.f k x0 (wrap64 ((wrap64 (2 * (wrap64 (-x1)))) - 1))).bind fun t304 => (some t304)) else ((variorumref01_Put.f k x0 (wrap64 (2 * x1))).bind fun t307 => (some t307)))
def variorumref01_PutSigned.f (k : Nat) (l0 : List Int) (a1 : Int) : Option (List Int) := if a1 < (-2305843009213693952) then (variorumref01_PutSigned.j0 k l0 a1 true) else (variorumref01_PutSigned.j0 k l0 a1 (decide (a1 > 2305843009213693952)))
theorem variorumref01_PutSigned.mono_l : ∀ k, (∀ y0 y1 y2, LeO (variorumref01_PutSigned.j0 k y0 y1 y2) (variorumref01_PutSigned.j0 (k + 1) y0 y1 y2))
 | 0 => fun _ _ _ r h => by simp [variorumref01_PutSigned.j0] at h
 | k + 1 => by
  have ih0 := variorumref01_PutSigned.mono_l k
  ·intro y0 y1 y2
   unfold variorumref01_PutSigned.j0
   repeat' first | (with_reducible exact variorumref01_Put.mono _ _ _) | (with_reducible exact LeO.refl _) | (with_reducible refine LeO.ite ?_ ?_) | (with_reducible refine LeO.bind ?_ (fun _ => ?_))
theorem variorumref01_PutSigned.mono : ∀ a0 a1 k, LeO (variorumref01_PutSigned.f k a0 a1) (variorumref01_PutSigned.f (k + 1) a0 a1) := by
 intro a0 a1 k
 have ih0 := variorumref01_PutSigned.mono_l k
 unfold variorumref01_PutSigned.f
 repeat' first | (with_reducible exact ih0 _ _ _) | (with_reducible refine LeO.ite ?_ ?_)
set_option maxHeartbeats 8000000 in
set_option maxRecDepth 100000 in
theorem variorumref01_PutSigned.calls (k : Nat) (A0 : Option Addr) (c0 : Nat) (l0 : List Int) (a1 : Int) (r : List Int) (w : World) (hr0 : Kd.C (Kd.int .u8) w A0 l0.length l0) (hc0 : l0.length ≤ c0) (h : variorumref01_PutSigned.f k l0 a1 = some r) :
  Calls Try.prog 64 #[.slice A0 l0.length c0, .int .i64 a1] w fun e w' => ∃ v0_ : Value, e = .returned (v0_) ∧ Kd.R (Kd.int .u8) 5 w' w.heap.size (fun _ => True) v0_ r ∧ Below w.heap.size w w' := by
 have HR0 := Aside0.mk hr0
 have HC0 := Aside0.mk hc0
 clear hr0 hc0
 have HB := Aside0.mk (Below.refl w.heap.size w)
 have H : (if a1 < (-2305843009213693952) then (variorumref01_PutSigned.j0 k l0 a1 true) else (variorumref01_PutSigned.j0 k l0 a1 (decide (a1 > 2305843009213693952)))) = some r := h
 clear h
 have HC3 := Aside0.mk H
 clear H
 go_enter Try.func64, Try.ntmps64
 go_upto_region 1 with (fail)
 go_cut [10] (fun v10 wc => ∃ (kq : Nat) (x10_2 : Bool), v10 = .bool x10_2 ∧ Aside0 (variorumref01_PutSigned.j0 kq l0 a1 x10_2 = some r) ∧ Aside0 (kq ≤ k) ∧ Aside0 (Below w.heap.size w wc))
 case first =>
  have H := HC3.out
  clear HC3
  by_cases c4 : a1 < (-2305843009213693952)
  ·rw [if_pos c4] at H
   have c4b0 : decide (a1 < (-2305843009213693952)) = true := decide_eq_true c4
   clear c4
   ((skip))
   have H' := Aside0.mk H
   clear H
   go_wp2
   go_meet
   case rel => exact ⟨_, (true), (by (rfl)), H', ⟨by (omega)⟩, ⟨by repeat ((with_reducible (exact HB.out)))⟩⟩
  ·rw [if_neg c4] at H
   have c4b0 : decide (a1 < (-2305843009213693952)) = false := decide_eq_false c4
   clear c4
   ((skip))
   have H' := Aside0.mk H
   clear H
   go_wp2
   go_meet
   case rel => exact ⟨_, (decide (a1 > 2305843009213693952)), (by (rfl)), H', ⟨by (omega)⟩, ⟨by repeat ((with_reducible (exact HB.out)))⟩⟩
 case rest =>
  clear HC3
  try clear p2
  try clear c4
  try clear c4b0
  obtain ⟨kq, x10_2, rfl, HA, HJ2, HB⟩ := hcut
  cases kq with
  | zero => exact absurd HA.out (by simp [variorumref01_PutSigned.j0])
  | succ kj2 =>
   have H := HA.out
   clear HA
   simp only [variorumref01_PutSigned.j0] at H
   by_cases c5 : x10_2 = true
   ·subst c5
    have H1 : ((some (([] : List Int) : List Int)).bind fun y298 => (if y298.length + l0.length < 140737488355328 then (some (y298 ++ l0)) else (none))) = some r := by rw [if_pos rfl] at H; exact H
    clear H
    have H := H1
    clear H1
    obtain ⟨y298, hy298⟩ : ∃ y_ : List Int, y_ = (([] : List Int)) := ⟨_, rfl⟩
    replace H : (if y298.length + l0.length < 140737488355328 then (some (y298 ++ l0)) else (none)) = some r := by (have H2_ := (Option.bind_some _ _).symm.trans H; rw [hy298]; with_reducible exact H2_)
    have Ny298 := Aside0.mk hy298
    clear hy298
    by_cases c6 : y298.length + l0.length < 140737488355328
    ·rw [if_pos c6] at H
     have LMc6 := Aside0.mk c6
     clear c6
     obtain ⟨y301, hy301⟩ : ∃ y_ : List Int, y_ = (y298 ++ l0) := ⟨_, rfl⟩
     replace H : (some y301) = some r := by (rw [hy301]; with_reducible exact H)
     have Ny301 := Aside0.mk hy301
     clear hy301
     obtain rfl := Option.some.inj H
     go_wp2_with (first | ((with_reducible refine gate_dst (N := 11) rfl ?_); refine Kd.R_lit (Kd.int .u8) _ 5 ?hg (N := 11) ?hd (xs := ([] : List Int)) (inner := []) (ok := fun _ => True) (okp := fun _ => True) ?hr ?hp (fun _ hk => hk) trivial (Below.refl _ _) (Nat.le_refl _) (by simp) ?_; (case hd => rfl); (case hg => rfl); (case hr => (go_simp; done)); (case hp => exact (Reps.none _ _)); intro v299 w7 ho8 hb hg_ hnew_; clear hg_ hnew_; ((rw [← Ny298.out] at ho8)); have n0_ := Aside0.mk (Kd.R_lower ho8 (below_size (by repeat ((with_reducible (exact HB.out)))))); have n1_ := Aside0.mk (below_step (by repeat ((with_reducible (exact HB.out)))) hb); clear HB; have HO300 := n0_; have HB := n1_; clear n0_ n1_; clear hb ho8) | ((with_reducible refine gate_builtin (b := .append) (xs := #[.tmp 11, .tmp 12]) rfl ?_); at_builtin; refine Kd.R_append_rows (Kd.int .u8) (w0 := w) w.heap.size rfl (.tmp 11) (.tmp 12) 25 5 (.int .u8 0) 1 rfl Try.underlying25 info5 rfl (by decide) (by omega) v299 y298 l0 _ _ _ (fun _ => True) (fun _ => False) rfl rfl ?aO ?aR (fun _ _ h => h) (fun _ h => h.elim) ?aF ?aB ?aS ?aL ?_; (case aR => repeat ((exact (Kd.C_below HR0.out HB.out)))); (case aB => exact (by repeat ((with_reducible (exact HB.out))))); (case aF => exact (fun _ _ => trivial)); (case aO => exact (by (with_reducible repeat ((apply Kd.R_drew))); exact HO300.out)); (case aS => exact (below_size (by repeat ((with_reducible (exact HB.out)))))); (case aL => have := LMc6.out; omega); intro v302 w9 ho hb hg hat; rw [← Ny301.out] at ho; have n0_ := Aside0.mk (hb); have n1_ := Aside0.mk (ho); clear HB; clear HO300; have HB := n0_; have HO303 := n1_; clear n0_ n1_; clear ho hb hg hat))
     go_ret
     exact ⟨_, by (rfl), by (with_reducible repeat ((apply Kd.R_drew))); exact HO303.out, by repeat ((with_reducible (exact HB.out)))⟩
    ·rw [if_neg c6] at H
     exact absurd H (by simp)
   ·replace c5 := Bool.eq_false_iff.mpr c5
    subst c5
    have H1 : (if a1 < 0 then ((variorumref01_Put.f kj2 l0 (wrap64 ((wrap64 (2 * (wrap64 (-a1)))) - 1))).bind fun t304 => (some t304)) else ((variorumref01_Put.f kj2 l0 (wrap64 (2 * a1))).bind fun t307 => (some t307))) = some r := by rw [if_neg (show ¬ (false = true) by decide)] at H; exact H
    clear H
    have H := H1
    clear H1
    by_cases c10 : a1 < 0
    ·rw [if_pos c10] at H
     have c10b0 : decide (a1 < 0) = true := decide_eq_true c10
     clear c10
     replace H := Option.bind_eq_some_iff.mp H
     obtain ⟨t304, A110, H⟩ := H
     replace H : (some t304) = some r := H
     have A11 := Aside0.mk A110
     clear A110
     obtain rfl := Option.some.inj H
     go_wp2_with (first | ((with_reducible refine gate_callee (f := 41) rfl ?_); refine goesL_ (some 21) rfl rfl Try.func41 (by kernel_rfl) rfl #[.slice A0 l0.length c0, .int .i64 (wrap64 ((wrap64 (2 * (wrap64 (-a1)))) - 1))] rfl (by (try simp only [List.map_toArray, List.map_cons, List.map_nil]); (rfl)) ?_; (with_reducible refine (variorumref01_Put.calls kj2 _ _ l0 (wrap64 ((wrap64 (2 * (wrap64 (-a1)))) - 1)) t304 _ ?side1 ?side2 A11.out).mono ?_); (case side1 => repeat ((exact (Kd.C_below HR0.out HB.out)))); (case side2 => exact HC0.out); rintro e w12 ⟨v305, rfl, ho0, hb⟩; refine ⟨_, rfl, ?_⟩; have n0_ := Aside0.mk (Kd.R_lower ho0 (below_size (by repeat ((with_reducible (exact HB.out)))))); have n1_ := Aside0.mk (below_step (by repeat ((with_reducible (exact HB.out)))) hb); clear HB; have HO306 := n0_; have HB := n1_; clear n0_ n1_; (try clear hb); (try clear hb2); (try clear hk); (try clear hi); (try clear ho0)))
     go_ret
     exact ⟨_, by (rfl), by (with_reducible repeat ((apply Kd.R_drew))); exact HO306.out, by repeat ((with_reducible (exact HB.out)))⟩
    ·rw [if_neg c10] at H
     have c10b0 : decide (a1 < 0) = false := decide_eq_false c10
     clear c10
     replace H := Option.bind_eq_some_iff.mp H
     obtain ⟨t307, A130, H⟩ := H
     replace H : (some t307) = some r := H
     have A13 := Aside0.mk A130
     clear A130
     obtain rfl := Option.some.inj H
     go_wp2_with (first | ((with_reducible refine gate_callee (f := 41) rfl ?_); refine goesL_ (some 25) rfl rfl Try.func41 (by kernel_rfl) rfl #[.slice A0 l0.length c0, .int .i64 (wrap64 (2 * a1))] rfl (by (try simp only [List.map_toArray, List.map_cons, List.map_nil]); (rfl)) ?_; (with_reducible refine (variorumref01_Put.calls kj2 _ _ l0 (wrap64 (2 * a1)) t307 _ ?side1 ?side2 A13.out).mono ?_); (case side1 => repeat ((exact (Kd.C_below HR0.out HB.out)))); (case side2 => exact HC0.out); rintro e w14 ⟨v308, rfl, ho0, hb⟩; refine ⟨_, rfl, ?_⟩; have n0_ := Aside0.mk (Kd.R_lower ho0 (below_size (by repeat ((with_reducible (exact HB.out)))))); have n1_ := Aside0.mk (below_step (by repeat ((with_reducible (exact HB.out)))) hb); clear HB; have HO309 := n0_; have HB := n1_; clear n0_ n1_; (try clear hb); (try clear hb2); (try clear hk); (try clear hi); (try clear ho0)))
     go_ret
     exact ⟨_, by (rfl), by (with_reducible repeat ((apply Kd.R_drew))); exact HO309.out, by repeat ((with_reducible (exact HB.out)))⟩
end Go.Proofs.Ytedfcjcnhgomoaa.P
end
-- MERGED YtedfcjcnhgomoaaPvariorumref01Num
section
namespace Go.Proofs.Ytedfcjcnhgomoaa.P
open Go.RowKit Go.Proofs.YtedfcjcnhgomoaaW.PrintWords Go.Proofs.YtedfcjcnhgomoaaW.PrintLast Go.Proofs.YtedfcjcnhgomoaaW.PrintMore
attribute [local go_sem] max2_int min2_int max_two min_two max_three min_three max_four min_four   -- for this text's walks alone
set_option linter.unusedVariables false
set_option linter.unusedSimpArgs false
mutual
def variorumref01_Num.l0 : Nat → List Int → Int → Int → Int → Option (Int × Int)
 | 0, _, _, _, _ => none
 | k + 1, x0, x4, x5, x6 => if x6 < (x0.length : Int) then (variorumref01_Num.j1 k x0 x4 x5 x6 (decide (x6 < 9))) else (variorumref01_Num.j1 k x0 x4 x5 x6 false)
def variorumref01_Num.j1 : Nat → List Int → Int → Int → Int → Bool → Option (Int × Int)
 | 0, _, _, _, _, _ => none
 | k + 1, x0, x4, x5, x6, x15 => if x15 = true then (if 0 ≤ x6 then (if x6 < (x0.length : Int) then (if (Int.tmod (wrap64 (rd x0 x6)) 128) > 0 then (if x5 = 0 then (none) else (variorumref01_Num.j2 k x0 x4 x5 x6 (Int.tmod (wrap64 (rd x0 x6)) 128) (decide ((Int.tmod (wrap64 (rd x0 x6)) 128) > (wrap64 (Int.tdiv (wrap64 (4611686018427387904 - x4)) x5)))))) else (variorumref01_Num.j2 k x0 x4 x5 x6 (Int.tmod (wrap64 (rd x0 x6)) 128) false)) else (none)) else (none)) else (some (0, 0))
def variorumref01_Num.j2 : Nat → List Int → Int → Int → Int → Int → Bool → Option (Int × Int)
 | 0, _, _, _, _, _, _ => none
 | k + 1, x0, x4, x5, x6, x7, x33 => if x33 = true then (some (0, 0)) else (if 0 ≤ x6 then (if x6 < (x0.length : Int) then (if (rd x0 x6) < 128 then (if x7 = 0 then (if x6 > 0 then (some (0, 0)) else (some (wrap64 (x4 + (wrap64 (x7 * x5))), wrap64 (x6 + 1)))) else (some (wrap64 (x4 + (wrap64 (x7 * x5))), wrap64 (x6 + 1)))) else (variorumref01_Num.l0 k x0 (wrap64 (x4 + (wrap64 (x7 * x5)))) (wrap64 (x5 * 128)) (wrap64 (x6 + 1)))) else (none)) else (none))
end
def variorumref01_Num.f (k : Nat) (l0 : List Int) : Option (Int × Int) := variorumref01_Num.l0 k l0 0 1 0
theorem variorumref01_Num.mono_l : ∀ k, (∀ y0 y1 y2 y3, LeO (variorumref01_Num.l0 k y0 y1 y2 y3) (variorumref01_Num.l0 (k + 1) y0 y1 y2 y3)) ∧ (∀ y0 y1 y2 y3 y4, LeO (variorumref01_Num.j1 k y0 y1 y2 y3 y4) (variorumref01_Num.j1 (k + 1) y0 y1 y2 y3 y4)) ∧ (∀ y0 y1 y2 y3 y4 y5, LeO (variorumref01_Num.j2 k y0 y1 y2 y3 y4 y5) (variorumref01_Num.j2 (k + 1) y0 y1 y2 y3 y4 y5))
 | 0 => ⟨fun _ _ _ _ r h => by simp [variorumref01_Num.l0] at h, fun _ _ _ _ _ r h => by simp [variorumref01_Num.j1] at h, fun _ _ _ _ _ _ r h => by simp [variorumref01_Num.j2] at h⟩
 | k + 1 => by
  obtain ⟨ih0, ih1, ih2⟩ := variorumref01_Num.mono_l k
  refine ⟨?_, ?_, ?_⟩
  ·intro y0 y1 y2 y3
   unfold variorumref01_Num.l0
   repeat' first | (with_reducible exact ih1 _ _ _ _ _) | (with_reducible refine LeO.ite ?_ ?_)
  ·intro y0 y1 y2 y3 y4
   unfold variorumref01_Num.j1
   repeat' first | (with_reducible exact ih2 _ _ _ _ _ _) | (with_reducible exact LeO.refl _) | (with_reducible refine LeO.ite ?_ ?_)
  ·intro y0 y1 y2 y3 y4 y5
   unfold variorumref01_Num.j2
   repeat' first | (with_reducible exact ih0 _ _ _ _) | (with_reducible exact LeO.refl _) | (with_reducible refine LeO.ite ?_ ?_)
theorem variorumref01_Num.mono : ∀ a0 k, LeO (variorumref01_Num.f k a0) (variorumref01_Num.f (k + 1) a0) := by
 intro a0 k
 obtain ⟨ih0, ih1, ih2⟩ := variorumref01_Num.mono_l k
 unfold variorumref01_Num.f
 repeat' (with_reducible exact ih0 _ _ _ _)
set_option maxHeartbeats 8000000 in
set_option maxRecDepth 100000 in
theorem variorumref01_Num.calls (k : Nat) (A0 : Option Addr) (c0 : Nat) (l0 : List Int) (r1 : Int) (r2 : Int) (w : World) (hr0 : Kd.C (Kd.int .u8) w A0 l0.length l0) (hc0 : l0.length ≤ c0) (h : variorumref01_Num.f k l0 = some (r1, r2)) :
  Calls Try.prog 53 #[.slice A0 l0.length c0] w fun e w' => e = .returned (.tuple #[.int .i64 r1, .int .i64 r2]) ∧ Drawn0 w w' := by
 have HR0 := Aside0.mk hr0
 have HC0 := Aside0.mk hc0
 clear hr0 hc0
 have H : (variorumref01_Num.l0 k l0 0 1 0) = some (r1, r2) := h
 clear h
 have H' := Aside0.mk H
 clear H
 go_enter Try.func53, Try.ntmps53
 go_wp2
 go_loopg [4, 5, 6] k (fun kq v4 v5 v6 w' => ∃ (x4_1 : Int) (x5_1 : Int) (x6_1 : Int), v4 = .int .i64 x4_1 ∧ v5 = .int .i64 x5_1 ∧ v6 = .int .i64 x6_1 ∧ Aside0 (variorumref01_Num.l0 kq l0 x4_1 x5_1 x6_1 = some (r1, r2)) ∧ Aside0 (kq ≤ k) ∧ Drawn0 w w')
 case atStart => exact ⟨(0), (1), (0), (by (rfl)), (by (rfl)), (by (rfl)), H', ⟨Nat.le_refl _⟩, by repeat ((exact Drawn0.refl _))⟩
 case round =>
  clear H'
  obtain ⟨x4_1, x5_1, x6_1, rfl, rfl, rfl, HA, HK1, ⟨m1, rfl⟩⟩ := hrel
  cases gk with
  | zero => exact absurd HA.out (by simp [variorumref01_Num.l0])
  | succ k1 =>
   have H := HA.out
   clear HA
   simp only [variorumref01_Num.l0] at H
   have HC2 := Aside0.mk H
   clear H
   go_upto_region 4 with (fail)
   go_cut [15] (fun v15 wc => ∃ (kq : Nat) (x15_1 : Bool), v15 = .bool x15_1 ∧ Aside0 (variorumref01_Num.j1 kq l0 x4_1 x5_1 x6_1 x15_1 = some (r1, r2)) ∧ Aside0 (kq ≤ k1) ∧ Drawn0 w wc)
   case first =>
    have H := HC2.out
    clear HC2
    by_cases c3 : x6_1 < (l0.length : Int)
    ·rw [if_pos c3] at H
     have c3b0 : decide (x6_1 < (l0.length : Int)) = true := decide_eq_true c3
     clear c3
     ((skip))
     have H' := Aside0.mk H
     clear H
     go_wp2
     go_meet
     case rel => exact ⟨_, (decide (x6_1 < 9)), (by (rfl)), H', ⟨by have := HK1.out; (omega)⟩, by repeat (first | exact Drawn0.refl _ | apply Drawn0.step)⟩
    ·rw [if_neg c3] at H
     have c3b0 : decide (x6_1 < (l0.length : Int)) = false := decide_eq_false c3
     clear c3
     ((skip))
     have H' := Aside0.mk H
     clear H
     go_wp2
     go_meet
     case rel => exact ⟨_, (false), (by (rfl)), H', ⟨by have := HK1.out; (omega)⟩, by repeat (first | exact Drawn0.refl _ | apply Drawn0.step)⟩
   case rest =>
    clear HC2
    try clear p2
    try clear c3
    try clear c3b0
    obtain ⟨kq, x15_1, rfl, HA, HJ1, ⟨mc1, rfl⟩⟩ := hcut
    cases kq with
    | zero => exact absurd HA.out (by simp [variorumref01_Num.j1])
    | succ kj1 =>
     have H := HA.out
     clear HA
     simp only [variorumref01_Num.j1] at H
     by_cases c4 : x15_1 = true
     ·subst c4
      have H1 : (if 0 ≤ x6_1 then (if x6_1 < (l0.length : Int) then (if (Int.tmod (wrap64 (rd l0 x6_1)) 128) > 0 then (if x5_1 = 0 then (none) else (variorumref01_Num.j2 kj1 l0 x4_1 x5_1 x6_1 (Int.tmod (wrap64 (rd l0 x6_1)) 128) (decide ((Int.tmod (wrap64 (rd l0 x6_1)) 128) > (wrap64 (Int.tdiv (wrap64 (4611686018427387904 - x4_1)) x5_1)))))) else (variorumref01_Num.j2 kj1 l0 x4_1 x5_1 x6_1 (Int.tmod (wrap64 (rd l0 x6_1)) 128) false)) else (none)) else (none)) = some (r1, r2) := by rw [if_pos rfl] at H; exact H
      clear H
      have H := H1
      clear H1
      by_cases c5 : 0 ≤ x6_1
      ·rw [if_pos c5] at H
       have c5b0 : decide (0 ≤ x6_1) = true := decide_eq_true c5
       clear c5
       by_cases c6 : x6_1 < (l0.length : Int)
       ·rw [if_pos c6] at H
        have c6b0 : decide (x6_1 < (l0.length : Int)) = true := decide_eq_true c6
        clear c6
        have HC7 := Aside0.mk H
        clear H
        have p178 : 0 ≤ (x6_1 : Int) := of_decide_eq_true (by (with_reducible assumption))
        have q178 : x6_1 < (l0.length : Int) := of_decide_eq_true (by (with_reducible assumption))
        obtain ⟨ad178, e178, hx178_0⟩ := Kd.at_int HR0.out x6_1 p178 q178
        cases e178
        replace p178 := eq_true p178
        replace q178 := eq_true q178
        go_upto_region 7 with (fail)
        go_cut [33] (fun v33 wc => ∃ (kq : Nat) (x33_6 : Bool), v33 = .bool x33_6 ∧ Aside0 (variorumref01_Num.j2 kq l0 x4_1 x5_1 x6_1 (Int.tmod (wrap64 (rd l0 x6_1)) 128) x33_6 = some (r1, r2)) ∧ Aside0 (kq ≤ kj1) ∧ Drawn0 w wc)
        case first =>
         have H := HC7.out
         clear HC7
         by_cases c8 : (Int.tmod (wrap64 (rd l0 x6_1)) 128) > 0
         ·rw [if_pos c8] at H
          have c8b0 : decide (0 < (Int.tmod (wrap64 (rd l0 x6_1)) 128)) = true := decide_eq_true c8
          clear c8
          ((skip))
          by_cases c9 : x5_1 = 0
          ·rw [if_pos c9] at H
           exact absurd H (by simp)
          ·rw [if_neg c9] at H
           have c9b0 : (x5_1 == 0) = false := beq_eq_false_iff_ne.mpr c9
           have c9b1 : (x5_1 != 0) = true := bne_iff_ne.mpr c9
           have H' := Aside0.mk H
           clear H
           go_wp2
           go_meet
           case rel => exact ⟨_, (decide ((Int.tmod (wrap64 (rd l0 x6_1)) 128) > (wrap64 (Int.tdiv (wrap64 (4611686018427387904 - x4_1)) x5_1)))), (by (rfl)), H', ⟨by have := HK1.out; have := HJ1.out; (omega)⟩, by repeat (first | exact Drawn0.refl _ | apply Drawn0.step)⟩
         ·rw [if_neg c8] at H
          have c8b0 : decide (0 < (Int.tmod (wrap64 (rd l0 x6_1)) 128)) = false := decide_eq_false c8
          clear c8
          ((skip))
          have H' := Aside0.mk H
          clear H
          go_wp2
          go_meet
          case rel => exact ⟨_, (false), (by (rfl)), H', ⟨by have := HK1.out; have := HJ1.out; (omega)⟩, by repeat (first | exact Drawn0.refl _ | apply Drawn0.step)⟩
        case rest =>
         clear HC7
         try clear c1
         try clear p1
         try clear q1
         try clear hx1
         try clear p2
         try clear c3
         try clear c3b0
         try clear c4
         try clear c5
         try clear c5b0
         try clear c6
         try clear c6b0
         try clear p6
         try clear c8
         try clear c8b0
         try clear c9
         try clear c9b0
         try clear c9b1
         try clear hx178_0
         try clear p178
         try clear p2
         try clear q178
         obtain ⟨kq, x33_6, rfl, HA, HJ6, ⟨mc6, rfl⟩⟩ := hcut
         cases kq with
         | zero => exact absurd HA.out (by simp [variorumref01_Num.j2])
         | succ kj6 =>
          have H := HA.out
          clear HA
          simp only [variorumref01_Num.j2] at H
          by_cases c10 : x33_6 = true
          ·subst c10
           have H1 : (some (0, 0)) = some (r1, r2) := by rw [if_pos rfl] at H; exact H
           clear H
           have H := H1
           clear H1
           simp only [Option.some.injEq, Prod.mk.injEq] at H
           obtain ⟨rfl, rfl⟩ := H
           go_wp2
           go_ret2
           exact ⟨by (rfl), by repeat (first | exact Drawn0.refl _ | apply Drawn0.step)⟩
          ·replace c10 := Bool.eq_false_iff.mpr c10
           subst c10
           have H1 : (if 0 ≤ x6_1 then (if x6_1 < (l0.length : Int) then (if (rd l0 x6_1) < 128 then (if (Int.tmod (wrap64 (rd l0 x6_1)) 128) = 0 then (if x6_1 > 0 then (some (0, 0)) else (some (wrap64 (x4_1 + (wrap64 ((Int.tmod (wrap64 (rd l0 x6_1)) 128) * x5_1))), wrap64 (x6_1 + 1)))) else (some (wrap64 (x4_1 + (wrap64 ((Int.tmod (wrap64 (rd l0 x6_1)) 128) * x5_1))), wrap64 (x6_1 + 1)))) else (variorumref01_Num.l0 kj6 l0 (wrap64 (x4_1 + (wrap64 ((Int.tmod (wrap64 (rd l0 x6_1)) 128) * x5_1)))) (wrap64 (x5_1 * 128)) (wrap64 (x6_1 + 1)))) else (none)) else (none)) = some (r1, r2) := by rw [if_neg (show ¬ (false = true) by decide)] at H; exact H
           clear H
           have H := H1
           clear H1
           by_cases c11 : 0 ≤ x6_1
           ·rw [if_pos c11] at H
            have c11b0 : decide (0 ≤ x6_1) = true := decide_eq_true c11
            clear c11
            by_cases c12 : x6_1 < (l0.length : Int)
            ·rw [if_pos c12] at H
             have c12b0 : decide (x6_1 < (l0.length : Int)) = true := decide_eq_true c12
             clear c12
             by_cases c13 : (rd l0 x6_1) < 128
             ·rw [if_pos c13] at H
              have c13b0 : decide ((rd l0 x6_1) < 128) = true := decide_eq_true c13
              clear c13
              by_cases c14 : (Int.tmod (wrap64 (rd l0 x6_1)) 128) = 0
              ·rw [if_pos c14] at H
               have c14b0 : ((Int.tmod (wrap64 (rd l0 x6_1)) 128) == 0) = true := beq_iff_eq.mpr c14
               have c14b1 : ((Int.tmod (wrap64 (rd l0 x6_1)) 128) != 0) = false := bne_eq_false_iff_eq.mpr c14
               clear c14
               by_cases c15 : x6_1 > 0
               ·rw [if_pos c15] at H
                have c15b0 : decide (0 < x6_1) = true := decide_eq_true c15
                clear c15
                simp only [Option.some.injEq, Prod.mk.injEq] at H
                obtain ⟨rfl, rfl⟩ := H
                have p179 : 0 ≤ (x6_1 : Int) := of_decide_eq_true (by (with_reducible assumption))
                have q179 : x6_1 < (l0.length : Int) := of_decide_eq_true (by (with_reducible assumption))
                obtain ⟨ad179, e179, hx179_0⟩ := Kd.at_int HR0.out x6_1 p179 q179
                obtain rfl : ad178 = ad179 := (by injection e179)
                replace p179 := eq_true p179
                replace q179 := eq_true q179
                go_wp2
                go_ret2
                exact ⟨by (rfl), by repeat (first | exact Drawn0.refl _ | apply Drawn0.step)⟩
               ·rw [if_neg c15] at H
                have c15b0 : decide (0 < x6_1) = false := decide_eq_false c15
                clear c15
                simp only [Option.some.injEq, Prod.mk.injEq] at H
                obtain ⟨rfl, rfl⟩ := H
                have p179 : 0 ≤ (x6_1 : Int) := of_decide_eq_true (by (with_reducible assumption))
                have q179 : x6_1 < (l0.length : Int) := of_decide_eq_true (by (with_reducible assumption))
                obtain ⟨ad179, e179, hx179_0⟩ := Kd.at_int HR0.out x6_1 p179 q179
                obtain rfl : ad178 = ad179 := (by injection e179)
                replace p179 := eq_true p179
                replace q179 := eq_true q179
                go_wp2
                go_ret2
                exact ⟨by (rfl), by repeat (first | exact Drawn0.refl _ | apply Drawn0.step)⟩
              ·rw [if_neg c14] at H
               have c14b0 : ((Int.tmod (wrap64 (rd l0 x6_1)) 128) == 0) = false := beq_eq_false_iff_ne.mpr c14
               have c14b1 : ((Int.tmod (wrap64 (rd l0 x6_1)) 128) != 0) = true := bne_iff_ne.mpr c14
               simp only [Option.some.injEq, Prod.mk.injEq] at H
               obtain ⟨rfl, rfl⟩ := H
               have p179 : 0 ≤ (x6_1 : Int) := of_decide_eq_true (by (with_reducible assumption))
               have q179 : x6_1 < (l0.length : Int) := of_decide_eq_true (by (with_reducible assumption))
               obtain ⟨ad179, e179, hx179_0⟩ := Kd.at_int HR0.out x6_1 p179 q179
               obtain rfl : ad178 = ad179 := (by injection e179)
               replace p179 := eq_true p179
               replace q179 := eq_true q179
               go_wp2
               go_ret2
               exact ⟨by (rfl), by repeat (first | exact Drawn0.refl _ | apply Drawn0.step)⟩
             ·rw [if_neg c13] at H
              have c13b0 : decide ((rd l0 x6_1) < 128) = false := decide_eq_false c13
              clear c13
              have H' := Aside0.mk H
              clear H
              have p179 : 0 ≤ (x6_1 : Int) := of_decide_eq_true (by (with_reducible assumption))
              have q179 : x6_1 < (l0.length : Int) := of_decide_eq_true (by (with_reducible assumption))
              obtain ⟨ad179, e179, hx179_0⟩ := Kd.at_int HR0.out x6_1 p179 q179
              obtain rfl : ad178 = ad179 := (by injection e179)
              replace p179 := eq_true p179
              replace q179 := eq_true q179
              go_wp2
              go_roundg kj6
              case measure => have := HK1.out; have := HJ1.out; have := HJ6.out; omega
              case rel => exact ⟨(wrap64 (x4_1 + (wrap64 ((Int.tmod (wrap64 (rd l0 x6_1)) 128) * x5_1)))), (wrap64 (x5_1 * 128)), (wrap64 (x6_1 + 1)), (by (rfl)), (by (rfl)), (by (rfl)), H', ⟨by have := HK1.out; have := HJ1.out; have := HJ6.out; omega⟩, by repeat (first | exact Drawn0.refl _ | apply Drawn0.step)⟩
            ·rw [if_neg c12] at H
             exact absurd H (by simp)
           ·rw [if_neg c11] at H
            exact absurd H (by simp)
       ·rw [if_neg c6] at H
        exact absurd H (by simp)
      ·rw [if_neg c5] at H
       exact absurd H (by simp)
     ·replace c4 := Bool.eq_false_iff.mpr c4
      subst c4
      have H1 : (some (0, 0)) = some (r1, r2) := by rw [if_neg (show ¬ (false = true) by decide)] at H; exact H
      clear H
      have H := H1
      clear H1
      simp only [Option.some.injEq, Prod.mk.injEq] at H
      obtain ⟨rfl, rfl⟩ := H
      go_wp2
      go_ret2
      exact ⟨by (rfl), by repeat (first | exact Drawn0.refl _ | apply Drawn0.step)⟩
end Go.Proofs.Ytedfcjcnhgomoaa.P
end
-- MERGED YtedfcjcnhgomoaaPvariorumref01Signed
section
namespace Go.Proofs.Ytedfcjcnhgomoaa.P
open Go.RowKit Go.Proofs.YtedfcjcnhgomoaaW.PrintWords Go.Proofs.YtedfcjcnhgomoaaW.PrintLast Go.Proofs.YtedfcjcnhgomoaaW.PrintMore
attribute [local go_sem] max2_int min2_int max_two min_two max_three min_three max_four min_four   -- for this text's walks alone
set_option linter.unusedVariables false
set_option linter.unusedSimpArgs false
def variorumref01_Signed.f (k : Nat) (l0 : List Int) : Option (Int × Int) := (variorumref01_Num.f k l0).bind fun bt423 => (if (Int.tmod bt423.1 2) = 1 then (some (wrap64 (-(wrap64 (Int.tdiv (wrap64 (bt423.1 + 1)) 2))), bt423.2)) else (some (wrap64 (Int.tdiv bt423.1 2), bt423.2)))
theorem variorumref01_Signed.mono : ∀ a0 k, LeO (variorumref01_Signed.f k a0) (variorumref01_Signed.f (k + 1) a0) := by
 intro a0 k
 unfold variorumref01_Signed.f
 repeat' first | (with_reducible exact variorumref01_Num.mono _ _) | (with_reducible exact LeO.refl _) | (with_reducible refine LeO.bind ?_ (fun _ => ?_))
set_option maxHeartbeats 8000000 in
set_option maxRecDepth 100000 in
theorem variorumref01_Signed.calls (k : Nat) (A0 : Option Addr) (c0 : Nat) (l0 : List Int) (r1 : Int) (r2 : Int) (w : World) (hr0 : Kd.C (Kd.int .u8) w A0 l0.length l0) (hc0 : l0.length ≤ c0) (h : variorumref01_Signed.f k l0 = some (r1, r2)) :
  Calls Try.prog 113 #[.slice A0 l0.length c0] w fun e w' => e = .returned (.tuple #[.int .i64 r1, .int .i64 r2]) ∧ Drawn0 w w' := by
 have HR0 := Aside0.mk hr0
 have HC0 := Aside0.mk hc0
 clear hr0 hc0
 have H : ((variorumref01_Num.f k l0).bind fun bt423 => (if (Int.tmod bt423.1 2) = 1 then (some (wrap64 (-(wrap64 (Int.tdiv (wrap64 (bt423.1 + 1)) 2))), bt423.2)) else (some (wrap64 (Int.tdiv bt423.1 2), bt423.2)))) = some (r1, r2) := h
 clear h
 replace H := Option.bind_eq_some_iff.mp H
 obtain ⟨⟨t423, t424⟩, A20, H⟩ := H
 replace H : (if (Int.tmod t423 2) = 1 then (some (wrap64 (-(wrap64 (Int.tdiv (wrap64 (t423 + 1)) 2))), t424)) else (some (wrap64 (Int.tdiv t423 2), t424))) = some (r1, r2) := H
 have A2 := Aside0.mk A20
 clear A20
 by_cases c3 : (Int.tmod t423 2) = 1
 ·rw [if_pos c3] at H
  have c3b0 : ((Int.tmod t423 2) == 1) = true := beq_iff_eq.mpr c3
  have c3b1 : ((Int.tmod t423 2) != 1) = false := bne_eq_false_iff_eq.mpr c3
  clear c3
  simp only [Option.some.injEq, Prod.mk.injEq] at H
  obtain ⟨rfl, rfl⟩ := H
  go_enter Try.func113, Try.ntmps113
  go_wp2_with (first | ((with_reducible refine gate_callee (f := 53) rfl ?_); refine goesL_ (some 8) rfl rfl Try.func53 (by kernel_rfl) rfl #[.slice A0 l0.length c0] rfl (by (try simp only [List.map_toArray, List.map_cons, List.map_nil]); (rfl)) ?_; (with_reducible refine (variorumref01_Num.calls k _ _ l0 t423 t424 _ ?side1 ?side2 A2.out).mono ?_); (case side1 => repeat ((exact HR0.out))); (case side2 => exact HC0.out); rintro e w' ⟨rfl, ⟨nd, rfl⟩⟩; refine ⟨_, rfl, ?_⟩))
  go_ret2
  exact ⟨by (rfl), by repeat (first | exact Drawn0.refl _ | apply Drawn0.step)⟩
 ·rw [if_neg c3] at H
  have c3b0 : ((Int.tmod t423 2) == 1) = false := beq_eq_false_iff_ne.mpr c3
  have c3b1 : ((Int.tmod t423 2) != 1) = true := bne_iff_ne.mpr c3
  simp only [Option.some.injEq, Prod.mk.injEq] at H
  obtain ⟨rfl, rfl⟩ := H
  go_enter Try.func113, Try.ntmps113
  go_wp2_with (first | ((with_reducible refine gate_callee (f := 53) rfl ?_); refine goesL_ (some 8) rfl rfl Try.func53 (by kernel_rfl) rfl #[.slice A0 l0.length c0] rfl (by (try simp only [List.map_toArray, List.map_cons, List.map_nil]); (rfl)) ?_; (with_reducible refine (variorumref01_Num.calls k _ _ l0 t423 t424 _ ?side1 ?side2 A2.out).mono ?_); (case side1 => repeat ((exact HR0.out))); (case side2 => exact HC0.out); rintro e w' ⟨rfl, ⟨nd, rfl⟩⟩; refine ⟨_, rfl, ?_⟩))
  go_ret2
  exact ⟨by (rfl), by repeat (first | exact Drawn0.refl _ | apply Drawn0.step)⟩
end Go.Proofs.Ytedfcjcnhgomoaa.P
end
-- MERGED YtedfcjcnhgomoaaVaryRef
section
namespace Go.Proofs.Ytedfcjcnhgomoaa.VaryRef
open Go.RowKit Go.Proofs.Ytedfcjcnhgomoaa.P Go.Proofs.YtedfcjcnhgomoaaW.PrintWords Go.Proofs.YtedfcjcnhgomoaaW.PrintLast Go.Proofs.YtedfcjcnhgomoaaW.PrintMore Go.Proofs.Ytedfcjcnhgomoaa.Own Go.Proofs.Ytedfcjcnhgomoaa.Vy Go.Proofs.Ytedfcjcnhgomoaa.VaryR
theorem put_eq (k : Nat) (x : Int) (l : List Int) : variorumref01_Put.l0 (k + 1) x l = if x ≥ 128 then (if l.length < 140737488355328 then (variorumref01_Put.l0 k (wrap64 (Int.tdiv x 128)) (l ++ [(wrap64 ((Int.tmod x 128) + 128)) % 256])) else (none)) else (if l.length < 140737488355328 then (some (l ++ [(x) % 256])) else (none)) := by
 rw [variorumref01_Put.l0]
theorem put_j (k : Nat) (x : Int) (l : List Int) (b : Bool) : variorumref01_Put.j0 (k + 1) x l b = if b = true then (some l) else (variorumref01_Put.l0 k x l) := by
 rw [variorumref01_Put.j0]
theorem put_run : ∀ (m k : Nat) (acc : List Int), m ≤ 4611686018427387904 → acc.length + (enc m).length ≤ 140737488355000 → variorumref01_Put.l0 (k + (enc m).length) (m : Int) acc = some (acc ++ enc m) := by
 intro m
 induction m using Nat.strongRecOn with
 | _ m ih =>
  intro k acc hm hl
  by_cases h : m < 128
  ·rw [enc_lt h] at hl ⊢
   rw [show k + [(m : Int)].length = k + 1 from rfl, put_eq, if_neg (by omega), if_pos (by omega), show (m : Int) % 256 = m by omega]
  ·rw [enc_ge (by omega)] at hl ⊢
   simp only [List.length_cons] at hl ⊢
   rw [show k + ((enc (m / 128)).length + 1) = (k + (enc (m / 128)).length) + 1 by omega, put_eq, if_pos (by omega), if_pos (by omega)]
   rw [Int.tdiv_eq_ediv_of_nonneg (by omega), Int.tmod_eq_emod_of_nonneg (by omega), Byt.wrap_in _ (by omega), Byt.wrap_in _ (by omega)]
   rw [show (m : Int) / 128 = ((m / 128 : Nat) : Int) by omega, show ((m : Int) % 128 + 128) % 256 = ((m % 128 + 128 : Nat) : Int) by omega]
   rw [ih (m / 128) (by omega) k _ (by omega) (by simp; omega)]
   simp
theorem put_f (l : List Int) (n : Int) (k : Nat) (hk : 10 ≤ k) (hl : l.length ≤ 140737488354000) : variorumref01_Put.f k l n = some (putL l n) := by
 unfold variorumref01_Put.f putL
 obtain ⟨k, rfl⟩ : ∃ q, k = q + 1 := ⟨k - 1, by omega⟩
 simp only [Option.bind_some, List.nil_append, List.length_nil]
 rw [if_pos (by omega)]
 by_cases h0 : n < 0
 ·rw [if_pos h0, put_j, if_pos rfl, if_pos (.inl h0)]
 ·rw [if_neg h0, put_j]
  by_cases h1 : n > 4611686018427387904
  ·rw [if_pos (by simpa using h1), if_pos (.inr h1)]
  ·obtain ⟨m, rfl⟩ : ∃ m : Nat, n = (m : Int) := ⟨n.toNat, by omega⟩
   rw [if_neg (by simpa using h1), if_neg (by have : M = 4611686018427387904 := rfl; omega), Int.toNat_natCast]
   have h9 := enc_len9 (n := m) (by omega)
   have := put_run m (k - (enc m).length) l (by omega) (by omega)
   rwa [show k - (enc m).length + (enc m).length = k by omega] at this
theorem putS_f (l : List Int) (n : Int) (hl : l.length ≤ 140737488354000) : variorumref01_PutSigned.f 11 l n = some (putSL l n) := by
 unfold variorumref01_PutSigned.f putSL
 by_cases h0 : n < -2305843009213693952
 ·rw [if_pos h0, if_pos (.inl h0), variorumref01_PutSigned.j0, if_pos rfl]
  simp only [Option.bind_some, List.nil_append, List.length_nil]
  rw [if_pos (by omega)]
 ·rw [if_neg h0, variorumref01_PutSigned.j0]
  by_cases h1 : n > 2305843009213693952
  ·rw [if_pos (by simpa using h1), if_pos (.inr h1)]
   simp only [Option.bind_some, List.nil_append, List.length_nil]
   rw [if_pos (by omega)]
  ·have hno : ¬ (n < -2305843009213693952 ∨ 2305843009213693952 < n) := by omega
   rw [if_neg (by simpa using h1)]
   rw [if_neg hno]
   unfold zig
   by_cases h2 : n < 0
   ·rw [if_pos h2, if_pos h2, Byt.wrap_in (-n) (by omega), Byt.wrap_in (2 * -n) (by omega), Byt.wrap_in _ (by omega), put_f _ _ _ (by decide) hl, show 2 * -n - 1 = -2 * n - 1 by omega]; rfl
   ·rw [if_neg h2, if_neg h2, Byt.wrap_in _ (by omega), put_f _ _ _ (by decide) hl]; rfl
theorem bytesOf_eq (s : ByteArray) : bytesOf s = numsOf s := rfl
theorem putT_f (l : List Int) (s : ByteArray) (k : Nat) (hk : 10 ≤ k) (hl : l.length + s.size ≤ 140737488353000) : variorumref01_PutText.f k l s = some (putTL l (numsOf s)) := by
 unfold variorumref01_PutText.f putTL
 rw [put_f _ _ _ hk (by omega), Option.bind_some, numsOf_length]
 have := putL_len l (s.size : Int)
 rw [if_pos (by omega), bytesOf_eq]
theorem num_l0 (k : Nat) (l : List Int) (n s i : Int) : variorumref01_Num.l0 (k + 1) l n s i = if i < (l.length : Int) then (variorumref01_Num.j1 k l n s i (decide (i < 9))) else (variorumref01_Num.j1 k l n s i false) := by
 rw [variorumref01_Num.l0]
theorem num_j1 (k : Nat) (x0 : List Int) (x4 x5 x6 : Int) (x15 : Bool) : variorumref01_Num.j1 (k + 1) x0 x4 x5 x6 x15 = if x15 = true then (if 0 ≤ x6 then (if x6 < (x0.length : Int) then (if (Int.tmod (wrap64 (rd x0 x6)) 128) > 0 then (if x5 = 0 then (none) else (variorumref01_Num.j2 k x0 x4 x5 x6 (Int.tmod (wrap64 (rd x0 x6)) 128) (decide ((Int.tmod (wrap64 (rd x0 x6)) 128) > (wrap64 (Int.tdiv (wrap64 (4611686018427387904 - x4)) x5)))))) else (variorumref01_Num.j2 k x0 x4 x5 x6 (Int.tmod (wrap64 (rd x0 x6)) 128) false)) else (none)) else (none)) else (some (0, 0)) := by
 rw [variorumref01_Num.j1]
theorem num_j2 (k : Nat) (x0 : List Int) (x4 x5 x6 x7 : Int) (x33 : Bool) : variorumref01_Num.j2 (k + 1) x0 x4 x5 x6 x7 x33 = if x33 = true then (some (0, 0)) else (if 0 ≤ x6 then (if x6 < (x0.length : Int) then (if (rd x0 x6) < 128 then (if x7 = 0 then (if x6 > 0 then (some (0, 0)) else (some (wrap64 (x4 + (wrap64 (x7 * x5))), wrap64 (x6 + 1)))) else (some (wrap64 (x4 + (wrap64 (x7 * x5))), wrap64 (x6 + 1)))) else (variorumref01_Num.l0 k x0 (wrap64 (x4 + (wrap64 (x7 * x5)))) (wrap64 (x5 * 128)) (wrap64 (x6 + 1)))) else (none)) else (none)) := by
 rw [variorumref01_Num.j2]
def pr (p : Int × Nat) : Int × Int := (p.1, (p.2 : Int))
theorem num_run (l : List Int) (hok : Byt.Ok l) : ∀ (d i k : Nat) (n : Int), i + d = 9 → 0 ≤ n → n ≤ M →
  variorumref01_Num.l0 (k + 3 * d + 2) l n (scal i) (i : Int) = some (pr (numG i n (l.drop i))) := by
 intro d
 induction d with
 | zero =>
  intro i k n hd h0 h1
  obtain rfl : i = 9 := by omega
  rw [numG_end (.inl (by omega)), show k + 3 * 0 + 2 = (k + 1) + 1 by omega, num_l0]
  split
  ·rw [num_j1, if_neg (by simp)]; rfl
  ·rw [num_j1, if_neg (by simp)]; rfl
 | succ d ih =>
  intro i k n hd h0 h1
  rw [show k + 3 * (d + 1) + 2 = (((k + 3 * d + 2) + 1) + 1) + 1 by omega, num_l0]
  by_cases hlt : i < l.length
  ·obtain ⟨x, hx⟩ : ∃ x, l[i] = x := ⟨_, rfl⟩
   have hxr : 0 ≤ x ∧ x ≤ 255 := hok x (hx ▸ List.getElem_mem hlt)
   have hrd : rd l (i : Int) = x := by unfold rd; rw [Byt.rd_at l i hlt, hx]
   have hdrop : l.drop i = x :: l.drop (i + 1) := by rw [List.drop_eq_getElem_cons hlt, hx]
   have hi9 : i < 9 := by omega
   have hs := scal_le hi9
   have hs0 := Vy.pow_pos i
   have hs1 := pow_le8 (k := i) (by omega)
   have hM : M = 4611686018427387904 := rfl
   rw [if_pos (by omega), num_j1, if_pos (by simp; omega), if_pos (by omega), if_pos (by omega), hrd, Byt.wrap_in x (by omega), Int.tmod_eq_emod_of_nonneg (by omega), hs, hdrop]
   have hP0 : 0 ≤ x % 128 * 128 ^ i := Int.mul_nonneg (by omega) (by omega)
   have hdv : (M - n) / 128 ^ i ≤ M - n := Int.ediv_le_self _ (by omega)
   have hdd : (4611686018427387904 - n) / 128 ^ i = (M - n) / 128 ^ i := rfl
   have hdv0 : 0 ≤ (M - n) / 128 ^ i := Int.ediv_nonneg (by omega) (by omega)
   by_cases hb : 0 < x % 128 ∧ (M - n) / 128 ^ i < x % 128
   ·rw [if_pos hb.1, if_neg (by omega), Byt.wrap_in (4611686018427387904 - n) (by omega), Int.tdiv_eq_ediv_of_nonneg (by omega), Byt.wrap_in _ (by omega), num_j2, if_pos (by simpa using hb.2), numG_bad hi9 hb.1 hb.2]; rfl
   ·have hle : n + x % 128 * 128 ^ i ≤ M := by
     by_cases hk : 0 < x % 128
     ·have := (le_div (x % 128) (M - n) (128 ^ i) hs0).1 (by omega)
      omega
     ·have : x % 128 = 0 := by omega
      rw [this]; omega
    have hj : (if x % 128 > 0 then (if (128 : Int) ^ i = 0 then (none) else (variorumref01_Num.j2 (k + 3 * d + 2 + 1) l n (128 ^ i) (i : Int) (x % 128) (decide (x % 128 > (wrap64 (Int.tdiv (wrap64 (4611686018427387904 - n)) (128 ^ i))))))) else (variorumref01_Num.j2 (k + 3 * d + 2 + 1) l n (128 ^ i) (i : Int) (x % 128) false)) = variorumref01_Num.j2 (k + 3 * d + 2 + 1) l n (128 ^ i) (i : Int) (x % 128) false := by
     by_cases hk : 0 < x % 128
     ·rw [if_pos hk, if_neg (by omega), Byt.wrap_in (4611686018427387904 - n) (by omega), Int.tdiv_eq_ediv_of_nonneg (by omega), Byt.wrap_in _ (by omega), decide_eq_false (by omega)]
     ·rw [if_neg hk]
    rw [hj, num_j2, if_neg (by simp), if_pos (by omega), if_pos (by omega), hrd, Byt.wrap_in (x % 128 * 128 ^ i) (by omega), Byt.wrap_in (n + x % 128 * 128 ^ i) (by omega), Byt.wrap_in ((i : Int) + 1) (by omega)]
    by_cases hge : 128 ≤ x
    ·rw [if_neg (by omega), numG_more hi9 hb hge]
     have hsn := scal_next hi9
     rw [hs] at hsn
     rw [hsn, show (i : Int) + 1 = ((i + 1 : Nat) : Int) by omega]
     exact ih (i + 1) k _ (by omega) (by omega) hle
    ·rw [if_pos (by omega)]
     by_cases hz : x % 128 = 0 ∧ 0 < i
     ·rw [if_pos hz.1, if_pos (by omega), numG_idle hi9 (by omega) hz.1 hz.2]; rfl
     ·rw [numG_last hi9 hb (by omega) hz]
      by_cases hz1 : x % 128 = 0
      ·rw [if_pos hz1, if_neg (by omega)]; rfl
      ·rw [if_neg hz1]; rfl
  ·rw [if_neg (by omega), num_j1, if_neg (by simp), numG_end (.inr (List.drop_of_length_le (by omega)))]; rfl
theorem num_f (l : List Int) (hok : Byt.Ok l) : variorumref01_Num.f 29 l = some (pr (numL l)) := by
 unfold variorumref01_Num.f numL
 have := num_run l hok 9 0 0 0 (by omega) (by omega) (by decide)
 simpa [scal] using this
theorem signed_f (l : List Int) (hok : Byt.Ok l) : variorumref01_Signed.f 29 l = some (pr (sgnL l)) := by
 unfold variorumref01_Signed.f sgnL
 rw [num_f l hok, Option.bind_some]
 obtain ⟨h0, h1⟩ := numL_nonneg hok
 have hM : M = 4611686018427387904 := rfl
 unfold pr zag
 simp only
 obtain ⟨r, hr⟩ : ∃ r, r = (numL l).1 := ⟨_, rfl⟩
 rw [← hr] at h0 h1 ⊢
 rw [Int.tmod_eq_emod_of_nonneg h0, Int.tdiv_eq_ediv_of_nonneg h0, Byt.wrap_in (r + 1) (by omega), Int.tdiv_eq_ediv_of_nonneg (by omega), Byt.wrap_in ((r + 1) / 2) (by omega), Byt.wrap_in (-((r + 1) / 2)) (by omega), Byt.wrap_in (r / 2) (by omega)]
 split <;> rfl
end Go.Proofs.Ytedfcjcnhgomoaa.VaryRef
end

/- Shaken: what the claim's theorem needs of our texts, of the printed ones and of the print's words. -/
import Derived.Test.YtjbnffadfohofaaXCarryWithinC
import Derived.Lib.Bytes
import Derived.Laws.BitsLemmas
import Derived.RowKit
import GoSem.Claim
import Derived.Outline
import Derived.Lib.SliceRun
import Derived.Stop.BytesEq
import Derived.Deep.QuietTactic
import Derived.BigQuiet
-- MERGED YtjbnffadfohofaaPvariorumref07Apply
section
namespace Go.Proofs.Ytjbnffadfohofaa.P
open Go.RowKit Go.Proofs.YtjbnffadfohofaaW.PrintWords Go.Proofs.YtjbnffadfohofaaW.PrintLast Go.Proofs.YtjbnffadfohofaaW.PrintMore
attribute [local go_sem] max2_int min2_int max_two min_two max_three min_three max_four min_four   -- for this text's walks alone
set_option linter.unusedVariables false
set_option linter.unusedSimpArgs false
def variorumref07_Apply.l0 : Nat → List (S49) → ByteArray → ByteArray → Int → Int → Option (ByteArray × Int)
 | 0, _, _, _, _, _ => none
 | k + 1, x0, x1, x6, x7, x8 => if x8 < (x0.length : Int) then (if 0 ≤ x8 then (if x6.size + ((rd_T49 x0 x8).f1).size ≤ 9223372036854775807 then (if 0 ≤ x7 then (if x7 ≤ (wrap64 (x7 + ((rd_T49 x0 x8).f0))) then (if (wrap64 (x7 + ((rd_T49 x0 x8).f0))) ≤ (x1.size : Int) then (if (x6 ++ ((rd_T49 x0 x8).f1)).size + (x1.extract (x7 : Int).toNat ((wrap64 (x7 + ((rd_T49 x0 x8).f0))) : Int).toNat).size ≤ 9223372036854775807 then (variorumref07_Apply.l0 k x0 x1 ((x6 ++ ((rd_T49 x0 x8).f1)) ++ (x1.extract (x7 : Int).toNat ((wrap64 (x7 + ((rd_T49 x0 x8).f0))) : Int).toNat)) (wrap64 ((wrap64 (x7 + ((rd_T49 x0 x8).f0))) + ((rd_T49 x0 x8).f2))) (wrap64 (x8 + 1))) else (none)) else (none)) else (none)) else (none)) else (none)) else (none)) else (some (x6, 0))
def variorumref07_Apply.f (k : Nat) (l0 : List (S49)) (a1 : ByteArray) : Option (ByteArray × Int) := (variorumref07_Fits.f k l0 a1).bind fun t298 => (if t298 = true then (variorumref07_Apply.l0 k l0 a1 (⟨#[]⟩ : ByteArray) 0 0) else (some ((⟨#[]⟩ : ByteArray), 60)))
set_option maxHeartbeats 8000000 in
set_option maxRecDepth 100000 in
theorem variorumref07_Apply.calls (k : Nat) (A0 : Option Addr) (c0 : Nat) (l0 : List (S49)) (a1 : ByteArray) (r1 : ByteArray) (r2 : Int) (w : World) (hr0 : Kd.C k49 w A0 l0.length l0) (hc0 : l0.length ≤ c0) (h : variorumref07_Apply.f k l0 a1 = some (r1, r2)) :
  Calls Try.prog 20 #[.slice A0 l0.length c0, .string a1] w fun e w' => e = .returned (.tuple #[.string r1, .int .i64 r2]) ∧ Below w.heap.size w w' := by
 have hu49 := Try.underlying49
 have HR0 := Aside0.mk hr0
 have HC0 := Aside0.mk hc0
 clear hr0 hc0
 have HB := Aside0.mk (Below.refl w.heap.size w)
 have H : ((variorumref07_Fits.f k l0 a1).bind fun t298 => (if t298 = true then (variorumref07_Apply.l0 k l0 a1 (⟨#[]⟩ : ByteArray) 0 0) else (some ((⟨#[]⟩ : ByteArray), 60)))) = some (r1, r2) := h
 clear h
 replace H := Option.bind_eq_some_iff.mp H
 obtain ⟨t298, A30, H⟩ := H
 replace H : (if t298 = true then (variorumref07_Apply.l0 k l0 a1 (⟨#[]⟩ : ByteArray) 0 0) else (some ((⟨#[]⟩ : ByteArray), 60))) = some (r1, r2) := H
 have A3 := Aside0.mk A30
 clear A30
 by_cases c4 : t298 = true
 ·subst c4
  have H1 : (variorumref07_Apply.l0 k l0 a1 (⟨#[]⟩ : ByteArray) 0 0) = some (r1, r2) := by rw [if_pos rfl] at H; exact H
  clear H
  have H := H1
  clear H1
  have H' := Aside0.mk H
  clear H
  go_enter Try.func20, Try.ntmps20
  go_wp2_with (first | (go_at_call 19; (with_reducible refine (variorumref07_Fits.calls k _ _ l0 a1 true _ ?side1 ?side2 A3.out).mono ?_); (case side1 => repeat (first | exact HR0.out | (with_reducible refine Kd.C_alloc ?_ _) | (with_reducible refine Kd.C_drewN ?_ _) | (with_reducible refine Kd.C_drew ?_))); (case side2 => exact HC0.out); rintro e w5 ⟨rfl, hb⟩; have n0_ := Aside0.mk (below_step (by repeat (first | (with_reducible first | exact HB.out | apply below_alloc | apply pw_below_drewN | apply below_drew1) | exact HB.out)) hb); clear HB; have HB := n0_; clear n0_; (try clear hb); (try clear hb2); (try clear hk); (try clear hi)))
  repeat (go_quiet (first | (go_at_call 19; (with_reducible refine (variorumref07_Fits.calls k _ _ l0 a1 true _ ?side1 ?side2 A3.out).mono ?_); (case side1 => repeat (first | exact HR0.out | (with_reducible refine Kd.C_alloc ?_ _) | (with_reducible refine Kd.C_drewN ?_ _) | (with_reducible refine Kd.C_drew ?_))); (case side2 => exact HC0.out); rintro e w5 ⟨rfl, hb⟩; have n0_ := Aside0.mk (below_step (by repeat (first | (with_reducible first | exact HB.out | apply below_alloc | apply pw_below_drewN | apply below_drew1) | exact HB.out)) hb); clear HB; have HB := n0_; clear n0_; (try clear hb); (try clear hb2); (try clear hk); (try clear hi))); try go_wp2_with (first | (go_at_call 19; (with_reducible refine (variorumref07_Fits.calls k _ _ l0 a1 true _ ?side1 ?side2 A3.out).mono ?_); (case side1 => repeat (first | exact HR0.out | (with_reducible refine Kd.C_alloc ?_ _) | (with_reducible refine Kd.C_drewN ?_ _) | (with_reducible refine Kd.C_drew ?_))); (case side2 => exact HC0.out); rintro e w5 ⟨rfl, hb⟩; have n0_ := Aside0.mk (below_step (by repeat (first | (with_reducible first | exact HB.out | apply below_alloc | apply pw_below_drewN | apply below_drew1) | exact HB.out)) hb); clear HB; have HB := n0_; clear n0_; (try clear hb); (try clear hb2); (try clear hk); (try clear hi))))
  go_loopg [6, 7, 8] k (fun kq v6 v7 v8 w' => ∃ (x6_1 : ByteArray) (x7_1 : Int) (x8_1 : Int), v6 = .string x6_1 ∧ v7 = .int .i64 x7_1 ∧ v8 = .int .i64 x8_1 ∧ Aside0 (variorumref07_Apply.l0 kq l0 a1 x6_1 x7_1 x8_1 = some (r1, r2)) ∧ Aside0 (kq ≤ k) ∧ Aside0 (Below w.heap.size w w'))
  case atStart => exact ⟨((⟨#[]⟩ : ByteArray)), (0), (0), (by first | rfl | (simp; done) | (simp [*]; done)), (by first | rfl | (simp; done) | (simp [*]; done)), (by first | rfl | (simp; done) | (simp [*]; done)), H', ⟨Nat.le_refl _⟩, ⟨by repeat (first | (with_reducible first | exact HB.out | apply below_alloc | apply pw_below_drewN | apply below_drew1) | exact HB.out)⟩⟩
  case round =>
   clear H'
   try clear c2
   try clear p2
   try clear c4
   obtain ⟨x6_1, x7_1, x8_1, rfl, rfl, rfl, HA, HK1, HB⟩ := hrel
   cases gk with
   | zero => exact absurd HA.out (by simp [variorumref07_Apply.l0])
   | succ k1 =>
    have H := HA.out
    clear HA
    simp only [variorumref07_Apply.l0] at H
    by_cases c6 : x8_1 < (l0.length : Int)
    ·rw [if_pos c6] at H
     have c6b0 : decide (x8_1 < (l0.length : Int)) = true := decide_eq_true c6
     clear c6
     by_cases c7 : 0 ≤ x8_1
     ·rw [if_pos c7] at H
      have c7b0 : decide (0 ≤ x8_1) = true := decide_eq_true c7
      clear c7
      by_cases c8 : x6_1.size + ((rd_T49 l0 x8_1).f1).size ≤ 9223372036854775807
      ·rw [if_pos c8] at H
       have c8b0 := eq_true c8
       have c8b1 : decide (x6_1.size + ((rd_T49 l0 x8_1).f1).size ≤ 9223372036854775807) = true := decide_eq_true c8
       try have c8b2 : (9223372036854775807 < x6_1.size + ((rd_T49 l0 x8_1).f1).size) = False := eq_false (Nat.not_lt.2 c8)
       by_cases c9 : 0 ≤ x7_1
       ·rw [if_pos c9] at H
        have c9b0 := eq_true c9
        have c9b1 : decide (0 ≤ x7_1) = true := decide_eq_true c9
        clear c9
        by_cases c10 : x7_1 ≤ (wrap64 (x7_1 + ((rd_T49 l0 x8_1).f0)))
        ·rw [if_pos c10] at H
         have c10b0 := eq_true c10
         have c10b1 : decide (x7_1 ≤ (wrap64 (x7_1 + ((rd_T49 l0 x8_1).f0)))) = true := decide_eq_true c10
         by_cases c11 : (wrap64 (x7_1 + ((rd_T49 l0 x8_1).f0))) ≤ (a1.size : Int)
         ·rw [if_pos c11] at H
          have c11b0 := eq_true c11
          have c11b1 : decide ((wrap64 (x7_1 + ((rd_T49 l0 x8_1).f0))) ≤ (a1.size : Int)) = true := decide_eq_true c11
          by_cases c12 : (x6_1 ++ ((rd_T49 l0 x8_1).f1)).size + (a1.extract (x7_1 : Int).toNat ((wrap64 (x7_1 + ((rd_T49 l0 x8_1).f0))) : Int).toNat).size ≤ 9223372036854775807
          ·rw [if_pos c12] at H
           have c12b0 := eq_true c12
           have c12b1 : decide ((x6_1 ++ ((rd_T49 l0 x8_1).f1)).size + (a1.extract (x7_1 : Int).toNat ((wrap64 (x7_1 + ((rd_T49 l0 x8_1).f0))) : Int).toNat).size ≤ 9223372036854775807) = true := decide_eq_true c12
           try have c12b2 : (9223372036854775807 < (x6_1 ++ ((rd_T49 l0 x8_1).f1)).size + (a1.extract (x7_1 : Int).toNat ((wrap64 (x7_1 + ((rd_T49 l0 x8_1).f0))) : Int).toNat).size) = False := eq_false (Nat.not_lt.2 c12)
           have H' := Aside0.mk H
           clear H
           have p299 : 0 ≤ (x8_1 : Int) := of_decide_eq_true (by first | (with_reducible assumption) | assumption)
           have q299 : x8_1 < (l0.length : Int) := of_decide_eq_true (by first | (with_reducible assumption) | assumption)
           obtain ⟨ad299, e299, hx299_0, hx299_1, hx299_2⟩ := at_T49 HR0.out x8_1 p299 q299
           cases e299
           replace hx299_0 := (HB.out.cell (World.block_lt_of_cell? w _ hx299_0)).trans hx299_0
           replace hx299_1 := (HB.out.cell (World.block_lt_of_cell? w _ hx299_1)).trans hx299_1
           replace hx299_2 := (HB.out.cell (World.block_lt_of_cell? w _ hx299_2)).trans hx299_2
           replace p299 := eq_true p299
           replace q299 := eq_true q299
           go_wp2_with (first | ((with_reducible refine gate_dst (N := 9) rfl ?_); refine box_event ?hg (N := 9) ?hd (cs := #[.int .i64 0, .string (⟨#[]⟩ : ByteArray), .int .i64 0]) (t := 49) ?hr ?_; (case hd => rfl); (case hg => rfl); (case hr => first | (go_simp; done) | (go_simp; rfl)); intro gb300 hg w13 hbox hb; have n0_ := Aside0.mk (below_step (by repeat (first | (with_reducible first | exact HB.out | apply below_alloc | apply pw_below_drewN | apply below_drew1) | exact HB.out)) hb); have n1_ := Aside0.mk (hbox); have n2_ := Aside0.mk ((by rw [hg]; exact (below_size (by repeat (first | (with_reducible first | exact HB.out | apply below_alloc | apply pw_below_drewN | apply below_drew1) | exact HB.out))) : w.heap.size ≤ gb300)); have n3_ := Aside0.mk ((by rw [hg]; exact (below_size (by repeat (first | (with_reducible first | exact HB.out | apply below_alloc | apply pw_below_drewN | apply below_drew1) | exact HB.out))) : w.heap.size ≤ gb300)); clear HB; have HB := n0_; have BK300 := n1_; have GW300 := n2_; have GE300 := n3_; clear n0_ n1_ n2_ n3_; clear hb hbox hg; have hcz14_0 : w13.cell? ⟨gb300, 0, none⟩ = some (.int .i64 0) := (blk_cell BK300.out 0).trans rfl; have hcz14_1 : w13.cell? ⟨gb300, 1, none⟩ = some (.string (⟨#[]⟩ : ByteArray)) := (blk_cell BK300.out 1).trans rfl; have hcz14_2 : w13.cell? ⟨gb300, 2, none⟩ = some (.int .i64 0) := (blk_cell BK300.out 2).trans rfl; have hfz14_0 := blk_frozen BK300.out 0; have hfz14_1 := blk_frozen BK300.out 1; have hfz14_2 := blk_frozen BK300.out 2))
           repeat (go_quiet (first | ((with_reducible refine gate_dst (N := 9) rfl ?_); refine box_event ?hg (N := 9) ?hd (cs := #[.int .i64 0, .string (⟨#[]⟩ : ByteArray), .int .i64 0]) (t := 49) ?hr ?_; (case hd => rfl); (case hg => rfl); (case hr => first | (go_simp; done) | (go_simp; rfl)); intro gb300 hg w13 hbox hb; have n0_ := Aside0.mk (below_step (by repeat (first | (with_reducible first | exact HB.out | apply below_alloc | apply pw_below_drewN | apply below_drew1) | exact HB.out)) hb); have n1_ := Aside0.mk (hbox); have n2_ := Aside0.mk ((by rw [hg]; exact (below_size (by repeat (first | (with_reducible first | exact HB.out | apply below_alloc | apply pw_below_drewN | apply below_drew1) | exact HB.out))) : w.heap.size ≤ gb300)); have n3_ := Aside0.mk ((by rw [hg]; exact (below_size (by repeat (first | (with_reducible first | exact HB.out | apply below_alloc | apply pw_below_drewN | apply below_drew1) | exact HB.out))) : w.heap.size ≤ gb300)); clear HB; have HB := n0_; have BK300 := n1_; have GW300 := n2_; have GE300 := n3_; clear n0_ n1_ n2_ n3_; clear hb hbox hg; have hcz14_0 : w13.cell? ⟨gb300, 0, none⟩ = some (.int .i64 0) := (blk_cell BK300.out 0).trans rfl; have hcz14_1 : w13.cell? ⟨gb300, 1, none⟩ = some (.string (⟨#[]⟩ : ByteArray)) := (blk_cell BK300.out 1).trans rfl; have hcz14_2 : w13.cell? ⟨gb300, 2, none⟩ = some (.int .i64 0) := (blk_cell BK300.out 2).trans rfl; have hfz14_0 := blk_frozen BK300.out 0; have hfz14_1 := blk_frozen BK300.out 1; have hfz14_2 := blk_frozen BK300.out 2)); try go_wp2_with (first | ((with_reducible refine gate_dst (N := 9) rfl ?_); refine box_event ?hg (N := 9) ?hd (cs := #[.int .i64 0, .string (⟨#[]⟩ : ByteArray), .int .i64 0]) (t := 49) ?hr ?_; (case hd => rfl); (case hg => rfl); (case hr => first | (go_simp; done) | (go_simp; rfl)); intro gb300 hg w13 hbox hb; have n0_ := Aside0.mk (below_step (by repeat (first | (with_reducible first | exact HB.out | apply below_alloc | apply pw_below_drewN | apply below_drew1) | exact HB.out)) hb); have n1_ := Aside0.mk (hbox); have n2_ := Aside0.mk ((by rw [hg]; exact (below_size (by repeat (first | (with_reducible first | exact HB.out | apply below_alloc | apply pw_below_drewN | apply below_drew1) | exact HB.out))) : w.heap.size ≤ gb300)); have n3_ := Aside0.mk ((by rw [hg]; exact (below_size (by repeat (first | (with_reducible first | exact HB.out | apply below_alloc | apply pw_below_drewN | apply below_drew1) | exact HB.out))) : w.heap.size ≤ gb300)); clear HB; have HB := n0_; have BK300 := n1_; have GW300 := n2_; have GE300 := n3_; clear n0_ n1_ n2_ n3_; clear hb hbox hg; have hcz14_0 : w13.cell? ⟨gb300, 0, none⟩ = some (.int .i64 0) := (blk_cell BK300.out 0).trans rfl; have hcz14_1 : w13.cell? ⟨gb300, 1, none⟩ = some (.string (⟨#[]⟩ : ByteArray)) := (blk_cell BK300.out 1).trans rfl; have hcz14_2 : w13.cell? ⟨gb300, 2, none⟩ = some (.int .i64 0) := (blk_cell BK300.out 2).trans rfl; have hfz14_0 := blk_frozen BK300.out 0; have hfz14_1 := blk_frozen BK300.out 1; have hfz14_2 := blk_frozen BK300.out 2)))
           go_roundg k1
           case measure => have := HK1.out; omega
           case rel => exact ⟨((x6_1 ++ ((rd_T49 l0 x8_1).f1)) ++ (a1.extract (x7_1 : Int).toNat ((wrap64 (x7_1 + ((rd_T49 l0 x8_1).f0))) : Int).toNat)), (wrap64 ((wrap64 (x7_1 + ((rd_T49 l0 x8_1).f0))) + ((rd_T49 l0 x8_1).f2))), (wrap64 (x8_1 + 1)), (by first | rfl | (simp; done) | (simp [*]; done)), (by first | rfl | (simp; done) | (simp [*]; done)), (by first | rfl | (simp; done) | (simp [*]; done)), H', ⟨by have := HK1.out; omega⟩, ⟨by repeat (first | (with_reducible first | exact HB.out | apply below_alloc | apply pw_below_drewN | apply below_drew1 | refine below_set ?_ GE300.out) | exact HB.out)⟩⟩
          ·rw [if_neg c12] at H
           exact absurd H (by simp)
         ·rw [if_neg c11] at H
          exact absurd H (by simp)
        ·rw [if_neg c10] at H
         exact absurd H (by simp)
       ·rw [if_neg c9] at H
        exact absurd H (by simp)
      ·rw [if_neg c8] at H
       exact absurd H (by simp)
     ·rw [if_neg c7] at H
      exact absurd H (by simp)
    ·rw [if_neg c6] at H
     have c6b0 : decide (x8_1 < (l0.length : Int)) = false := decide_eq_false c6
     clear c6
     simp only [Option.some.injEq, Prod.mk.injEq] at H
     obtain ⟨rfl, rfl⟩ := H
     go_wp2
     repeat (go_quiet (fail); try go_wp2)
     go_ret2
     exact ⟨by first | rfl | (simp [errW_none, errW_some] <;> rfl) | (simp [*, errW_none, errW_some] <;> rfl), by repeat (first | (with_reducible first | exact HB.out | apply below_alloc | apply pw_below_drewN | apply below_drew1) | exact HB.out)⟩
 ·replace c4 := Bool.eq_false_iff.mpr c4
  subst c4
  have H1 : (some ((⟨#[]⟩ : ByteArray), 60)) = some (r1, r2) := by rw [if_neg (show ¬ (false = true) by decide)] at H; exact H
  clear H
  have H := H1
  clear H1
  simp only [Option.some.injEq, Prod.mk.injEq] at H
  obtain ⟨rfl, rfl⟩ := H
  go_enter Try.func20, Try.ntmps20
  go_wp2_with (first | (go_at_call 19; (with_reducible refine (variorumref07_Fits.calls k _ _ l0 a1 false _ ?side1 ?side2 A3.out).mono ?_); (case side1 => repeat (first | exact HR0.out | (with_reducible refine Kd.C_alloc ?_ _) | (with_reducible refine Kd.C_drewN ?_ _) | (with_reducible refine Kd.C_drew ?_))); (case side2 => exact HC0.out); rintro e w15 ⟨rfl, hb⟩; have n0_ := Aside0.mk (below_step (by repeat (first | (with_reducible first | exact HB.out | apply below_alloc | apply pw_below_drewN | apply below_drew1) | exact HB.out)) hb); clear HB; have HB := n0_; clear n0_; (try clear hb); (try clear hb2); (try clear hk); (try clear hi)))
  repeat (go_quiet (first | (go_at_call 19; (with_reducible refine (variorumref07_Fits.calls k _ _ l0 a1 false _ ?side1 ?side2 A3.out).mono ?_); (case side1 => repeat (first | exact HR0.out | (with_reducible refine Kd.C_alloc ?_ _) | (with_reducible refine Kd.C_drewN ?_ _) | (with_reducible refine Kd.C_drew ?_))); (case side2 => exact HC0.out); rintro e w15 ⟨rfl, hb⟩; have n0_ := Aside0.mk (below_step (by repeat (first | (with_reducible first | exact HB.out | apply below_alloc | apply pw_below_drewN | apply below_drew1) | exact HB.out)) hb); clear HB; have HB := n0_; clear n0_; (try clear hb); (try clear hb2); (try clear hk); (try clear hi))); try go_wp2_with (first | (go_at_call 19; (with_reducible refine (variorumref07_Fits.calls k _ _ l0 a1 false _ ?side1 ?side2 A3.out).mono ?_); (case side1 => repeat (first | exact HR0.out | (with_reducible refine Kd.C_alloc ?_ _) | (with_reducible refine Kd.C_drewN ?_ _) | (with_reducible refine Kd.C_drew ?_))); (case side2 => exact HC0.out); rintro e w15 ⟨rfl, hb⟩; have n0_ := Aside0.mk (below_step (by repeat (first | (with_reducible first | exact HB.out | apply below_alloc | apply pw_below_drewN | apply below_drew1) | exact HB.out)) hb); clear HB; have HB := n0_; clear n0_; (try clear hb); (try clear hb2); (try clear hk); (try clear hi))))
  go_ret2
  exact ⟨by first | rfl | (simp [errW_none, errW_some] <;> rfl) | (simp [*, errW_none, errW_some] <;> rfl), by repeat (first | (with_reducible first | exact HB.out | apply below_alloc | apply pw_below_drewN | apply below_drew1) | exact HB.out)⟩
end Go.Proofs.Ytjbnffadfohofaa.P
end
-- MERGED YtjbnffadfohofaaWithA
section
namespace Go.Proofs.Ytjbnffadfohofaa.WithA
open Go.RowKit Go.Proofs.Ytjbnffadfohofaa.P Go.Proofs.YtjbnffadfohofaaW.PrintWords Go.Proofs.YtjbnffadfohofaaW.PrintLast Go.Proofs.YtjbnffadfohofaaW.PrintMore Go.Proofs.Ytjbnffadfohofaa.EditL Go.Proofs.Ytjbnffadfohofaa.EditK Go.Proofs.Ytjbnffadfohofaa.EditF Go.Proofs.Ytjbnffadfohofaa.EditG Go.Proofs.Ytjbnffadfohofaa.EditH Go.Proofs.Ytjbnffadfohofaa.RunA Go.Proofs.Ytjbnffadfohofaa.RunL Go.Proofs.Ytjbnffadfohofaa.PlaceI Go.Proofs.Ytjbnffadfohofaa.PlaceM Go.Proofs.Ytjbnffadfohofaa.PlaceC Go.Proofs.Ytjbnffadfohofaa.PlaceS Go.Proofs.Ytjbnffadfohofaa.PlaceL Go.Proofs.Ytjbnffadfohofaa.PlaceOv
set_option linter.unusedSimpArgs false
set_option linter.unusedVariables false
theorem rfits_f {op : List Rn} (hl : op.length ≤ 140737488351232) (s : ByteArray) (k : Nat) (hk : op.length < k) : variorumref07_Fits.f k op s = some (fitsL op s.size) := by
 unfold variorumref07_Fits.f fitsL
 rw [rgood_f hl, Option.bind_some]
 cases hg : good op with
 | false => rw [if_neg Bool.false_ne_true]; rfl
 | true =>
  rw [if_pos rfl, rin_f hl k hk, Option.bind_some, hg, if_pos rfl, Bool.true_and]
  rfl
theorem fitsL_iff {op : List Rn} {n : Int} : fitsL op n = true ↔ good op = true ∧ inL op = n := by unfold fitsL; simp
theorem app_yes {l : List Rn} {s : ByteArray} (h : fitsL l s.size = true) : app l s = (apL l s, 0) := by unfold app; rw [if_pos h]
theorem app_no {l : List Rn} {s : ByteArray} (h : ¬ fitsL l s.size = true) : app l s = (E, 60) := by unfold app; rw [if_neg h]
theorem rapply_l (l0 : List Rn) (hl : l0.length ≤ 140737488351232) (s : ByteArray) (hs : s.size ≤ 16777216) : ∀ (suf pre : List Rn) (acc : ByteArray) (q k : Nat), l0 = pre ++ suf → suf.length < k → (∀ r ∈ suf, knd r ≠ 0) → (q : Int) + inL suf = (s.size : Int) → (acc.size : Int) + outL suf ≤ 16777216 →
  variorumref07_Apply.l0 k l0 s acc (q : Int) (pre.length : Int) = some (acc ++ apL suf (s.extract q s.size), 0) := by
 intro suf
 induction suf with
 | nil =>
  intro pre acc q k hfe hk _ _ _
  obtain ⟨k, rfl⟩ : ∃ m, k = m + 1 := ⟨k - 1, by omega⟩
  have : l0.length = pre.length := by rw [hfe]; simp
  simp only [variorumref07_Apply.l0]
  rw [if_neg (by omega)]
  simp only [apL]
  rw [add_E]
 | cons r suf ih =>
  intro pre acc q k hfe hk hn hi ho
  obtain ⟨k, rfl⟩ : ∃ m, k = m + 1 := ⟨k - 1, by omega⟩
  obtain ⟨hl2, hn1, hlt⟩ := snoc hfe
  have hr := hn r List.mem_cons_self
  have hp := knd_pos hr
  have hc := knd_cases r
  have h2 : ∀ x ∈ suf, knd x ≠ 0 := fun x hx => hn x (List.mem_cons_of_mem _ hx)
  have h3 := inL_nonneg h2
  simp only [inL] at hi
  simp only [outL] at ho
  obtain ⟨a, ha⟩ : ∃ a : Nat, r.f0 = (a : Int) := ⟨r.f0.toNat, by omega⟩
  obtain ⟨d, hd⟩ : ∃ d : Nat, r.f2 = (d : Int) := ⟨r.f2.toNat, by omega⟩
  have hxs : (s.extract q (q + a)).size = a := by rw [ext_size]; omega
  have ht : acc ++ r.f1 ++ s.extract q (q + a) ++ apL suf (s.extract (q + a + d) s.size) = acc ++ apL (r :: suf) (s.extract q s.size) := by
   have e : r.f1 ++ s.extract q (q + a) = (s.extract q s.size).extract 0 a ++ r.f1 := by
    apply L_inj
    rw [L_app, L_app, L_take, L_drop, L_cut, Nat.add_sub_cancel_left]
    rcases hc with hc | hc | hc | hc
    ·rw [L_nil hc.2.1, List.nil_append, List.append_nil]
    ·have : a = 0 := by omega
     rw [this, List.take_zero, List.append_nil, List.nil_append]
    ·rw [L_nil hc.2.1, List.nil_append, List.append_nil]
    ·exact absurd hc.1 hr
   have e2 : (s.extract q s.size).extract (a + d) (s.extract q s.size).size = s.extract (q + a + d) s.size := by
    apply L_inj
    rw [L_drop, L_drop, L_drop, List.drop_drop, Nat.add_assoc]
   simp only [apL]
   rw [ha, hd, show ((a : Int) + (d : Int)).toNat = a + d by omega, Int.toNat_natCast, e2, ← e, app_assoc, app_assoc, app_assoc]
  simp only [variorumref07_Apply.l0]
  rw [rd_at hfe, if_pos hlt, if_pos (by omega), if_pos (by omega), if_pos (by omega), w64 (x := (q : Int) + r.f0) (by omega) (by omega), if_pos (by omega), if_pos (by omega), ha, show ((q : Int) + (a : Int)).toNat = q + a by omega, Int.toNat_natCast, if_pos (by rw [size_add, hxs]; omega),
   w64 (x := (q : Int) + (a : Int) + r.f2) (by omega) (by omega), w64 (x := (pre.length : Int) + 1) (by omega) (by omega), ← hn1, hd, show (q : Int) + (a : Int) + (d : Int) = ((q + a + d : Nat) : Int) by omega]
  rw [ih (pre ++ [r]) _ (q + a + d) k hl2 (by simp at hk; omega) h2 (by omega) (by rw [size_add, size_add, hxs]; omega), ht]
theorem rapply_f {l : List Rn} (hl : l.length ≤ 140737488351232) {s : ByteArray} (hs : s.size ≤ 16777216) (k : Nat) (hk : l.length < k) : variorumref07_Apply.f k l s = some (app l s) := by
 unfold variorumref07_Apply.f
 rw [rfits_f hl _ _ hk, Option.bind_some]
 by_cases h : fitsL l s.size = true
 ·rw [if_pos h, app_yes h]
  obtain ⟨hg, hi⟩ := fitsL_iff.1 h
  have sg := sums_good hg
  have e := rapply_l l hl s hs l [] E 0 k rfl hk (good_ok hg).2.2.2 (by omega) (by rw [E_size]; omega)
  rw [ext_all, E_add] at e
  exact e
 ·rw [if_neg h, app_no h]; rfl
theorem spS_ok (a b : Int) : ∀ (l : List Rn) (i o : Int) (m : Sp), (∀ r ∈ l, knd r ≠ 0) → 0 ≤ o → (m.found = true → 0 ≤ m.e0 ∧ m.e0 ≤ m.e1 ∧ m.e1 ≤ o) → ((spS a b (stepsL l i o) m).found = true → 0 ≤ (spS a b (stepsL l i o) m).e0 ∧ (spS a b (stepsL l i o) m).e0 ≤ (spS a b (stepsL l i o) m).e1 ∧ (spS a b (stepsL l i o) m).e1 ≤ o + outL l) := by
 intro l
 induction l with
 | nil =>
  intro i o m _ _ hm hf
  have := hm hf
  simp only [outL]
  show 0 ≤ m.e0 ∧ m.e0 ≤ m.e1 ∧ m.e1 ≤ o + 0
  omega
 | cons r l ih =>
  intro i o m hk ho hm
  have hp := knd_pos (hk r List.mem_cons_self)
  have hk2 : ∀ x ∈ l, knd x ≠ 0 := fun x hx => hk x (List.mem_cons_of_mem _ hx)
  have next := ih (i + (r.f0 + r.f2)) (o + (r.f0 + (r.f1.size : Int))) (meetL a b ⟨r, i, o⟩ m) hk2 (by omega) (by
   unfold meetL hi lo
   by_cases c : (if i + r.f0 < b then i + r.f0 else b) ≤ (if a < i then i else a)
   ·rw [if_pos c]
    intro hf
    have := hm hf
    omega
   ·rw [if_neg c]
    intro _
    dsimp only
    cases hf : m.found with
    | true =>
     have := hm hf
     simp only [if_true]
     split at c <;> split at c <;> simp_all <;> omega
    | false =>
     simp only [Bool.false_eq_true, if_false]
     split at c <;> split at c <;> simp_all <;> omega)
  simp only [outL]
  show ((spS a b (stepsL l (i + (r.f0 + r.f2)) (o + (r.f0 + (r.f1.size : Int)))) (meetL a b ⟨r, i, o⟩ m)).found = true → _)
  intro hf
  have := next hf
  show 0 ≤ (spS a b (stepsL l (i + (r.f0 + r.f2)) (o + (r.f0 + (r.f1.size : Int)))) (meetL a b ⟨r, i, o⟩ m)).e0 ∧ (spS a b (stepsL l (i + (r.f0 + r.f2)) (o + (r.f0 + (r.f1.size : Int)))) (meetL a b ⟨r, i, o⟩ m)).e0 ≤ (spS a b (stepsL l (i + (r.f0 + r.f2)) (o + (r.f0 + (r.f1.size : Int)))) (meetL a b ⟨r, i, o⟩ m)).e1 ∧ (spS a b (stepsL l (i + (r.f0 + r.f2)) (o + (r.f0 + (r.f1.size : Int)))) (meetL a b ⟨r, i, o⟩ m)).e1 ≤ o + ((r.f0 + (r.f1.size : Int)) + outL l)
  omega
theorem span_in {op : List Rn} {a b : Int} (hg : good op = true) (h0 : 0 ≤ a) (h1 : a ≤ b) (h2 : b ≤ inL op) : (spanL op a b).2 = true ∧ 0 ≤ (spanL op a b).1.1 ∧ (spanL op a b).1.1 ≤ (spanL op a b).1.2 ∧ (spanL op a b).1.2 ≤ outL op := by
 obtain ⟨_, _, _, hk⟩ := good_ok hg
 unfold spanL
 rw [if_pos ⟨hg, h0, h1, h2⟩]
 refine ⟨rfl, ?_⟩
 dsimp only
 cases hf : (spS a b (stepsL op 0 0) ⟨0, 0, false⟩).found with
 | true =>
  have := spS_ok a b op 0 0 ⟨0, 0, false⟩ hk (Int.le_refl _) (fun h => by cases h) hf
  simp only [if_true]
  omega
 | false =>
  rw [moveL_P hg h0 (by omega)]
  simp only [Bool.false_eq_true, if_false]
  have e1 := P_nonneg op hk a false h0
  have e2 := P_le_out op hk a false h0
  omega
def goneL (f t n : Int) : List Rn := [⟨f, E, 0⟩, ⟨0, E, t - f⟩, ⟨n - t, E, 0⟩]
theorem knd_k {x : Int} (h : 0 < x) : knd ⟨x, E, 0⟩ = 1 := by unfold knd; simp [E_size]; omega
theorem knd_0 : knd ⟨0, E, 0⟩ = 0 := by rfl
theorem knd_d {x : Int} (h : 0 < x) : knd ⟨0, E, x⟩ = 3 := by unfold knd; simp [E_size]; omega
theorem EE : E ++ E = E := E_add E
def goneN (f t n : Int) : List Rn := if t = f then (if 0 < n then [⟨n, E, 0⟩] else []) else (if 0 < f then [⟨f, E, 0⟩] else []) ++ (⟨0, E, t - f⟩ :: (if t < n then [⟨n - t, E, 0⟩] else []))
theorem goneN_good {f t n : Int} (h0 : 0 ≤ f) (h1 : f ≤ t) (h2 : t ≤ n) (h3 : n ≤ 3000) : good (goneN f t n) = true ∧ inL (goneN f t n) = n ∧ outL (goneN f t n) ≤ 3000 ∧ (goneN f t n).length ≤ 100 := by
 unfold goneN
 by_cases ht : t = f
 ·rw [if_pos ht]
  by_cases hn : 0 < n
  ·rw [if_pos hn]
   refine ⟨?_, by simp [inL], by simp [outL, E_size]; omega, by simp⟩
   simp [good, ord, fits, knd_k hn, E_size]; omega
  ·rw [if_neg hn]
   exact ⟨by rfl, by simp [inL]; omega, by simp [outL], by simp⟩
 ·rw [if_neg ht]
  have hd : 0 < t - f := by omega
  by_cases hf : 0 < f
  ·rw [if_pos hf]
   by_cases hn : t < n
   ·rw [if_pos hn]
    refine ⟨?_, by simp [inL]; omega, by simp [outL, E_size]; omega, by simp⟩
    simp [good, ord, fits, knd_k hf, knd_d hd, knd_k (show 0 < n - t by omega), E_size]; omega
   ·rw [if_neg hn]
    refine ⟨?_, by simp [inL]; omega, by simp [outL, E_size]; omega, by simp⟩
    simp [good, ord, fits, knd_k hf, knd_d hd, E_size]; omega
  ·rw [if_neg hf]
   by_cases hn : t < n
   ·rw [if_pos hn]
    refine ⟨?_, by simp [inL]; omega, by simp [outL, E_size]; omega, by simp⟩
    simp [good, ord, fits, knd_d hd, knd_k (show 0 < n - t by omega), E_size]; omega
   ·rw [if_neg hn]
    refine ⟨?_, by simp [inL]; omega, by simp [outL, E_size], by simp⟩
    simp [good, ord, fits, knd_d hd, E_size]; omega
theorem gone_norm {f t n : Int} (h0 : 0 ≤ f) (h1 : f ≤ t) (h2 : t ≤ n) (h3 : n ≤ 3000) : norm (goneL f t n) = goneN f t n := by
 obtain ⟨hg, _, _, _⟩ := goneN_good h0 h1 h2 h3
 have ho : out (goneL f t n) = goneN f t n ∧ fits (fine (goneL f t n)) 0 0 = true := by
  unfold out goneL goneN
  by_cases ht : t = f
  ·subst ht
   rw [if_pos rfl, show t - t = 0 by omega]
   by_cases hf : 0 < t
   ·by_cases hn : 0 < n - t
    ·rw [if_pos (by omega)]
     constructor
     ·have e : t + (n - t) = n := by omega
      simp [fine, knd_k hf, knd_k hn, knd_0, jn, fl, E_size, EE, e, show 0 < n by omega]
     ·simp [fine, knd_k hf, knd_k hn, knd_0, fits, E_size]; omega
    ·obtain rfl : n = t := by omega
     rw [if_pos (by omega), show n - n = 0 by omega]
     constructor
     ·simp [fine, knd_k hf, knd_0, jn, fl, E_size, EE, hf]
     ·simp [fine, knd_k hf, knd_0, fits, E_size]; omega
   ·obtain rfl : t = 0 := by omega
    by_cases hn : 0 < n
    ·rw [if_pos hn, Int.sub_zero]
     constructor
     ·simp [fine, knd_k hn, knd_0, jn, fl, E_size, EE, hn]
     ·simp [fine, knd_k hn, knd_0, fits, E_size]; omega
    ·obtain rfl : n = 0 := by omega
     exact ⟨by rfl, by rfl⟩
  ·rw [if_neg ht]
   have hd : 0 < t - f := by omega
   by_cases hf : 0 < f
   ·rw [if_pos hf]
    by_cases hn : t < n
    ·rw [if_pos hn]
     have hn' : 0 < n - t := by omega
     constructor
     ·simp [fine, knd_k hf, knd_d hd, knd_k hn', jn, fl, E_size, EE, hf, show f < t by omega, hn]
     ·simp [fine, knd_k hf, knd_d hd, knd_k hn', fits, E_size]; omega
    ·rw [if_neg hn, show n - t = 0 by omega]
     constructor
     ·simp [fine, knd_k hf, knd_d hd, knd_0, jn, fl, E_size, EE, hf, show f < t by omega]
     ·simp [fine, knd_k hf, knd_d hd, knd_0, fits, E_size]; omega
   ·obtain rfl : f = 0 := by omega
    rw [if_neg (by decide)]
    by_cases hn : t < n
    ·rw [if_pos hn]
     have hn' : 0 < n - t := by omega
     have hd' : 0 < t := by omega
     constructor
     ·simp [fine, knd_d hd', knd_0, knd_k hn', jn, fl, E_size, EE, hd', hn]
     ·simp [fine, knd_d hd', knd_0, knd_k hn', fits, E_size]; omega
    ·rw [if_neg hn, show n - t = 0 by omega]
     have hd' : 0 < t := by omega
     constructor
     ·simp [fine, knd_d hd', knd_0, jn, fl, E_size, EE, hd']
     ·simp [fine, knd_d hd', knd_0, fits, E_size]; omega
 unfold norm
 rw [ho.2, if_pos rfl, ho.1, hg, if_pos rfl]
theorem gone_span {f t n : Int} (h0 : 0 ≤ f) (h1 : f ≤ t) (h2 : t ≤ n) (h3 : n ≤ 3000) : spanL (goneN f t n) f t = ((f, f), true) := by
 obtain ⟨hg, hin, _, _⟩ := goneN_good h0 h1 h2 h3
 have hmv : moveL (goneN f t n) f false = (f, true) := by
  rw [moveL_P hg h0 (by omega)]
  unfold goneN
  by_cases ht : t = f
  ·rw [if_pos ht]
   by_cases hn : 0 < n
   ·rw [if_pos hn, P_keep (knd_k hn)]
    by_cases hf : f < n
    ·rw [if_pos hf]
    ·rw [if_neg hf, show f = n by omega]; simp [P]
   ·rw [if_neg hn, show f = 0 by omega]; rfl
  ·rw [if_neg ht]
   have hd : 0 < t - f := by omega
   by_cases hf : 0 < f
   ·rw [if_pos hf]
    show (P (⟨f, E, 0⟩ :: ⟨0, E, t - f⟩ :: _) f false, true) = _
    rw [P_keep (knd_k hf), if_neg (show ¬ f < f by omega), show f - (⟨f, E, 0⟩ : Rn).f0 = 0 by simp, P_drop (knd_d hd), if_pos (show (0 : Int) < t - f by omega)]
    simp
   ·obtain rfl : f = 0 := by omega
    rw [if_neg (by decide)]
    show (P (⟨0, E, t - 0⟩ :: _) 0 false, true) = _
    rw [P_drop (knd_d hd), if_pos (show (0 : Int) < t - 0 by omega)]
 have hsp : (spS f t (stepsL (goneN f t n) 0 0) ⟨0, 0, false⟩).found = false := by
  unfold goneN
  by_cases ht : t = f
  ·rw [if_pos ht]
   by_cases hn : 0 < n
   ·rw [if_pos hn]
    show (meetL f t ⟨⟨n, E, 0⟩, 0, 0⟩ ⟨0, 0, false⟩).found = false
    unfold meetL hi lo
    simp only []
    rw [if_pos (by split <;> split <;> omega)]
   ·rw [if_neg hn]; rfl
  ·rw [if_neg ht]
   have mz : ∀ (r : Rn) (i o : Int), (if i + r.f0 < t then i + r.f0 else t) ≤ (if f < i then i else f) → meetL f t ⟨r, i, o⟩ ⟨0, 0, false⟩ = ⟨0, 0, false⟩ := fun r i o h => by
    unfold meetL hi lo
    rw [if_pos h]
   by_cases hf : 0 < f
   ·rw [if_pos hf]
    by_cases hn : t < n
    ·rw [if_pos hn]
     show (meetL f t ⟨⟨n - t, E, 0⟩, _, _⟩ (meetL f t ⟨⟨0, E, t - f⟩, _, _⟩ (meetL f t ⟨⟨f, E, 0⟩, 0, 0⟩ ⟨0, 0, false⟩))).found = false
     rw [mz _ _ _ (by dsimp only; split <;> split <;> omega), mz _ _ _ (by dsimp only; split <;> split <;> omega), mz _ _ _ (by dsimp only; split <;> split <;> omega)]
    ·rw [if_neg hn]
     show ((meetL f t ⟨⟨0, E, t - f⟩, _, _⟩ (meetL f t ⟨⟨f, E, 0⟩, 0, 0⟩ ⟨0, 0, false⟩))).found = false
     rw [mz _ _ _ (by dsimp only; split <;> split <;> omega), mz _ _ _ (by dsimp only; split <;> split <;> omega)]
   ·rw [if_neg hf]
    by_cases hn : t < n
    ·rw [if_pos hn]
     show (meetL f t ⟨⟨n - t, E, 0⟩, _, _⟩ (meetL f t ⟨⟨0, E, t - f⟩, 0, 0⟩ ⟨0, 0, false⟩)).found = false
     rw [mz _ _ _ (by dsimp only; split <;> split <;> omega), mz _ _ _ (by dsimp only; split <;> split <;> omega)]
    ·rw [if_neg hn]
     show (meetL f t ⟨⟨0, E, t - f⟩, 0, 0⟩ ⟨0, 0, false⟩).found = false
     rw [mz _ _ _ (by dsimp only; split <;> split <;> omega)]
 unfold spanL
 rw [if_pos ⟨hg, h0, h1, by omega⟩, hsp, hmv]
 rfl
end Go.Proofs.Ytjbnffadfohofaa.WithA
end
-- MERGED YtjbnffadfohofaaByt
namespace Go.Proofs.Ytjbnffadfohofaa.Byt
end Go.Proofs.Ytjbnffadfohofaa.Byt
-- MERGED YtjbnffadfohofaaGr
namespace Go.Proofs.Ytjbnffadfohofaa.Own
end Go.Proofs.Ytjbnffadfohofaa.Own
-- MERGED YtjbnffadfohofaaNoteN
section
namespace Go.Proofs.Ytjbnffadfohofaa.NoteN
open Go.RowKit Go.Proofs.Ytjbnffadfohofaa.P Go.Proofs.YtjbnffadfohofaaW.PrintWords Go.Proofs.YtjbnffadfohofaaW.PrintLast Go.Proofs.YtjbnffadfohofaaW.PrintMore Go.Proofs.Ytjbnffadfohofaa.Own
set_option linter.unusedSimpArgs false
set_option linter.unusedVariables false
abbrev Nt := S44
abbrev NC (w : World) (A : Option Addr) (l : List Nt) : Prop := Kd.C k44 w A l.length l
def ncells (l : List Nt) : List Value := l.flatMap fun x => [.int .i64 x.f0.f0, .int .i64 x.f0.f1, .int .i64 x.f1]
theorem ncells_length (l : List Nt) : (ncells l).length = l.length * 3 := by
 unfold ncells
 induction l with
 | nil => rfl
 | cons p l ih => rw [List.flatMap_cons, List.length_append, ih, List.length_cons]; simp; omega
theorem ncells_at (l : List Nt) : ∀ (j : Nat) (r : Nt), l[j]? = some r → ((ncells l).drop (j * 3)).take 3 = [.int .i64 r.f0.f0, .int .i64 r.f0.f1, .int .i64 r.f1] := by
 induction l with
 | nil => intro j r h; simp at h
 | cons p l ih =>
  intro j r h
  have e : ncells (p :: l) = [.int .i64 p.f0.f0, .int .i64 p.f0.f1, .int .i64 p.f1] ++ ncells l := rfl
  cases j with
  | zero =>
   obtain rfl : p = r := by simpa using h
   rw [e]; simp
  | succ j =>
   have h2 : l[j]? = some r := by simpa using h
   rw [e, show (j + 1) * 3 = 3 + j * 3 by omega, ← List.drop_drop]
   exact ih j r h2
theorem ncells_get (l : List Nt) : ∀ (j : Nat) (u : Value), (ncells l)[j]? = some u → ∃ r, l[j / 3]? = some r ∧ [Value.int .i64 r.f0.f0, .int .i64 r.f0.f1, .int .i64 r.f1][j % 3]? = some u := by
 induction l with
 | nil => intro j u h; simp [ncells] at h
 | cons p l ih =>
  intro j u h
  have e : ncells (p :: l) = [.int .i64 p.f0.f0, .int .i64 p.f0.f1, .int .i64 p.f1] ++ ncells l := rfl
  rw [e] at h
  by_cases hj : j < 3
  ·refine ⟨p, by rw [Nat.div_eq_of_lt hj]; rfl, ?_⟩
   rw [Nat.mod_eq_of_lt hj]
   rwa [List.getElem?_append_left (by simpa using hj)] at h
  ·rw [List.getElem?_append_right (by simp; omega)] at h
   obtain ⟨r, h1, h2⟩ := ih (j - 3) u (by simpa using h)
   refine ⟨r, ?_, ?_⟩
   ·rw [show j / 3 = (j - 3) / 3 + 1 by omega]; simpa using h1
   ·rw [show j % 3 = (j - 3) % 3 by omega]; exact h2
theorem at_nt {w : World} {A : Option Addr} {n : Nat} {xs : List Nt} (h : Kd.C k44 w A n xs) (j : Nat) (h1 : j < n) : ∃ ad , A = some ad ∧ w.cell? (ad.add (j * 3)) = some (.int .i64 (xs.getD j z44).f0.f0) ∧ w.cell? ⟨(ad.add (j * 3)).block, (ad.add (j * 3)).off + 1, none⟩ = some (.int .i64 (xs.getD j z44).f0.f1) ∧ w.cell? ⟨(ad.add (j * 3)).block, (ad.add (j * 3)).off + 2, none⟩ = some (.int .i64 (xs.getD j z44).f1) := by
 have := at_T44 h (j : Int) (by omega) (by omega)
 unfold rd_T44 at this
 rwa [Int.toNat_natCast] at this
theorem NC.below {w w' : World} {A : Option Addr} {l : List Nt} (h : NC w A l) (hb : Below w.heap.size w w') : NC w' A l := Kd.C_below h hb
theorem NC.cells {w : World} {A : Option Addr} {l : List Nt} (h : NC w A l) (ad : Addr) (hA : A = some ad) : ∀ j u, (ncells l)[j]? = some u → w.cell? (ad.add j) = some u := by
 intro j u hu
 obtain ⟨r, h1, h2⟩ := ncells_get l j u hu
 have hlt := (List.getElem?_eq_some_iff.1 h1).1
 obtain ⟨ad', e, y0, y1, y2⟩ := at_nt h (j / 3) hlt
 rw [hA] at e
 obtain rfl := Option.some.inj e
 have hr : l.getD (j / 3) z44 = r := by rw [List.getD_eq_getElem?_getD, h1]; rfl
 rw [hr] at y0 y1 y2
 have hj : j = j / 3 * 3 + j % 3 := by omega
 have h3 : j % 3 = 0 ∨ j % 3 = 1 ∨ j % 3 = 2 := by omega
 have hadd : ∀ i, i < 3 → 0 < i → (ad.add (j / 3 * 3 + i)) = ⟨(ad.add (j / 3 * 3)).block, (ad.add (j / 3 * 3)).off + i, none⟩ := by
  intro i _ hi
  have hc := y1
  obtain ⟨b, o, f⟩ := ad
  unfold Addr.add
  split
  ·next hz => omega
  ·split
   ·next hz => simp [hz]
   ·simp; omega
 rcases h3 with h3 | h3 | h3
 ·rw [hj, h3, Nat.add_zero]
  rw [h3] at h2
  rw [y0]; simpa using h2
 ·rw [hj, h3, hadd 1 (by omega) (by omega)]
  rw [h3] at h2
  rw [y1]; simpa using h2
 ·rw [hj, h3, hadd 2 (by omega) (by omega)]
  rw [h3] at h2
  rw [y2]; simpa using h2
theorem NC.of_own {w : World} {B : Nat} {v : Value} {l : List Nt} (h : w.ownsRow B 44 3 v l.length (ncells l)) : Kd.R k44 44 w B (fun _ => True) v l :=
 ⟨fun _ _ => trivial, ncells l, h, by rw [ncells_length]; rfl, fun j p hj => by
  have e := ncells_at l j p hj
  show k44.M _ _ _ p (((ncells l).drop (j * 3)).take 3)
  rw [e]; exact k44_mkM _ _ _ p⟩
def Nr (B : Nat) (w : World) (v : Value) (l : List Nt) : Prop := ∃ A c, v = .slice A l.length c ∧ l.length ≤ c ∧ NC w A l ∧ ∀ ad, A = some ad → 0 < l.length → B ≤ ad.block
theorem Nr.of_R {B B' : Nat} {w : World} {v : Value} {l : List Nt} {ok : Nat → Prop} (h : Kd.R k44 44 w B ok v l) (hB : B' ≤ B) : Nr B' w v l := by
 obtain ⟨A, c, rfl, hc, hC⟩ := Kd.R_reads h
 refine ⟨A, c, rfl, hc, hC, fun ad e hp => ?_⟩
 obtain ⟨g, cap, e2, hg, _⟩ := Kd.R_form h hp
 injection e2 with e2
 rw [e2] at e
 cases e
 exact Nat.le_trans hB hg
theorem Nr.mono {B B' : Nat} {w : World} {v : Value} {l : List Nt} (h : Nr B w v l) (hB : B' ≤ B) : Nr B' w v l := by
 obtain ⟨A, c, e, hc, hC, hf⟩ := h
 exact ⟨A, c, e, hc, hC, fun ad e hp => Nat.le_trans hB (hf ad e hp)⟩
theorem Nr.nil (B : Nat) (w : World) : Nr B w (.slice none 0 0) [] := ⟨none, 0, rfl, Nat.le_refl _, ⟨rfl, by simp [maxLen], fun h => absurd h (by simp)⟩, fun ad e => by cases e⟩
theorem wanted_un {ops : Array Oper} {a : Act} {o og : Oper} {g t : Nat} {u : Bool} (hg : o.guard = some (g, u)) (ho : ops[g]? = some og) (hd : og.dst = some t) (hv : a.tmps[t]? = some undef) : Region.wanted o (yielded ops a.tmps) = false := by
 cases u <;> simp_all [Region.wanted, yielded, undef]
theorem set3 {B : Nat} {w : World} {T : TypeId} {a0 a1 a2 : Value} (h : w.heap[B]? = some (.cells #[a0, a1, a2] T (0, 0))) (y0 y1 y2 : Value) : (((w.setCell ⟨B, 0, none⟩ y0).setCell ⟨B, 1, none⟩ y1).setCell ⟨B, 2, none⟩ y2).heap[B]? = some (.cells #[y0, y1, y2] T (0, 0)) := by
 have h0 : (w.setCell ⟨B, 0, none⟩ y0).heap[B]? = some (.cells #[y0, a1, a2] T (0, 0)) := heap_setCell_same w B 0 _ _ y0 h
 have h1 : ((w.setCell ⟨B, 0, none⟩ y0).setCell ⟨B, 1, none⟩ y1).heap[B]? = some (.cells #[y0, y1, a2] T (0, 0)) := heap_setCell_same (w.setCell ⟨B, 0, none⟩ y0) B 1 _ _ y1 h0
 exact heap_setCell_same ((w.setCell ⟨B, 0, none⟩ y0).setCell ⟨B, 1, none⟩ y1) B 2 _ _ y2 h1
theorem below_set3 {B0 : Nat} {a w : World} (h : Below B0 a w) {B : Nat} (hq : B0 ≤ B) (y0 y1 y2 : Value) : Below B0 a (((w.setCell ⟨B, 0, none⟩ y0).setCell ⟨B, 1, none⟩ y1).setCell ⟨B, 2, none⟩ y2) :=
 ((h.setCell (p := ⟨B, 0, none⟩) hq y0).setCell (p := ⟨B, 1, none⟩) hq y1).setCell (p := ⟨B, 2, none⟩) hq y2
def lessN (a b : Nt) : Bool := if a.f0.f0 = b.f0.f0 then (if a.f0.f1 = b.f0.f1 then decide (a.f1 < b.f1) else decide (a.f0.f1 < b.f0.f1)) else decide (a.f0.f0 < b.f0.f0)
def okX (x : Nt) : Bool := (decide (0 ≤ x.f0.f0) && (decide (x.f0.f0 ≤ x.f0.f1) && decide (x.f0.f1 ≤ 16777216))) && (decide (0 ≤ x.f1) && decide (x.f1 ≤ 65536))
def ahead : Option Nt → Nt → Bool
 | none, _ => true
 | some y, x => lessN y x
def fineR : Option Nt → List Nt → Bool
 | _, [] => true
 | p, x :: l => (okX x && ahead p x) && fineR (some x) l
def fineL (l : List Nt) : Bool := fineR none l && decide (l.length ≤ 4096)
def prevO (l : List Nt) (j : Nat) : Option Nt := if j = 0 then none else some (l.getD (j - 1) z44)
theorem drop_nt {l : List Nt} {j : Nat} (h : j < l.length) : l.drop j = l.getD j z44 :: l.drop (j + 1) := by
 rw [List.drop_eq_getElem_cons h, List.getD_eq_getElem?_getD, List.getElem?_eq_getElem h]; rfl
theorem fine_step {l : List Nt} {j : Nat} (h : j < l.length) : fineR (prevO l j) (l.drop j) = ((okX (l.getD j z44) && ahead (prevO l j) (l.getD j z44)) && fineR (prevO l (j + 1)) (l.drop (j + 1))) := by
 rw [drop_nt h]
 simp only [fineR]
 rw [show prevO l (j + 1) = some (l.getD j z44) from by unfold prevO; rw [if_neg (by omega), Nat.add_sub_cancel]]
theorem prevO_pos {l : List Nt} {j : Nat} (h : 0 < j) : prevO l j = some (l.getD (j - 1) z44) := if_neg (by omega)
theorem okX_spot {x : Nt} (h : ¬ (0 ≤ x.f0.f0 ∧ x.f0.f0 ≤ x.f0.f1 ∧ x.f0.f1 ≤ 16777216)) : okX x = false := by
 unfold okX
 rw [Bool.eq_false_iff]
 simp only [ne_eq, Bool.and_eq_true, decide_eq_true_eq]
 omega
theorem okX_code {x : Nt} (h : ¬ (0 ≤ x.f1 ∧ x.f1 ≤ 65536)) : okX x = false := by
 unfold okX
 rw [Bool.eq_false_iff]
 simp only [ne_eq, Bool.and_eq_true, decide_eq_true_eq]
 omega
theorem okX_yes {x : Nt} (h : 0 ≤ x.f0.f0 ∧ x.f0.f0 ≤ x.f0.f1 ∧ x.f0.f1 ≤ 16777216) (h2 : 0 ≤ x.f1 ∧ x.f1 ≤ 65536) : okX x = true := by
 unfold okX
 simp only [Bool.and_eq_true, decide_eq_true_eq]
 omega
end Go.Proofs.Ytjbnffadfohofaa.NoteN
end
-- MERGED YtjbnffadfohofaaCarryN
section
namespace Go.Proofs.Ytjbnffadfohofaa.CarryN
open Go.RowKit Go.Proofs.Ytjbnffadfohofaa.NoteN Go.Proofs.Ytjbnffadfohofaa.P Go.Proofs.YtjbnffadfohofaaW.PrintWords Go.Proofs.YtjbnffadfohofaaW.PrintLast Go.Proofs.YtjbnffadfohofaaW.PrintMore Go.Proofs.Ytjbnffadfohofaa.Own
set_option linter.unusedSimpArgs false
set_option linter.unusedVariables false
theorem infoNt : (Try.prog.info? 44).map (fun i => (i.zero, i.size, i.bytes)) = some (some (.agg #[.int .i64 0, .int .i64 0, .int .i64 0]), 3, 24) := by kernel_rfl
theorem exec_nt {P : Program} (hP : P = Try.prog) {w : World} {f : Operand → Value} {o : Oper} {s x : Operand} (hop : o.op = Op.call { callee := Callee.builtin Builtin.append, args := #[s, x], argTypes := #[22, 22] })
  {b : Addr} (hs : f s = .slice (some b) 0 0) {A : Option Addr} {c : Nat} {l : List Nt} (he : f x = .slice A l.length c) (hC : NC w A l) (b1 : l.length ≤ 4398046511104) :
  ∃ v' w', (execOp f o).run P w = .ok (.value v') w' ∧ Nr w.heap.size w' v' l ∧ Below w.heap.size w w' := by
 subst hP
 obtain ⟨i0, hi0, hz0, hz1, hz2⟩ := info_parts infoNt
 rcases Nat.eq_zero_or_pos l.length with h0 | hp
 ·obtain rfl : l = [] := List.eq_nil_of_length_eq_zero h0
  have hsrc : Src Try.prog i0.size 22 (.slice A ([] : List Int).length c) 0 [] w := by
   cases A with
   | none => exact Src.ofNil _ Try.underlying22 c
   | some ad => exact Src.ofSlice _ Try.underlying22 ad 0 c [] (by simp) (fun j u hj => by cases j <;> cases hj) (fun u hu => by cases hu)
  have hrun := run_append_nothing (P := Try.prog) w 22 22 o.type 44 i0 Try.underlying22 hi0 (some b) 0 0 (Nat.le_refl _) _ hsrc
  have hrun' : (Builtin.append_ #[22, 22] o.type #[Value.slice (some b) 0 0, Value.slice A 0 c]).run Try.prog w = .ok (.slice (some b) 0 0) w := hrun
  refine ⟨.slice (some b) 0 0, w, ?_, ⟨some b, 0, rfl, Nat.le_refl _, ⟨rfl, by simp [maxLen], fun h => absurd h (by simp)⟩, fun ad e h => absurd h (by simp)⟩, Below.refl _ _⟩
  simp [execOp, hop, resolve, invoke, builtin, hs, he, hrun', Result.andThen]
 ·obtain ⟨ad, hA, _⟩ := hC.2.2 hp
  subst hA
  obtain ⟨v', w', hrun, r1, r2⟩ := run_append_arg_grows (P := Try.prog) w 22 o.type 44 i0 _ 3 24 Try.underlying22 hi0 hz0 hz1 hz2 rfl (by decide) b 0 0 [] rfl (fun j u hu => by cases j <;> cases hu) ad l.length c (ncells l) (ncells_length l) (hC.cells ad rfl) (by omega) (by unfold maxLen; omega) (by omega)
  refine ⟨v', w', ?_, Nr.of_R (NC.of_own (by simpa using r1)) (Nat.le_refl _), (Below.refl _ w).grown r2 (Nat.le_refl _) (fun k e => by cases e)⟩
  simp [execOp, hop, resolve, invoke, builtin, hs, he, hrun, Result.andThen]
theorem wpList_nt {P : Program} (hP : P = Try.prog) {ops : Array Oper} {rest : List Oper} {o : Oper} {a : Act} {w : World} {Q : Exit → Act → World → Prop} {s x : Operand} (hg : o.guard = none)
  (hop : o.op = Op.call { callee := Callee.builtin Builtin.append, args := #[s, x], argTypes := #[22, 22] })
  {b : Addr} (hs : a.eval s = .slice (some b) 0 0) {A : Option Addr} {c : Nat} {l : List Nt} (he : a.eval x = .slice A l.length c) (hC : NC w A l) (b1 : l.length ≤ 4398046511104)
  (hK : ∀ v' w', Nr w.heap.size w' v' l → Below w.heap.size w w' → wpList P ops Q rest (a.put o.dst v') w') : wpList P ops Q (o :: rest) a w := by
 obtain ⟨v', w', hrun, r1, r2⟩ := exec_nt hP (o := o) (f := a.eval) hop hs he hC b1
 refine wpList_plain hg fun K hK' => ?_
 unfold Oper.wp
 rw [hrun]
 exact hK' _ _ (hK v' w' r1 r2)
set_option maxHeartbeats 2000000 in
set_option maxRecDepth 100000 in
theorem clone_n (A : Option Addr) (c : Nat) (l : List Nt) (w : World) (hC : NC w A l) (hl : l.length ≤ 1000000) : Calls Try.prog 31 #[.slice A l.length c] w fun e w' => ∃ v, e = .returned v ∧ Nr w.heap.size w' v l ∧ Below w.heap.size w w' := by
 cases A with
 | none =>
  have hz : l = [] := by
   rcases Nat.eq_zero_or_pos l.length with h | h
   ·exact List.eq_nil_of_length_eq_zero h
   ·obtain ⟨ad, e, _⟩ := hC.2.2 h
    cases e
  subst hz
  clear hC hl
  have he : ∀ W, (binOp .eql 22 (.slice none 0 c) (.slice none 0 0)).run Try.prog W = .ok (.bool true) W := fun W => Lib.run_eql_slice_nil (P := Try.prog) W _ _ none 0 c 0 0 Try.underlying22
  go_enter Try.func31, Try.ntmps31
  go_wp2_with fail
  go_ret
  exact ⟨_, rfl, Nr.nil _ _, Below.refl _ _⟩
 | some ad =>
  have HC := Aside0.mk (hC.below (below_alloc (Below.refl _ _) (.cells #[] 44)))
  have HL := Aside0.mk (show l.length ≤ 4398046511104 by omega)
  clear hC hl
  have he : ∀ W, (binOp .eql 22 (.slice (some ad) l.length c) (.slice none 0 0)).run Try.prog W = .ok (.bool false) W := fun W => Lib.run_eql_slice_nil (P := Try.prog) W _ _ (some ad) l.length c 0 0 Try.underlying22
  go_enter Try.func31, Try.ntmps31
  go_wp2_with (at_builtin; refine wpList_nt rfl rfl rfl rfl rfl HC.out HL.out ?_)
  intro v' w' hg hb
  have HG := Aside0.mk (hg.mono (show w.heap.size ≤ _ by simp))
  have HB := Aside0.mk ((below_alloc (Below.refl w.heap.size w) (.cells #[] 44)).trans (hb.mono (by omega)))
  clear hg hb
  go_wp2_with fail
  go_ret
  exact ⟨_, rfl, HG.out, HB.out⟩
end Go.Proofs.Ytjbnffadfohofaa.CarryN
end
-- MERGED YtjbnffadfohofaaPcarryMove
section
namespace Go.Proofs.Ytjbnffadfohofaa.P
open Go.RowKit Go.Proofs.YtjbnffadfohofaaW.PrintWords Go.Proofs.YtjbnffadfohofaaW.PrintLast Go.Proofs.YtjbnffadfohofaaW.PrintMore
attribute [local go_sem] max2_int min2_int max_two min_two max_three min_three max_four min_four   -- for this text's walks alone
set_option linter.unusedVariables false
set_option linter.unusedSimpArgs false
def carry_Move.l0 : Nat → List (List (S49)) → List (S44) → List (S44) → Int → Int → Option ((List (S44)) × Bool)
 | 0, _, _, _, _, _ => none
 | k + 1, x1, x4, x10, x11, x12 => if x12 < x11 then (if 0 ≤ x12 then (if x12 < (x10.length : Int) then ((place_Over.f k x1 ((rd_T44 x10 x12).f0.f0) ((rd_T44 x10 x12).f0.f1)).bind fun bt185 => (if bt185.2.2 = true then (if x4.length < 5864062014805 then (carry_Move.l0 k x1 (x4 ++ [(⟨(⟨bt185.1, bt185.2.1⟩ : S42), (rd_T44 x10 x12).f1⟩ : S44)]) x10 x11 (wrap64 (x12 + 1))) else (none)) else (some (([] : List (S44)), false)))) else (none)) else (none)) else (some (x4, true))
def carry_Move.f (k : Nat) (l0 : List (S44)) (l1 : List (List (S49))) : Option ((List (S44)) × Bool) := carry_Move.l0 k l1 ([] : List (S44)) l0 (l0.length : Int) 0
set_option maxHeartbeats 8000000 in
set_option maxRecDepth 100000 in
theorem carry_Move.calls (k : Nat) (A0 : Option Addr) (c0 : Nat) (l0 : List (S44)) (A1 : Option Addr) (c1 : Nat) (l1 : List (List (S49))) (r1 : List (S44)) (r2 : Bool) (w : World) (hr0 : Kd.C k44 w A0 l0.length l0) (hc0 : l0.length ≤ c0) (hr1 : Kd.C (Kd.slice 49 k49) w A1 l1.length l1) (hc1 : l1.length ≤ c1) (h : carry_Move.f k l0 l1 = some (r1, r2)) :
  Calls Try.prog 9 #[.slice A0 l0.length c0, .slice A1 l1.length c1] w fun e w' => ∃ v0_ : Value, e = .returned (.tuple #[v0_, .bool r2]) ∧ Kd.R k44 44 w' w.heap.size (fun _ => True) v0_ r1 ∧ Below w.heap.size w w' := by
 have hu44 := Try.underlying44
 have hu42 := Try.underlying42
 have HR0 := Aside0.mk hr0
 have HC0 := Aside0.mk hc0
 clear hr0 hc0
 have HR1 := Aside0.mk hr1
 have HC1 := Aside0.mk hc1
 clear hr1 hc1
 have HB := Aside0.mk (Below.refl w.heap.size w)
 have H : (carry_Move.l0 k l1 ([] : List (S44)) l0 (l0.length : Int) 0) = some (r1, r2) := h
 clear h
 have H' := Aside0.mk H
 clear H
 go_enter Try.func9, Try.ntmps9
 go_wp2
 go_loopg [4, 12] k (fun kq v4 v12 w' => ∃ (x4_1 : List (S44)) (x12_1 : Int), v12 = .int .i64 x12_1 ∧ Aside0 (carry_Move.l0 kq l1 x4_1 l0 (l0.length : Int) x12_1 = some (r1, r2)) ∧ Aside0 (kq ≤ k) ∧ Aside0 (Kd.R k44 44 w' w.heap.size (fun _ => True) v4 x4_1) ∧ Aside0 (Below w.heap.size w w'))
 case atStart => exact ⟨(([] : List (S44))), (0), (by (rfl)), H', ⟨Nat.le_refl _⟩, ⟨by (exact Kd.R_nil _ _ _ _ _)⟩, ⟨by repeat ((with_reducible (exact HB.out)))⟩⟩
 case round =>
  clear H'
  try clear c1
  try clear p2
  obtain ⟨x4_1, x12_1, rfl, HA, HK1, HO_4, HB⟩ := hrel
  cases gk with
  | zero => exact absurd HA.out (by simp [carry_Move.l0])
  | succ k1 =>
   have H := HA.out
   clear HA
   simp only [carry_Move.l0] at H
   by_cases c3 : x12_1 < (l0.length : Int)
   ·rw [if_pos c3] at H
    have c3b0 : decide (x12_1 < (l0.length : Int)) = true := decide_eq_true c3
    clear c3
    by_cases c4 : 0 ≤ x12_1
    ·rw [if_pos c4] at H
     have c4b0 : decide (0 ≤ x12_1) = true := decide_eq_true c4
     clear c4
     by_cases c5 : x12_1 < (l0.length : Int)
     ·rw [if_pos c5] at H
      have c5b0 : decide (x12_1 < (l0.length : Int)) = true := decide_eq_true c5
      clear c5
      replace H := Option.bind_eq_some_iff.mp H
      obtain ⟨⟨t185, t186, t187⟩, A60, H⟩ := H
      replace H : (if t187 = true then (if x4_1.length < 5864062014805 then (carry_Move.l0 k1 l1 (x4_1 ++ [(⟨(⟨t185, t186⟩ : S42), (rd_T44 l0 x12_1).f1⟩ : S44)]) l0 (l0.length : Int) (wrap64 (x12_1 + 1))) else (none)) else (some (([] : List (S44)), false))) = some (r1, r2) := H
      have A6 := Aside0.mk A60
      clear A60
      by_cases c7 : t187 = true
      ·subst c7
       have H1 : (if x4_1.length < 5864062014805 then (carry_Move.l0 k1 l1 (x4_1 ++ [(⟨(⟨t185, t186⟩ : S42), (rd_T44 l0 x12_1).f1⟩ : S44)]) l0 (l0.length : Int) (wrap64 (x12_1 + 1))) else (none)) = some (r1, r2) := by rw [if_pos rfl] at H; exact H
       clear H
       have H := H1
       clear H1
       by_cases c8 : x4_1.length < 5864062014805
       ·rw [if_pos c8] at H
        have LMc8 := Aside0.mk c8
        clear c8
        obtain ⟨y189, hy189⟩ : ∃ y_ : List (S44), y_ = (x4_1 ++ [(⟨(⟨t185, t186⟩ : S42), (rd_T44 l0 x12_1).f1⟩ : S44)]) := ⟨_, rfl⟩
        replace H : (carry_Move.l0 k1 l1 y189 l0 (l0.length : Int) (wrap64 (x12_1 + 1))) = some (r1, r2) := by (rw [hy189]; with_reducible exact H)
        have Ny189 := Aside0.mk hy189
        clear hy189
        have H' := Aside0.mk H
        clear H
        have p183 : 0 ≤ (x12_1 : Int) := of_decide_eq_true (by (with_reducible assumption))
        have q183 : x12_1 < (l0.length : Int) := of_decide_eq_true (by (with_reducible assumption))
        obtain ⟨ad183, e183, hx183_0, hx183_1, hx183_2⟩ := at_T44 HR0.out x12_1 p183 q183
        cases e183
        replace hx183_0 := (HB.out.cell (World.block_lt_of_cell? w _ hx183_0)).trans hx183_0
        replace hx183_1 := (HB.out.cell (World.block_lt_of_cell? w _ hx183_1)).trans hx183_1
        replace hx183_2 := (HB.out.cell (World.block_lt_of_cell? w _ hx183_2)).trans hx183_2
        replace p183 := eq_true p183
        replace q183 := eq_true q183
        go_wp2_with (first | ((with_reducible refine gate_dst (N := 7) rfl ?_); refine box_event ?hg (N := 7) ?hd (cs := #[.int .i64 0, .int .i64 0, .int .i64 0]) (t := 44) ?hr ?_; (case hd => rfl); (case hg => rfl); (case hr => (go_simp; done)); intro gb184 hg w9 hbox hb; have n0_ := Aside0.mk (Kd.R_below (Kd.R_elderB (by (with_reducible repeat ((apply Kd.R_drew))); exact HO_4.out) gb184 (Nat.le_of_eq hg.symm)) hb); have n1_ := Aside0.mk (below_step (by repeat ((with_reducible (exact HB.out)))) hb); have n2_ := Aside0.mk (hbox); have n3_ := Aside0.mk ((by rw [hg]; exact (below_size (by repeat ((with_reducible (exact HB.out))))) : w.heap.size ≤ gb184)); have n4_ := Aside0.mk ((by rw [hg]; exact (below_size (by repeat ((with_reducible (exact HB.out))))) : w.heap.size ≤ gb184)); clear HO_4; clear HB; have HO_4 := n0_; have HB := n1_; have BK184 := n2_; have GW184 := n3_; have GE184 := n4_; clear n0_ n1_ n2_ n3_ n4_; clear hb hbox hg; have hcz10_0 : w9.cell? ⟨gb184, 0, none⟩ = some (.int .i64 0) := (blk_cell BK184.out 0).trans rfl; have hcz10_1 : w9.cell? ⟨gb184, 1, none⟩ = some (.int .i64 0) := (blk_cell BK184.out 1).trans rfl; have hcz10_2 : w9.cell? ⟨gb184, 2, none⟩ = some (.int .i64 0) := (blk_cell BK184.out 2).trans rfl; have hfz10_0 := blk_frozen BK184.out 0; have hfz10_1 := blk_frozen BK184.out 1; have hfz10_2 := blk_frozen BK184.out 2) | ((with_reducible refine gate_callee (f := 23) rfl ?_); refine goesL_ (some 20) rfl rfl Try.func23 (by kernel_rfl) rfl #[.slice A1 l1.length c1, .agg #[.int .i64 ((rd_T44 l0 x12_1).f0.f0), .int .i64 ((rd_T44 l0 x12_1).f0.f1)]] rfl (by (try simp only [List.map_toArray, List.map_cons, List.map_nil]); (rfl)) ?_; (with_reducible refine (place_Over.calls k1 _ _ l1 ((rd_T44 l0 x12_1).f0.f0) ((rd_T44 l0 x12_1).f0.f1) t185 t186 true _ ?side1 ?side2 A6.out).mono ?_); (case side1 => exact Kd.C_below HR1.out (by repeat ((with_reducible first | exact HB.out | refine below_set ?_ GE184.out)))); (case side2 => exact HC1.out); rintro e w11 ⟨rfl, hb⟩; refine ⟨_, rfl, ?_⟩; have n0_ := Aside0.mk (Kd.R_below (by (with_reducible repeat ((apply Kd.R_drew))); exact (Kd.R_mono (Kd.R_far (p := ⟨gb184, 2, none⟩) (Kd.R_far (p := ⟨gb184, 1, none⟩) (Kd.R_far (p := ⟨gb184, 0, none⟩) (Kd.R_mono HO_4.out (fun k_ hk => (⟨hk, hk.2⟩ : _ ∧ k_ ≠ gb184))) (fun _ hk => hk.2) (.int .i64 ((rd_T44 l0 x12_1).f0.f0))) (fun _ hk => hk.2) (.int .i64 ((rd_T44 l0 x12_1).f0.f1))) (fun _ hk => hk.2) (.int .i64 ((rd_T44 l0 x12_1).f1))) (fun _ h_ => h_.1))) hb); have n1_ := Aside0.mk (blk_below (g := gb184) (o := .cells #[.int .i64 ((rd_T44 l0 x12_1).f0.f0), .int .i64 ((rd_T44 l0 x12_1).f0.f1), .int .i64 ((rd_T44 l0 x12_1).f1)] 44 (0, 0)) (by (with_reducible repeat ((refine blk_drew ?_))); refine blk_put (cs := #[.int .i64 ((rd_T44 l0 x12_1).f0.f0), .int .i64 ((rd_T44 l0 x12_1).f0.f1), .int .i64 0]) ?_ 2 _ rfl; (with_reducible repeat ((refine blk_drew ?_))); refine blk_put (cs := #[.int .i64 ((rd_T44 l0 x12_1).f0.f0), .int .i64 0, .int .i64 0]) ?_ 1 _ rfl; (with_reducible repeat ((refine blk_drew ?_))); refine blk_put (cs := #[.int .i64 0, .int .i64 0, .int .i64 0]) ?_ 0 _ rfl; (with_reducible repeat ((refine blk_drew ?_))); exact BK184.out) hb); have n2_ := Aside0.mk (below_step (by repeat ((with_reducible first | exact HB.out | refine below_set ?_ GE184.out))) hb); clear HO_4; clear BK184; clear HB; have HO_4 := n0_; have BK184 := n1_; have HB := n2_; clear n0_ n1_ n2_; (try clear hb); (try clear hb2); (try clear hk); (try clear hi)) | ((with_reducible refine gate_dst (N := 8) rfl ?_); refine box_event ?hg (N := 8) ?hd (cs := #[.int .i64 0, .int .i64 0]) (t := 42) ?hr ?_; (case hd => rfl); (case hg => rfl); (case hr => (go_simp; done)); intro gb188 hg w12 hbox hb; have n0_ := Aside0.mk (Kd.R_below (by (with_reducible repeat ((apply Kd.R_drew))); exact HO_4.out) hb); have n1_ := Aside0.mk (blk_below (g := gb184) (o := .cells #[.int .i64 ((rd_T44 l0 x12_1).f0.f0), .int .i64 ((rd_T44 l0 x12_1).f0.f1), .int .i64 ((rd_T44 l0 x12_1).f1)] 44 (0, 0)) (by (with_reducible repeat ((refine blk_drew ?_))); exact BK184.out) hb); have n2_ := Aside0.mk (below_step (by repeat ((with_reducible (exact HB.out)))) hb); have n3_ := Aside0.mk (hbox); have n4_ := Aside0.mk ((by rw [hg]; exact (below_size (by repeat ((with_reducible (exact HB.out))))) : w.heap.size ≤ gb188)); have n5_ := Aside0.mk ((by rw [hg]; exact (below_size (by repeat ((with_reducible (exact HB.out))))) : w.heap.size ≤ gb188)); have n6_ := Aside0.mk ((by rw [hg]; exact Nat.ne_of_lt (blk_lt (g := gb184) (o := .cells #[.int .i64 ((rd_T44 l0 x12_1).f0.f0), .int .i64 ((rd_T44 l0 x12_1).f0.f1), .int .i64 ((rd_T44 l0 x12_1).f1)] 44 (0, 0)) (by (with_reducible repeat ((refine blk_drew ?_))); exact BK184.out)) : gb184 ≠ gb188)); have n7_ := Aside0.mk ((by rw [hg]; exact Nat.ne_of_gt (blk_lt (g := gb184) (o := .cells #[.int .i64 ((rd_T44 l0 x12_1).f0.f0), .int .i64 ((rd_T44 l0 x12_1).f0.f1), .int .i64 ((rd_T44 l0 x12_1).f1)] 44 (0, 0)) (by (with_reducible repeat ((refine blk_drew ?_))); exact BK184.out)) : gb188 ≠ gb184)); clear HO_4; clear BK184; clear HB; have HO_4 := n0_; have BK184 := n1_; have HB := n2_; have BK188 := n3_; have GW188 := n4_; have GE188 := n5_; have NB184_188 := n6_; have NB188_184 := n7_; clear n0_ n1_ n2_ n3_ n4_ n5_ n6_ n7_; clear hb hbox hg; have hnb13 := NB188_184.out; have hnc13 := NB184_188.out; have hcz14_0 : w12.cell? ⟨gb188, 0, none⟩ = some (.int .i64 0) := (blk_cell BK188.out 0).trans rfl; have hcz14_1 : w12.cell? ⟨gb188, 1, none⟩ = some (.int .i64 0) := (blk_cell BK188.out 1).trans rfl; have hfz14_0 := blk_frozen BK188.out 0; have hfz14_1 := blk_frozen BK188.out 1; have hcz15_0 : w12.cell? ⟨gb184, 0, none⟩ = some (.int .i64 ((rd_T44 l0 x12_1).f0.f0)) := (blk_cell BK184.out 0).trans rfl; have hcz15_1 : w12.cell? ⟨gb184, 1, none⟩ = some (.int .i64 ((rd_T44 l0 x12_1).f0.f1)) := (blk_cell BK184.out 1).trans rfl; have hcz15_2 : w12.cell? ⟨gb184, 2, none⟩ = some (.int .i64 ((rd_T44 l0 x12_1).f1)) := (blk_cell BK184.out 2).trans rfl; have hfz15_0 := blk_frozen BK184.out 0; have hfz15_1 := blk_frozen BK184.out 1; have hfz15_2 := blk_frozen BK184.out 2) | ((with_reducible refine gate_builtin (b := .append) (xs := #[.tmp 25, .tmp 30]) rfl ?_); at_builtin; refine Kd.R_append k44 (w0 := w) w.heap.size rfl (.tmp 25) (.tmp 30) 22 44 (.agg #[(.int .i64 0), (.int .i64 0), (.int .i64 0)]) 24 rfl Try.underlying22 info44 rfl (by decide) (by omega) u4 x4_1 (⟨(⟨t185, t186⟩ : S42), (rd_T44 l0 x12_1).f1⟩ : S44) [.int .i64 t185, .int .i64 t186, .int .i64 ((rd_T44 l0 x12_1).f1)] (fun k_ => k_ ≠ gb184) (fun _ => False) rfl (by (go_simp; done)) ?aP (fun _ hk => hk.elim) ?aF ?aO ?aB ?aS ?aL ?_; (case aP => exact k44_mkM _ _ _ (⟨(⟨t185, t186⟩ : S42), (rd_T44 l0 x12_1).f1⟩ : S44)); (case aB => exact (by repeat ((with_reducible first | exact HB.out | refine below_set ?_ GE188.out)))); (case aF => exact (fun k_ hk => Kd.freshB (g := gb184) (o := .cells #[.int .i64 ((rd_T44 l0 x12_1).f0.f0), .int .i64 ((rd_T44 l0 x12_1).f0.f1), .int .i64 ((rd_T44 l0 x12_1).f1)] 44 (0, 0)) (by (with_reducible repeat ((refine blk_drew ?_))); refine blk_far ?_ NB184_188.out _; (with_reducible repeat ((refine blk_drew ?_))); refine blk_far ?_ NB184_188.out _; (with_reducible repeat ((refine blk_drew ?_))); exact BK184.out) k_ hk)); (case aO => exact (by (with_reducible repeat ((apply Kd.R_drew))); exact Kd.R_mono (Kd.R_far (p := ⟨gb188, 1, none⟩) (Kd.R_far (p := ⟨gb188, 0, none⟩) (Kd.R_types HO_4.out BK188.out (by decide)) (fun _ hk => hk.2) (.int .i64 t185)) (fun _ hk => hk.2) (.int .i64 t186)) (fun _ hk => hk.1.2))); (case aS => exact (below_size (by repeat ((with_reducible first | exact HB.out | refine below_set ?_ GE188.out))))); (case aL => have := LMc8.out; omega); intro v190 w16 ho hb hg hat; rw [← Ny189.out] at ho; have n0_ := Aside0.mk (blk_grown (g := gb184) (o := .cells #[.int .i64 ((rd_T44 l0 x12_1).f0.f0), .int .i64 ((rd_T44 l0 x12_1).f0.f1), .int .i64 ((rd_T44 l0 x12_1).f1)] 44 (0, 0)) (by (with_reducible repeat ((refine blk_drew ?_))); refine blk_far ?_ NB184_188.out _; (with_reducible repeat ((refine blk_drew ?_))); refine blk_far ?_ NB184_188.out _; (with_reducible repeat ((refine blk_drew ?_))); exact BK184.out) hg (Kd.R_away HO_4.out (fun _ hk => hk.2))); have n1_ := Aside0.mk (blk_grown (g := gb188) (o := .cells #[.int .i64 t185, .int .i64 t186] 42 (0, 0)) (by (with_reducible repeat ((refine blk_drew ?_))); refine blk_put (cs := #[.int .i64 t185, .int .i64 0]) ?_ 1 _ rfl; (with_reducible repeat ((refine blk_drew ?_))); refine blk_put (cs := #[.int .i64 0, .int .i64 0]) ?_ 0 _ rfl; (with_reducible repeat ((refine blk_drew ?_))); exact BK188.out) hg (Kd.R_ne HO_4.out BK188.out (by decide))); have n2_ := Aside0.mk (hb); have n3_ := Aside0.mk (ho); clear BK184; clear BK188; clear HB; clear HO_4; have BK184 := n0_; have BK188 := n1_; have HB := n2_; have HO191 := n3_; clear n0_ n1_ n2_ n3_; clear ho hb hg hat))
        go_roundg k1
        case measure => have := HK1.out; omega
        case rel => exact ⟨(y189), (wrap64 (x12_1 + 1)), (by (rfl)), H', ⟨by have := HK1.out; omega⟩, ⟨by (with_reducible repeat ((apply Kd.R_drew))); exact Kd.R_mono HO191.out (fun _ hk => trivial)⟩, ⟨by repeat ((with_reducible (exact HB.out)))⟩⟩
       ·rw [if_neg c8] at H
        exact absurd H (by simp)
      ·replace c7 := Bool.eq_false_iff.mpr c7
       subst c7
       have H1 : (some (([] : List (S44)), false)) = some (r1, r2) := by rw [if_neg (show ¬ (false = true) by decide)] at H; exact H
       clear H
       have H := H1
       clear H1
       simp only [Option.some.injEq, Prod.mk.injEq] at H
       obtain ⟨rfl, rfl⟩ := H
       have p183 : 0 ≤ (x12_1 : Int) := of_decide_eq_true (by (with_reducible assumption))
       have q183 : x12_1 < (l0.length : Int) := of_decide_eq_true (by (with_reducible assumption))
       obtain ⟨ad183, e183, hx183_0, hx183_1, hx183_2⟩ := at_T44 HR0.out x12_1 p183 q183
       cases e183
       replace hx183_0 := (HB.out.cell (World.block_lt_of_cell? w _ hx183_0)).trans hx183_0
       replace hx183_1 := (HB.out.cell (World.block_lt_of_cell? w _ hx183_1)).trans hx183_1
       replace hx183_2 := (HB.out.cell (World.block_lt_of_cell? w _ hx183_2)).trans hx183_2
       replace p183 := eq_true p183
       replace q183 := eq_true q183
       go_wp2_with (first | ((with_reducible refine gate_dst (N := 7) rfl ?_); refine box_event ?hg (N := 7) ?hd (cs := #[.int .i64 0, .int .i64 0, .int .i64 0]) (t := 44) ?hr ?_; (case hd => rfl); (case hg => rfl); (case hr => (go_simp; done)); intro gb184 hg w17 hbox hb; have n0_ := Aside0.mk (Kd.R_below (Kd.R_elderB (by (with_reducible repeat ((apply Kd.R_drew))); exact HO_4.out) gb184 (Nat.le_of_eq hg.symm)) hb); have n1_ := Aside0.mk (below_step (by repeat ((with_reducible (exact HB.out)))) hb); have n2_ := Aside0.mk (hbox); have n3_ := Aside0.mk ((by rw [hg]; exact (below_size (by repeat ((with_reducible (exact HB.out))))) : w.heap.size ≤ gb184)); have n4_ := Aside0.mk ((by rw [hg]; exact (below_size (by repeat ((with_reducible (exact HB.out))))) : w.heap.size ≤ gb184)); clear HO_4; clear HB; have HO_4 := n0_; have HB := n1_; have BK184 := n2_; have GW184 := n3_; have GE184 := n4_; clear n0_ n1_ n2_ n3_ n4_; clear hb hbox hg; have hcz18_0 : w17.cell? ⟨gb184, 0, none⟩ = some (.int .i64 0) := (blk_cell BK184.out 0).trans rfl; have hcz18_1 : w17.cell? ⟨gb184, 1, none⟩ = some (.int .i64 0) := (blk_cell BK184.out 1).trans rfl; have hcz18_2 : w17.cell? ⟨gb184, 2, none⟩ = some (.int .i64 0) := (blk_cell BK184.out 2).trans rfl; have hfz18_0 := blk_frozen BK184.out 0; have hfz18_1 := blk_frozen BK184.out 1; have hfz18_2 := blk_frozen BK184.out 2) | ((with_reducible refine gate_callee (f := 23) rfl ?_); refine goesL_ (some 20) rfl rfl Try.func23 (by kernel_rfl) rfl #[.slice A1 l1.length c1, .agg #[.int .i64 ((rd_T44 l0 x12_1).f0.f0), .int .i64 ((rd_T44 l0 x12_1).f0.f1)]] rfl (by (try simp only [List.map_toArray, List.map_cons, List.map_nil]); (rfl)) ?_; (with_reducible refine (place_Over.calls k1 _ _ l1 ((rd_T44 l0 x12_1).f0.f0) ((rd_T44 l0 x12_1).f0.f1) t185 t186 false _ ?side1 ?side2 A6.out).mono ?_); (case side1 => exact Kd.C_below HR1.out (by repeat ((with_reducible first | exact HB.out | refine below_set ?_ GE184.out)))); (case side2 => exact HC1.out); rintro e w19 ⟨rfl, hb⟩; refine ⟨_, rfl, ?_⟩; have n0_ := Aside0.mk (Kd.R_below (by (with_reducible repeat ((apply Kd.R_drew))); exact (Kd.R_mono (Kd.R_far (p := ⟨gb184, 2, none⟩) (Kd.R_far (p := ⟨gb184, 1, none⟩) (Kd.R_far (p := ⟨gb184, 0, none⟩) (Kd.R_mono HO_4.out (fun k_ hk => (⟨hk, hk.2⟩ : _ ∧ k_ ≠ gb184))) (fun _ hk => hk.2) (.int .i64 ((rd_T44 l0 x12_1).f0.f0))) (fun _ hk => hk.2) (.int .i64 ((rd_T44 l0 x12_1).f0.f1))) (fun _ hk => hk.2) (.int .i64 ((rd_T44 l0 x12_1).f1))) (fun _ h_ => h_.1))) hb); have n1_ := Aside0.mk (blk_below (g := gb184) (o := .cells #[.int .i64 ((rd_T44 l0 x12_1).f0.f0), .int .i64 ((rd_T44 l0 x12_1).f0.f1), .int .i64 ((rd_T44 l0 x12_1).f1)] 44 (0, 0)) (by (with_reducible repeat ((refine blk_drew ?_))); refine blk_put (cs := #[.int .i64 ((rd_T44 l0 x12_1).f0.f0), .int .i64 ((rd_T44 l0 x12_1).f0.f1), .int .i64 0]) ?_ 2 _ rfl; (with_reducible repeat ((refine blk_drew ?_))); refine blk_put (cs := #[.int .i64 ((rd_T44 l0 x12_1).f0.f0), .int .i64 0, .int .i64 0]) ?_ 1 _ rfl; (with_reducible repeat ((refine blk_drew ?_))); refine blk_put (cs := #[.int .i64 0, .int .i64 0, .int .i64 0]) ?_ 0 _ rfl; (with_reducible repeat ((refine blk_drew ?_))); exact BK184.out) hb); have n2_ := Aside0.mk (below_step (by repeat ((with_reducible first | exact HB.out | refine below_set ?_ GE184.out))) hb); clear HO_4; clear BK184; clear HB; have HO_4 := n0_; have BK184 := n1_; have HB := n2_; clear n0_ n1_ n2_; (try clear hb); (try clear hb2); (try clear hk); (try clear hi)) | ((with_reducible refine gate_dst (N := 8) rfl ?_); refine box_event ?hg (N := 8) ?hd (cs := #[.int .i64 0, .int .i64 0]) (t := 42) ?hr ?_; (case hd => rfl); (case hg => rfl); (case hr => (go_simp; done)); intro gb188 hg w20 hbox hb; have n0_ := Aside0.mk (Kd.R_below (by (with_reducible repeat ((apply Kd.R_drew))); exact HO_4.out) hb); have n1_ := Aside0.mk (blk_below (g := gb184) (o := .cells #[.int .i64 ((rd_T44 l0 x12_1).f0.f0), .int .i64 ((rd_T44 l0 x12_1).f0.f1), .int .i64 ((rd_T44 l0 x12_1).f1)] 44 (0, 0)) (by (with_reducible repeat ((refine blk_drew ?_))); exact BK184.out) hb); have n2_ := Aside0.mk (below_step (by repeat ((with_reducible (exact HB.out)))) hb); have n3_ := Aside0.mk (hbox); have n4_ := Aside0.mk ((by rw [hg]; exact (below_size (by repeat ((with_reducible (exact HB.out))))) : w.heap.size ≤ gb188)); have n5_ := Aside0.mk ((by rw [hg]; exact (below_size (by repeat ((with_reducible (exact HB.out))))) : w.heap.size ≤ gb188)); have n6_ := Aside0.mk ((by rw [hg]; exact Nat.ne_of_lt (blk_lt (g := gb184) (o := .cells #[.int .i64 ((rd_T44 l0 x12_1).f0.f0), .int .i64 ((rd_T44 l0 x12_1).f0.f1), .int .i64 ((rd_T44 l0 x12_1).f1)] 44 (0, 0)) (by (with_reducible repeat ((refine blk_drew ?_))); exact BK184.out)) : gb184 ≠ gb188)); have n7_ := Aside0.mk ((by rw [hg]; exact Nat.ne_of_gt (blk_lt (g := gb184) (o := .cells #[.int .i64 ((rd_T44 l0 x12_1).f0.f0), .int .i64 ((rd_T44 l0 x12_1).f0.f1), .int .i64 ((rd_T44 l0 x12_1).f1)] 44 (0, 0)) (by (with_reducible repeat ((refine blk_drew ?_))); exact BK184.out)) : gb188 ≠ gb184)); clear HO_4; clear BK184; clear HB; have HO_4 := n0_; have BK184 := n1_; have HB := n2_; have BK188 := n3_; have GW188 := n4_; have GE188 := n5_; have NB184_188 := n6_; have NB188_184 := n7_; clear n0_ n1_ n2_ n3_ n4_ n5_ n6_ n7_; clear hb hbox hg; have hnb21 := NB188_184.out; have hnc21 := NB184_188.out; have hcz22_0 : w20.cell? ⟨gb188, 0, none⟩ = some (.int .i64 0) := (blk_cell BK188.out 0).trans rfl; have hcz22_1 : w20.cell? ⟨gb188, 1, none⟩ = some (.int .i64 0) := (blk_cell BK188.out 1).trans rfl; have hfz22_0 := blk_frozen BK188.out 0; have hfz22_1 := blk_frozen BK188.out 1))
       go_ret2
       exact ⟨_, by (rfl), by (exact Kd.R_nil _ _ _ _ _), by repeat ((with_reducible first | exact HB.out | refine below_set ?_ GE188.out))⟩
     ·rw [if_neg c5] at H
      exact absurd H (by simp)
    ·rw [if_neg c4] at H
     exact absurd H (by simp)
   ·rw [if_neg c3] at H
    have c3b0 : decide (x12_1 < (l0.length : Int)) = false := decide_eq_false c3
    clear c3
    simp only [Option.some.injEq, Prod.mk.injEq] at H
    obtain ⟨rfl, rfl⟩ := H
    go_wp2
    go_ret2
    exact ⟨_, by (rfl), by (with_reducible repeat ((apply Kd.R_drew))); exact HO_4.out, by repeat ((with_reducible (exact HB.out)))⟩
end Go.Proofs.Ytjbnffadfohofaa.P
end
-- MERGED YtjbnffadfohofaaPvariorumref36Move
section
namespace Go.Proofs.Ytjbnffadfohofaa.P
open Go.RowKit Go.Proofs.YtjbnffadfohofaaW.PrintWords Go.Proofs.YtjbnffadfohofaaW.PrintLast Go.Proofs.YtjbnffadfohofaaW.PrintMore
attribute [local go_sem] max2_int min2_int max_two min_two max_three min_three max_four min_four   -- for this text's walks alone
set_option linter.unusedVariables false
set_option linter.unusedSimpArgs false
def variorumref36_Move.l0 : Nat → List (S44) → List (List (S49)) → List (S44) → Int → Option ((List (S44)) × Bool)
 | 0, _, _, _, _ => none
 | k + 1, x0, x1, x6, x7 => if x7 < (x0.length : Int) then (if 0 ≤ x7 then ((variorumref10_Over.f k x1 ((rd_T44 x0 x7).f0.f0) ((rd_T44 x0 x7).f0.f1)).bind fun bt266 => (if bt266.2.2 = true then (if x6.length < 5864062014805 then (variorumref36_Move.l0 k x0 x1 (x6 ++ [(⟨(⟨bt266.1, bt266.2.1⟩ : S42), (rd_T44 x0 x7).f1⟩ : S44)]) (wrap64 (x7 + 1))) else (none)) else (some (([] : List (S44)), false)))) else (none)) else (some (x6, true))
def variorumref36_Move.f (k : Nat) (l0 : List (S44)) (l1 : List (List (S49))) : Option ((List (S44)) × Bool) := variorumref36_Move.l0 k l0 l1 ([] : List (S44)) 0
end Go.Proofs.Ytjbnffadfohofaa.P
end
-- MERGED YtjbnffadfohofaaPPart1
section
namespace Go.Proofs.Ytjbnffadfohofaa.P
open Go.RowKit Go.Proofs.YtjbnffadfohofaaW.PrintWords Go.Proofs.YtjbnffadfohofaaW.PrintLast Go.Proofs.YtjbnffadfohofaaW.PrintMore
attribute [local go_sem] max2_int min2_int max_two min_two max_three min_three max_four min_four   -- for this text's walks alone
set_option linter.unusedVariables false
set_option linter.unusedSimpArgs false
theorem eqA42 (d : Nat) (w : World) (x0 y0 : Int) (x1 y1 : Int) :
  (Op.equalIn (d + 2) 42 (.agg #[.int .i64 x0, .int .i64 x1]) (.agg #[.int .i64 y0, .int .i64 y1])).run Try.prog w = .ok (x0 == y0 && (x1 == y1)) w := by
 refine eqA_of Try.underlying42 (by kernel_rfl) ?_
 refine eqf_cons (by rfl) (by go_simp; rfl) (by go_simp; rfl) (by go_simp) ?_
 exact eqf_last (by rfl) (by go_simp; rfl) (by go_simp; rfl) (by go_simp)
theorem eqA44 (d : Nat) (w : World) (x0 y0 : Int) (x1 y1 : Int) (x2 y2 : Int) :
  (Op.equalIn (d + 3) 44 (.agg #[.int .i64 x0, .int .i64 x1, .int .i64 x2]) (.agg #[.int .i64 y0, .int .i64 y1, .int .i64 y2])).run Try.prog w = .ok ((x0 == y0 && (x1 == y1)) && (x2 == y2)) w := by
 refine eqA_of Try.underlying44 (by kernel_rfl) ?_
 refine eqf_cons (by rfl) (by go_simp) (by go_simp) (eqA42 (d + 0) w _ _ _ _) ?_
 exact eqf_last (by rfl) (by go_simp; rfl) (by go_simp; rfl) (by go_simp)
end Go.Proofs.Ytjbnffadfohofaa.P
end
-- MERGED YtjbnffadfohofaaPvariorumref26Notes
section
namespace Go.Proofs.Ytjbnffadfohofaa.P
open Go.RowKit Go.Proofs.YtjbnffadfohofaaW.PrintWords Go.Proofs.YtjbnffadfohofaaW.PrintLast Go.Proofs.YtjbnffadfohofaaW.PrintMore
attribute [local go_sem] max2_int min2_int max_two min_two max_three min_three max_four min_four   -- for this text's walks alone
set_option linter.unusedVariables false
set_option linter.unusedSimpArgs false
attribute [local go_sem high] eqA44
def variorumref26_Notes.l0 : Nat → List (S44) → List (S44) → Int → Option (Bool)
 | 0, _, _, _ => none
 | k + 1, x0, x1, x5 => if x5 < (x0.length : Int) then (if 0 ≤ x5 then (if x5 < (x1.length : Int) then (if ((!(((rd_T44 x0 x5).f0.f0) == ((rd_T44 x1 x5).f0.f0)) || (!(((rd_T44 x0 x5).f0.f1) == ((rd_T44 x1 x5).f0.f1)))) || (!(((rd_T44 x0 x5).f1) == ((rd_T44 x1 x5).f1)))) = true then (some false) else (variorumref26_Notes.l0 k x0 x1 (wrap64 (x5 + 1)))) else (none)) else (none)) else (some true)
def variorumref26_Notes.f (k : Nat) (l0 : List (S44)) (l1 : List (S44)) : Option (Bool) := if (l0.length : Int) = (l1.length : Int) then (variorumref26_Notes.l0 k l0 l1 0) else (some false)
end Go.Proofs.Ytjbnffadfohofaa.P
end
-- MERGED YtjbnffadfohofaaPvariorumlaw36light
section
namespace Go.Proofs.Ytjbnffadfohofaa.P
open Go.RowKit Go.Proofs.YtjbnffadfohofaaW.PrintWords Go.Proofs.YtjbnffadfohofaaW.PrintLast Go.Proofs.YtjbnffadfohofaaW.PrintMore
attribute [local go_sem] max2_int min2_int max_two min_two max_three min_three max_four min_four   -- for this text's walks alone
set_option linter.unusedVariables false
set_option linter.unusedSimpArgs false
def variorumlaw36_light.l0 : Nat → List (List (S49)) → Int → Int → Option (Bool)
 | 0, _, _, _ => none
 | k + 1, x8, x9, x10 => if x10 < x9 then (if 0 ≤ x10 then (if x10 < (x8.length : Int) then ((variorumlaw09_Few.f k (rd_L3 x8 x10)).bind fun t119 => (if t119 = true then (variorumlaw36_light.l0 k x8 x9 (wrap64 (x10 + 1))) else (some false))) else (none)) else (none)) else (some true)
def variorumlaw36_light.f (k : Nat) (l0 : List (List (S49))) : Option (Bool) := if (l0.length : Int) > 12 then (some false) else (variorumlaw36_light.l0 k l0 (l0.length : Int) 0)
set_option maxHeartbeats 8000000 in
set_option maxRecDepth 100000 in
theorem variorumlaw36_light.calls (k : Nat) (A0 : Option Addr) (c0 : Nat) (l0 : List (List (S49))) (r : Bool) (w : World) (hr0 : Kd.C (Kd.slice 49 k49) w A0 l0.length l0) (hc0 : l0.length ≤ c0) (h : variorumlaw36_light.f k l0 = some r) :
  Calls Try.prog 7 #[.slice A0 l0.length c0] w fun e w' => e = .returned (.bool r) ∧ Below w.heap.size w w' := by
 have HR0 := Aside0.mk hr0
 have HC0 := Aside0.mk hc0
 clear hr0 hc0
 have HB := Aside0.mk (Below.refl w.heap.size w)
 have H : (if (l0.length : Int) > 12 then (some false) else (variorumlaw36_light.l0 k l0 (l0.length : Int) 0)) = some r := h
 clear h
 by_cases c2 : (l0.length : Int) > 12
 ·rw [if_pos c2] at H
  have c2b0 : decide (12 < (l0.length : Int)) = true := decide_eq_true c2
  have c2b1 : decide (12 < l0.length) = true := decide_eq_true (by omega)
  clear c2
  obtain rfl := Option.some.inj H
  go_enter Try.func7, Try.ntmps7
  go_wp2
  go_ret
  exact ⟨by (rfl), by repeat ((with_reducible (exact HB.out)))⟩
 ·rw [if_neg c2] at H
  have c2b0 : decide (12 < (l0.length : Int)) = false := decide_eq_false c2
  have c2b1 : decide (12 < l0.length) = false := decide_eq_false (by omega)
  clear c2
  have H' := Aside0.mk H
  clear H
  go_enter Try.func7, Try.ntmps7
  go_wp2
  go_loopg [10] k (fun kq v10 w' => ∃ (x10_1 : Int), v10 = .int .i64 x10_1 ∧ Aside0 (variorumlaw36_light.l0 kq l0 (l0.length : Int) x10_1 = some r) ∧ Aside0 (kq ≤ k) ∧ Aside0 (Below w.heap.size w w'))
  case atStart => exact ⟨(0), (by (rfl)), H', ⟨Nat.le_refl _⟩, ⟨by repeat ((with_reducible (exact HB.out)))⟩⟩
  case round =>
   clear H'
   try clear c2
   try clear c2b0
   try clear c2b1
   try clear p2
   obtain ⟨x10_1, rfl, HA, HK1, HB⟩ := hrel
   cases gk with
   | zero => exact absurd HA.out (by simp [variorumlaw36_light.l0])
   | succ k1 =>
    have H := HA.out
    clear HA
    simp only [variorumlaw36_light.l0] at H
    by_cases c3 : x10_1 < (l0.length : Int)
    ·rw [if_pos c3] at H
     have c3b0 : decide (x10_1 < (l0.length : Int)) = true := decide_eq_true c3
     clear c3
     by_cases c4 : 0 ≤ x10_1
     ·rw [if_pos c4] at H
      have c4b0 : decide (0 ≤ x10_1) = true := decide_eq_true c4
      clear c4
      by_cases c5 : x10_1 < (l0.length : Int)
      ·rw [if_pos c5] at H
       have c5b0 : decide (x10_1 < (l0.length : Int)) = true := decide_eq_true c5
       clear c5
       replace H := Option.bind_eq_some_iff.mp H
       obtain ⟨t119, A60, H⟩ := H
       replace H : (if t119 = true then (variorumlaw36_light.l0 k1 l0 (l0.length : Int) (wrap64 (x10_1 + 1))) else (some false)) = some r := H
       have A6 := Aside0.mk A60
       clear A60
       by_cases c7 : t119 = true
       ·subst c7
        have H1 : (variorumlaw36_light.l0 k1 l0 (l0.length : Int) (wrap64 (x10_1 + 1))) = some r := by rw [if_pos rfl] at H; exact H
        clear H
        have H := H1
        clear H1
        have H' := Aside0.mk H
        clear H
        have p118 : 0 ≤ (x10_1 : Int) := of_decide_eq_true (by (with_reducible assumption))
        have q118 : x10_1 < (l0.length : Int) := of_decide_eq_true (by (with_reducible assumption))
        obtain ⟨ad118, A118_0, c118_0, e118, hx118_0, hl118_0, hi118_0⟩ := at_L3 HR0.out x10_1 p118 q118
        cases e118
        replace hx118_0 := (HB.out.cell (World.block_lt_of_cell? w _ hx118_0)).trans hx118_0
        have HR118_0 := Aside0.mk hi118_0
        have HC118_0 := Aside0.mk hl118_0
        clear hi118_0 hl118_0
        replace p118 := eq_true p118
        replace q118 := eq_true q118
        go_wp2_with (first | ((with_reducible refine gate_callee (f := 22) rfl ?_); refine goesL_ (some 15) rfl rfl Try.func22 (by kernel_rfl) rfl #[.slice A118_0 (rd_L3 l0 x10_1).length c118_0] rfl (by (try simp only [List.map_toArray, List.map_cons, List.map_nil]); (rfl)) ?_; (with_reducible refine (variorumlaw09_Few.calls k1 _ _ (rd_L3 l0 x10_1) true _ ?side1 ?side2 A6.out).mono ?_); (case side1 => repeat ((exact (Kd.C_below HR118_0.out HB.out)))); (case side2 => exact HC118_0.out); rintro e w8 ⟨rfl, hb⟩; refine ⟨_, rfl, ?_⟩; have n0_ := Aside0.mk (below_step (by repeat ((with_reducible (exact HB.out)))) hb); clear HB; have HB := n0_; clear n0_; (try clear hb); (try clear hb2); (try clear hk); (try clear hi)))
        go_roundg k1
        case measure => have := HK1.out; omega
        case rel => exact ⟨(wrap64 (x10_1 + 1)), (by (rfl)), H', ⟨by have := HK1.out; omega⟩, ⟨by repeat ((with_reducible (exact HB.out)))⟩⟩
       ·replace c7 := Bool.eq_false_iff.mpr c7
        subst c7
        have H1 : (some false) = some r := by rw [if_neg (show ¬ (false = true) by decide)] at H; exact H
        clear H
        have H := H1
        clear H1
        obtain rfl := Option.some.inj H
        have p118 : 0 ≤ (x10_1 : Int) := of_decide_eq_true (by (with_reducible assumption))
        have q118 : x10_1 < (l0.length : Int) := of_decide_eq_true (by (with_reducible assumption))
        obtain ⟨ad118, A118_0, c118_0, e118, hx118_0, hl118_0, hi118_0⟩ := at_L3 HR0.out x10_1 p118 q118
        cases e118
        replace hx118_0 := (HB.out.cell (World.block_lt_of_cell? w _ hx118_0)).trans hx118_0
        have HR118_0 := Aside0.mk hi118_0
        have HC118_0 := Aside0.mk hl118_0
        clear hi118_0 hl118_0
        replace p118 := eq_true p118
        replace q118 := eq_true q118
        go_wp2_with (first | ((with_reducible refine gate_callee (f := 22) rfl ?_); refine goesL_ (some 15) rfl rfl Try.func22 (by kernel_rfl) rfl #[.slice A118_0 (rd_L3 l0 x10_1).length c118_0] rfl (by (try simp only [List.map_toArray, List.map_cons, List.map_nil]); (rfl)) ?_; (with_reducible refine (variorumlaw09_Few.calls k1 _ _ (rd_L3 l0 x10_1) false _ ?side1 ?side2 A6.out).mono ?_); (case side1 => repeat ((exact (Kd.C_below HR118_0.out HB.out)))); (case side2 => exact HC118_0.out); rintro e w9 ⟨rfl, hb⟩; refine ⟨_, rfl, ?_⟩; have n0_ := Aside0.mk (below_step (by repeat ((with_reducible (exact HB.out)))) hb); clear HB; have HB := n0_; clear n0_; (try clear hb); (try clear hb2); (try clear hk); (try clear hi)))
        go_ret
        exact ⟨by (rfl), by repeat ((with_reducible (exact HB.out)))⟩
      ·rw [if_neg c5] at H
       exact absurd H (by simp)
     ·rw [if_neg c4] at H
      exact absurd H (by simp)
    ·rw [if_neg c3] at H
     have c3b0 : decide (x10_1 < (l0.length : Int)) = false := decide_eq_false c3
     clear c3
     obtain rfl := Option.some.inj H
     go_wp2
     go_ret
     exact ⟨by (rfl), by repeat ((with_reducible (exact HB.out)))⟩
end Go.Proofs.Ytjbnffadfohofaa.P
end
-- MERGED YtjbnffadfohofaaCarryM
section
namespace Go.Proofs.Ytjbnffadfohofaa.CarryM
open Go.RowKit Go.Proofs.Ytjbnffadfohofaa.P Go.Proofs.YtjbnffadfohofaaW.PrintWords Go.Proofs.YtjbnffadfohofaaW.PrintLast Go.Proofs.YtjbnffadfohofaaW.PrintMore Go.Proofs.Ytjbnffadfohofaa.EditL Go.Proofs.Ytjbnffadfohofaa.EditK Go.Proofs.Ytjbnffadfohofaa.PlaceF Go.Proofs.Ytjbnffadfohofaa.PlaceOv Go.Proofs.Ytjbnffadfohofaa.NoteN Go.Proofs.Ytjbnffadfohofaa.CarryN
set_option linter.unusedSimpArgs false
set_option linter.unusedVariables false
theorem nt_at {l pre suf : List Nt} {r : Nt} (h : l = pre ++ r :: suf) : rd_T44 l (pre.length : Int) = r := by
 subst h
 unfold rd_T44
 rw [Int.toNat_natCast, List.getD_eq_getElem?_getD, List.getElem?_append_right (Nat.le_refl _), Nat.sub_self]; rfl
def mv (ops : List (List Rn)) (x : Nt) : Nt := ⟨⟨(overS ops x.f0.f0 x.f0.f1).1, (overS ops x.f0.f0 x.f0.f1).2.1⟩, x.f1⟩
def okN (ops : List (List Rn)) (x : Nt) : Bool := (overS ops x.f0.f0 x.f0.f1).2.2
def moveS (ops : List (List Rn)) (l : List Nt) : List Nt × Bool := cond (l.all (okN ops)) (l.map (mv ops), true) ([], false)
theorem move_l (ops : List (List Rn)) (ho : ops.length ≤ 12) (hf : ∀ op ∈ ops, Fw op) (l : List Nt) (hl : l.length ≤ 1000) : ∀ (suf pre : List Nt) (k : Nat) (acc : List Nt), l = pre ++ suf → suf.length + 9000 < k → acc.length + suf.length ≤ 1000 →
  carry_Move.l0 k ops acc l (l.length : Int) (pre.length : Int) = some (cond (suf.all (okN ops)) (acc ++ suf.map (mv ops), true) ([], false)) := by
 intro suf
 induction suf with
 | nil =>
  intro pre k acc hfe hk ha
  obtain ⟨k, rfl⟩ : ∃ m, k = m + 1 := ⟨k - 1, by omega⟩
  have : l.length = pre.length := by rw [hfe]; simp
  simp only [carry_Move.l0]
  rw [if_neg (by omega)]; simp
 | cons r suf ih =>
  intro pre k acc hfe hk ha
  obtain ⟨k, rfl⟩ : ∃ m, k = m + 1 := ⟨k - 1, by omega⟩
  obtain ⟨hl2, hn, hlt⟩ := snoc' hfe
  simp only [List.length_cons] at hk ha
  have next := ih (pre ++ [r]) k (acc ++ [mv ops r]) hl2 (by omega) (by simp; omega)
  rw [hn] at next
  simp only [carry_Move.l0]
  rw [if_pos hlt, if_pos (by omega), if_pos hlt, nt_at hfe, over_f ops ho hf k (by omega), Option.bind_some, List.all_cons]
  show (if (okN ops r) = true then _ else _) = _
  cases h : okN ops r with
  | false => rw [if_neg Bool.false_ne_true]; rfl
  | true =>
   rw [if_pos rfl, if_pos (by omega), w64 (x := (pre.length : Int) + 1) (by omega) (by omega)]
   refine next.trans ?_
   rw [Bool.true_and, List.map_cons, List.append_assoc]; rfl
theorem move_f (ops : List (List Rn)) (ho : ops.length ≤ 12) (hf : ∀ op ∈ ops, Fw op) (l : List Nt) (hl : l.length ≤ 1000) (k : Nat) (hk : 11000 ≤ k) : carry_Move.f k l ops = some (moveS ops l) := by
 have := move_l ops ho hf l hl l [] k [] rfl (by omega) (by simpa using hl)
 rw [List.nil_append] at this
 exact this
theorem light_l (l : List (List Rn)) (hl : l.length ≤ 12) : ∀ (suf pre : List (List Rn)) (k : Nat), l = pre ++ suf → suf.length + 300 < k → ∃ b, variorumlaw36_light.l0 k l (l.length : Int) (pre.length : Int) = some b ∧ (b = true → ∀ op ∈ suf, Fw op) := by
 intro suf
 induction suf with
 | nil =>
  intro pre k hfe hk
  obtain ⟨k, rfl⟩ : ∃ m, k = m + 1 := ⟨k - 1, by omega⟩
  have : l.length = pre.length := by rw [hfe]; simp
  simp only [variorumlaw36_light.l0]
  rw [if_neg (by omega)]
  exact ⟨true, rfl, fun _ r hr => by cases hr⟩
 | cons r suf ih =>
  intro pre k hfe hk
  obtain ⟨k, rfl⟩ : ∃ m, k = m + 1 := ⟨k - 1, by omega⟩
  obtain ⟨hl2, hn, hlt⟩ := snoc' hfe
  obtain ⟨t, h1, h2⟩ := few_f r k (by simp at hk; omega)
  simp only [variorumlaw36_light.l0]
  rw [if_pos hlt, if_pos (by omega), if_pos hlt, op_at hfe, h1, Option.bind_some, w64 (x := (pre.length : Int) + 1) (by omega) (by omega)]
  cases t with
  | false => rw [if_neg Bool.false_ne_true]; exact ⟨false, rfl, fun h => by cases h⟩
  | true =>
   obtain ⟨b, hb, hb2⟩ := ih (pre ++ [r]) k hl2 (by simp at hk; omega)
   rw [hn] at hb
   rw [if_pos rfl, hb]
   refine ⟨b, rfl, fun e x hx => ?_⟩
   rcases List.mem_cons.1 hx with rfl | hx
   ·exact h2 rfl
   ·exact hb2 e x hx
theorem light_f (l : List (List Rn)) (k : Nat) (hk : 1000 < k) : ∃ b, variorumlaw36_light.f k l = some b ∧ (b = true → l.length ≤ 12 ∧ ∀ op ∈ l, Fw op) := by
 unfold variorumlaw36_light.f
 by_cases h : (l.length : Int) > 12
 ·rw [if_pos h]; exact ⟨false, rfl, fun h => by cases h⟩
 ·rw [if_neg h]
  obtain ⟨b, h1, h2⟩ := light_l l (by omega) l [] k rfl (by omega)
  exact ⟨b, h1, fun e => ⟨by omega, h2 e⟩⟩
def mkN (x : (Int × Int) × Int) : Nt := ⟨⟨x.1.1, x.1.2⟩, x.2⟩
end Go.Proofs.Ytjbnffadfohofaa.CarryM
end
-- MERGED YtjbnffadfohofaaPvariorumref11Less
section
namespace Go.Proofs.Ytjbnffadfohofaa.P
open Go.RowKit Go.Proofs.YtjbnffadfohofaaW.PrintWords Go.Proofs.YtjbnffadfohofaaW.PrintLast Go.Proofs.YtjbnffadfohofaaW.PrintMore
attribute [local go_sem] max2_int min2_int max_two min_two max_three min_three max_four min_four   -- for this text's walks alone
set_option linter.unusedVariables false
set_option linter.unusedSimpArgs false
def variorumref11_Less.f (a0_0 : Int) (a0_1 : Int) (a0_2 : Int) (a1_0 : Int) (a1_1 : Int) (a1_2 : Int) : Option (Bool) := if a0_0 = a1_0 then (if a0_1 = a1_1 then (some (decide (a0_2 < a1_2))) else (some (decide (a0_1 < a1_1)))) else (some (decide (a0_0 < a1_0)))
end Go.Proofs.Ytjbnffadfohofaa.P
end
-- MERGED YtjbnffadfohofaaPvariorumref11Notes
section
namespace Go.Proofs.Ytjbnffadfohofaa.P
open Go.RowKit Go.Proofs.YtjbnffadfohofaaW.PrintWords Go.Proofs.YtjbnffadfohofaaW.PrintLast Go.Proofs.YtjbnffadfohofaaW.PrintMore
attribute [local go_sem] max2_int min2_int max_two min_two max_three min_three max_four min_four   -- for this text's walks alone
set_option linter.unusedVariables false
set_option linter.unusedSimpArgs false
def variorumref11_Notes.l0 : Nat → List (S44) → Int → Option (Bool)
 | 0, _, _ => none
 | k + 1, x0, x3 => if x3 < (x0.length : Int) then (if 0 ≤ x3 then (if ((rd_T44 x0 x3).f0.f0) < 0 then (some false) else (if ((rd_T44 x0 x3).f0.f0) > ((rd_T44 x0 x3).f0.f1) then (some false) else (if ((rd_T44 x0 x3).f0.f1) > 16777216 then (some false) else (if ((rd_T44 x0 x3).f1) < 0 then (some false) else (if ((rd_T44 x0 x3).f1) > 65536 then (some false) else (if x3 > 0 then (if 0 ≤ (wrap64 (x3 - 1)) then (if (wrap64 (x3 - 1)) < (x0.length : Int) then ((variorumref11_Less.f ((rd_T44 x0 (wrap64 (x3 - 1))).f0.f0) ((rd_T44 x0 (wrap64 (x3 - 1))).f0.f1) ((rd_T44 x0 (wrap64 (x3 - 1))).f1) ((rd_T44 x0 x3).f0.f0) ((rd_T44 x0 x3).f0.f1) ((rd_T44 x0 x3).f1)).bind fun t293 => (if t293 = true then (variorumref11_Notes.l0 k x0 (wrap64 (x3 + 1))) else (some false))) else (none)) else (none)) else (variorumref11_Notes.l0 k x0 (wrap64 (x3 + 1))))))))) else (none)) else (some true)
def variorumref11_Notes.f (k : Nat) (l0 : List (S44)) : Option (Bool) := if (l0.length : Int) > 4096 then (some false) else (variorumref11_Notes.l0 k l0 0)
end Go.Proofs.Ytjbnffadfohofaa.P
end
-- MERGED YtjbnffadfohofaaCarryR
namespace Go.Proofs.Ytjbnffadfohofaa.CarryR
end Go.Proofs.Ytjbnffadfohofaa.CarryR
-- MERGED YtjbnffadfohofaaPmessagefields
section
namespace Go.Proofs.Ytjbnffadfohofaa.P
open Go.RowKit Go.Proofs.YtjbnffadfohofaaW.PrintWords Go.Proofs.YtjbnffadfohofaaW.PrintLast Go.Proofs.YtjbnffadfohofaaW.PrintMore
attribute [local go_sem] max2_int min2_int max_two min_two max_three min_three max_four min_four   -- for this text's walks alone
set_option linter.unusedVariables false
set_option linter.unusedSimpArgs false
def message_fields.f (a0 : Int) : Option (List Int) := if a0 = 1 then (some (([0, 1, 2, 3] : List Int))) else (if a0 = 2 then (some (([0, 2, 3, 5] : List Int))) else (if a0 = 3 then (some (([2, 3] : List Int))) else (if a0 = 4 then (some (([2, 3, 6] : List Int))) else (if a0 = 5 then (some (([2, 7] : List Int))) else (if a0 = 6 then (some (([1] : List Int))) else (if a0 = 7 then (some (([4] : List Int))) else (some ([] : List Int))))))))
set_option maxHeartbeats 8000000 in
set_option maxRecDepth 100000 in
theorem message_fields.calls (a0 : Int) (r : List Int) (w : World) (h : message_fields.f a0 = some r) :
  Calls Try.prog 37 #[.int .i64 a0] w fun e w' => ∃ v0_ : Value, e = .returned (v0_) ∧ Kd.R (Kd.int .i64) 70 w' w.heap.size (fun _ => True) v0_ r ∧ Below w.heap.size w w' := by
 have HB := Aside0.mk (Below.refl w.heap.size w)
 have H : (if a0 = 1 then (some (([0, 1, 2, 3] : List Int))) else (if a0 = 2 then (some (([0, 2, 3, 5] : List Int))) else (if a0 = 3 then (some (([2, 3] : List Int))) else (if a0 = 4 then (some (([2, 3, 6] : List Int))) else (if a0 = 5 then (some (([2, 7] : List Int))) else (if a0 = 6 then (some (([1] : List Int))) else (if a0 = 7 then (some (([4] : List Int))) else (some ([] : List Int))))))))) = some r := h
 clear h
 by_cases c2 : a0 = 1
 ·rw [if_pos c2] at H
  have c2b0 : (a0 == 1) = true := beq_iff_eq.mpr c2
  have c2b1 : (a0 != 1) = false := bne_eq_false_iff_eq.mpr c2
  clear c2
  obtain ⟨y120, hy120⟩ : ∃ y_ : List Int, y_ = (([0, 1, 2, 3] : List Int)) := ⟨_, rfl⟩
  replace H : (some y120) = some r := by (rw [hy120]; with_reducible exact H)
  have Ny120 := Aside0.mk hy120
  clear hy120
  obtain rfl := Option.some.inj H
  go_enter Try.func37, Try.ntmps37
  go_wp2_with (first | ((with_reducible refine gate_dst (N := 6) rfl ?_); refine Kd.R_lit (Kd.int .i64) _ 70 ?hg (N := 6) ?hd (xs := ([0, 1, 2, 3] : List Int)) (inner := [.int .i64 0, .int .i64 1, .int .i64 2, .int .i64 3]) (ok := fun _ => True) (okp := fun _ => True) ?hr ?hp (fun _ hk => hk) trivial (Below.refl _ _) (Nat.le_refl _) (by simp) ?_; (case hd => rfl); (case hg => rfl); (case hr => (go_simp; done)); (case hp => exact (Reps.one (show Kd.M (Kd.int .i64) _ _ _ 0 [.int .i64 0] from rfl) (Reps.one (show Kd.M (Kd.int .i64) _ _ _ 1 [.int .i64 1] from rfl) (Reps.one (show Kd.M (Kd.int .i64) _ _ _ 2 [.int .i64 2] from rfl) (Reps.one (show Kd.M (Kd.int .i64) _ _ _ 3 [.int .i64 3] from rfl) (Reps.none _ _)))))); intro v121 w3 ho4 hb hg_ hnew_; clear hg_ hnew_; ((rw [← Ny120.out] at ho4)); have n0_ := Aside0.mk (Kd.R_lower ho4 (below_size (by repeat ((with_reducible (exact HB.out)))))); have n1_ := Aside0.mk (below_step (by repeat ((with_reducible (exact HB.out)))) hb); clear HB; have HO122 := n0_; have HB := n1_; clear n0_ n1_; clear hb ho4))
  go_ret
  exact ⟨_, by (rfl), by (with_reducible repeat ((apply Kd.R_drew))); exact HO122.out, by repeat ((with_reducible (exact HB.out)))⟩
 ·rw [if_neg c2] at H
  have c2b0 : (a0 == 1) = false := beq_eq_false_iff_ne.mpr c2
  have c2b1 : (a0 != 1) = true := bne_iff_ne.mpr c2
  by_cases c5 : a0 = 2
  ·rw [if_pos c5] at H
   have c5b0 : (a0 == 2) = true := beq_iff_eq.mpr c5
   have c5b1 : (a0 != 2) = false := bne_eq_false_iff_eq.mpr c5
   clear c5
   obtain ⟨y123, hy123⟩ : ∃ y_ : List Int, y_ = (([0, 2, 3, 5] : List Int)) := ⟨_, rfl⟩
   replace H : (some y123) = some r := by (rw [hy123]; with_reducible exact H)
   have Ny123 := Aside0.mk hy123
   clear hy123
   obtain rfl := Option.some.inj H
   go_enter Try.func37, Try.ntmps37
   go_wp2_with (first | ((with_reducible refine gate_dst (N := 9) rfl ?_); refine Kd.R_lit (Kd.int .i64) _ 70 ?hg (N := 9) ?hd (xs := ([0, 2, 3, 5] : List Int)) (inner := [.int .i64 0, .int .i64 2, .int .i64 3, .int .i64 5]) (ok := fun _ => True) (okp := fun _ => True) ?hr ?hp (fun _ hk => hk) trivial (Below.refl _ _) (Nat.le_refl _) (by simp) ?_; (case hd => rfl); (case hg => rfl); (case hr => (go_simp; done)); (case hp => exact (Reps.one (show Kd.M (Kd.int .i64) _ _ _ 0 [.int .i64 0] from rfl) (Reps.one (show Kd.M (Kd.int .i64) _ _ _ 2 [.int .i64 2] from rfl) (Reps.one (show Kd.M (Kd.int .i64) _ _ _ 3 [.int .i64 3] from rfl) (Reps.one (show Kd.M (Kd.int .i64) _ _ _ 5 [.int .i64 5] from rfl) (Reps.none _ _)))))); intro v124 w6 ho7 hb hg_ hnew_; clear hg_ hnew_; ((rw [← Ny123.out] at ho7)); have n0_ := Aside0.mk (Kd.R_lower ho7 (below_size (by repeat ((with_reducible (exact HB.out)))))); have n1_ := Aside0.mk (below_step (by repeat ((with_reducible (exact HB.out)))) hb); clear HB; have HO125 := n0_; have HB := n1_; clear n0_ n1_; clear hb ho7))
   go_ret
   exact ⟨_, by (rfl), by (with_reducible repeat ((apply Kd.R_drew))); exact HO125.out, by repeat ((with_reducible (exact HB.out)))⟩
  ·rw [if_neg c5] at H
   have c5b0 : (a0 == 2) = false := beq_eq_false_iff_ne.mpr c5
   have c5b1 : (a0 != 2) = true := bne_iff_ne.mpr c5
   by_cases c8 : a0 = 3
   ·rw [if_pos c8] at H
    have c8b0 : (a0 == 3) = true := beq_iff_eq.mpr c8
    have c8b1 : (a0 != 3) = false := bne_eq_false_iff_eq.mpr c8
    clear c8
    obtain ⟨y126, hy126⟩ : ∃ y_ : List Int, y_ = (([2, 3] : List Int)) := ⟨_, rfl⟩
    replace H : (some y126) = some r := by (rw [hy126]; with_reducible exact H)
    have Ny126 := Aside0.mk hy126
    clear hy126
    obtain rfl := Option.some.inj H
    go_enter Try.func37, Try.ntmps37
    go_wp2_with (first | ((with_reducible refine gate_dst (N := 12) rfl ?_); refine Kd.R_lit (Kd.int .i64) _ 70 ?hg (N := 12) ?hd (xs := ([2, 3] : List Int)) (inner := [.int .i64 2, .int .i64 3]) (ok := fun _ => True) (okp := fun _ => True) ?hr ?hp (fun _ hk => hk) trivial (Below.refl _ _) (Nat.le_refl _) (by simp) ?_; (case hd => rfl); (case hg => rfl); (case hr => (go_simp; done)); (case hp => exact (Reps.one (show Kd.M (Kd.int .i64) _ _ _ 2 [.int .i64 2] from rfl) (Reps.one (show Kd.M (Kd.int .i64) _ _ _ 3 [.int .i64 3] from rfl) (Reps.none _ _)))); intro v127 w9 ho10 hb hg_ hnew_; clear hg_ hnew_; ((rw [← Ny126.out] at ho10)); have n0_ := Aside0.mk (Kd.R_lower ho10 (below_size (by repeat ((with_reducible (exact HB.out)))))); have n1_ := Aside0.mk (below_step (by repeat ((with_reducible (exact HB.out)))) hb); clear HB; have HO128 := n0_; have HB := n1_; clear n0_ n1_; clear hb ho10))
    go_ret
    exact ⟨_, by (rfl), by (with_reducible repeat ((apply Kd.R_drew))); exact HO128.out, by repeat ((with_reducible (exact HB.out)))⟩
   ·rw [if_neg c8] at H
    have c8b0 : (a0 == 3) = false := beq_eq_false_iff_ne.mpr c8
    have c8b1 : (a0 != 3) = true := bne_iff_ne.mpr c8
    by_cases c11 : a0 = 4
    ·rw [if_pos c11] at H
     have c11b0 : (a0 == 4) = true := beq_iff_eq.mpr c11
     have c11b1 : (a0 != 4) = false := bne_eq_false_iff_eq.mpr c11
     clear c11
     obtain ⟨y129, hy129⟩ : ∃ y_ : List Int, y_ = (([2, 3, 6] : List Int)) := ⟨_, rfl⟩
     replace H : (some y129) = some r := by (rw [hy129]; with_reducible exact H)
     have Ny129 := Aside0.mk hy129
     clear hy129
     obtain rfl := Option.some.inj H
     go_enter Try.func37, Try.ntmps37
     go_wp2_with (first | ((with_reducible refine gate_dst (N := 15) rfl ?_); refine Kd.R_lit (Kd.int .i64) _ 70 ?hg (N := 15) ?hd (xs := ([2, 3, 6] : List Int)) (inner := [.int .i64 2, .int .i64 3, .int .i64 6]) (ok := fun _ => True) (okp := fun _ => True) ?hr ?hp (fun _ hk => hk) trivial (Below.refl _ _) (Nat.le_refl _) (by simp) ?_; (case hd => rfl); (case hg => rfl); (case hr => (go_simp; done)); (case hp => exact (Reps.one (show Kd.M (Kd.int .i64) _ _ _ 2 [.int .i64 2] from rfl) (Reps.one (show Kd.M (Kd.int .i64) _ _ _ 3 [.int .i64 3] from rfl) (Reps.one (show Kd.M (Kd.int .i64) _ _ _ 6 [.int .i64 6] from rfl) (Reps.none _ _))))); intro v130 w12 ho13 hb hg_ hnew_; clear hg_ hnew_; ((rw [← Ny129.out] at ho13)); have n0_ := Aside0.mk (Kd.R_lower ho13 (below_size (by repeat ((with_reducible (exact HB.out)))))); have n1_ := Aside0.mk (below_step (by repeat ((with_reducible (exact HB.out)))) hb); clear HB; have HO131 := n0_; have HB := n1_; clear n0_ n1_; clear hb ho13))
     go_ret
     exact ⟨_, by (rfl), by (with_reducible repeat ((apply Kd.R_drew))); exact HO131.out, by repeat ((with_reducible (exact HB.out)))⟩
    ·rw [if_neg c11] at H
     have c11b0 : (a0 == 4) = false := beq_eq_false_iff_ne.mpr c11
     have c11b1 : (a0 != 4) = true := bne_iff_ne.mpr c11
     by_cases c14 : a0 = 5
     ·rw [if_pos c14] at H
      have c14b0 : (a0 == 5) = true := beq_iff_eq.mpr c14
      have c14b1 : (a0 != 5) = false := bne_eq_false_iff_eq.mpr c14
      clear c14
      obtain ⟨y132, hy132⟩ : ∃ y_ : List Int, y_ = (([2, 7] : List Int)) := ⟨_, rfl⟩
      replace H : (some y132) = some r := by (rw [hy132]; with_reducible exact H)
      have Ny132 := Aside0.mk hy132
      clear hy132
      obtain rfl := Option.some.inj H
      go_enter Try.func37, Try.ntmps37
      go_wp2_with (first | ((with_reducible refine gate_dst (N := 18) rfl ?_); refine Kd.R_lit (Kd.int .i64) _ 70 ?hg (N := 18) ?hd (xs := ([2, 7] : List Int)) (inner := [.int .i64 2, .int .i64 7]) (ok := fun _ => True) (okp := fun _ => True) ?hr ?hp (fun _ hk => hk) trivial (Below.refl _ _) (Nat.le_refl _) (by simp) ?_; (case hd => rfl); (case hg => rfl); (case hr => (go_simp; done)); (case hp => exact (Reps.one (show Kd.M (Kd.int .i64) _ _ _ 2 [.int .i64 2] from rfl) (Reps.one (show Kd.M (Kd.int .i64) _ _ _ 7 [.int .i64 7] from rfl) (Reps.none _ _)))); intro v133 w15 ho16 hb hg_ hnew_; clear hg_ hnew_; ((rw [← Ny132.out] at ho16)); have n0_ := Aside0.mk (Kd.R_lower ho16 (below_size (by repeat ((with_reducible (exact HB.out)))))); have n1_ := Aside0.mk (below_step (by repeat ((with_reducible (exact HB.out)))) hb); clear HB; have HO134 := n0_; have HB := n1_; clear n0_ n1_; clear hb ho16))
      go_ret
      exact ⟨_, by (rfl), by (with_reducible repeat ((apply Kd.R_drew))); exact HO134.out, by repeat ((with_reducible (exact HB.out)))⟩
     ·rw [if_neg c14] at H
      have c14b0 : (a0 == 5) = false := beq_eq_false_iff_ne.mpr c14
      have c14b1 : (a0 != 5) = true := bne_iff_ne.mpr c14
      by_cases c17 : a0 = 6
      ·rw [if_pos c17] at H
       have c17b0 : (a0 == 6) = true := beq_iff_eq.mpr c17
       have c17b1 : (a0 != 6) = false := bne_eq_false_iff_eq.mpr c17
       clear c17
       obtain ⟨y135, hy135⟩ : ∃ y_ : List Int, y_ = (([1] : List Int)) := ⟨_, rfl⟩
       replace H : (some y135) = some r := by (rw [hy135]; with_reducible exact H)
       have Ny135 := Aside0.mk hy135
       clear hy135
       obtain rfl := Option.some.inj H
       go_enter Try.func37, Try.ntmps37
       go_wp2_with (first | ((with_reducible refine gate_dst (N := 21) rfl ?_); refine Kd.R_lit (Kd.int .i64) _ 70 ?hg (N := 21) ?hd (xs := ([1] : List Int)) (inner := [.int .i64 1]) (ok := fun _ => True) (okp := fun _ => True) ?hr ?hp (fun _ hk => hk) trivial (Below.refl _ _) (Nat.le_refl _) (by simp) ?_; (case hd => rfl); (case hg => rfl); (case hr => (go_simp; done)); (case hp => exact (Reps.one (show Kd.M (Kd.int .i64) _ _ _ 1 [.int .i64 1] from rfl) (Reps.none _ _))); intro v136 w18 ho19 hb hg_ hnew_; clear hg_ hnew_; ((rw [← Ny135.out] at ho19)); have n0_ := Aside0.mk (Kd.R_lower ho19 (below_size (by repeat ((with_reducible (exact HB.out)))))); have n1_ := Aside0.mk (below_step (by repeat ((with_reducible (exact HB.out)))) hb); clear HB; have HO137 := n0_; have HB := n1_; clear n0_ n1_; clear hb ho19))
       go_ret
       exact ⟨_, by (rfl), by (with_reducible repeat ((apply Kd.R_drew))); exact HO137.out, by repeat ((with_reducible (exact HB.out)))⟩
      ·rw [if_neg c17] at H
       have c17b0 : (a0 == 6) = false := beq_eq_false_iff_ne.mpr c17
       have c17b1 : (a0 != 6) = true := bne_iff_ne.mpr c17
       by_cases c20 : a0 = 7
       ·rw [if_pos c20] at H
        have c20b0 : (a0 == 7) = true := beq_iff_eq.mpr c20
        have c20b1 : (a0 != 7) = false := bne_eq_false_iff_eq.mpr c20
        clear c20
        obtain ⟨y138, hy138⟩ : ∃ y_ : List Int, y_ = (([4] : List Int)) := ⟨_, rfl⟩
        replace H : (some y138) = some r := by (rw [hy138]; with_reducible exact H)
        have Ny138 := Aside0.mk hy138
        clear hy138
        obtain rfl := Option.some.inj H
        go_enter Try.func37, Try.ntmps37
        go_wp2_with (first | ((with_reducible refine gate_dst (N := 24) rfl ?_); refine Kd.R_lit (Kd.int .i64) _ 70 ?hg (N := 24) ?hd (xs := ([4] : List Int)) (inner := [.int .i64 4]) (ok := fun _ => True) (okp := fun _ => True) ?hr ?hp (fun _ hk => hk) trivial (Below.refl _ _) (Nat.le_refl _) (by simp) ?_; (case hd => rfl); (case hg => rfl); (case hr => (go_simp; done)); (case hp => exact (Reps.one (show Kd.M (Kd.int .i64) _ _ _ 4 [.int .i64 4] from rfl) (Reps.none _ _))); intro v139 w21 ho22 hb hg_ hnew_; clear hg_ hnew_; ((rw [← Ny138.out] at ho22)); have n0_ := Aside0.mk (Kd.R_lower ho22 (below_size (by repeat ((with_reducible (exact HB.out)))))); have n1_ := Aside0.mk (below_step (by repeat ((with_reducible (exact HB.out)))) hb); clear HB; have HO140 := n0_; have HB := n1_; clear n0_ n1_; clear hb ho22))
        go_ret
        exact ⟨_, by (rfl), by (with_reducible repeat ((apply Kd.R_drew))); exact HO140.out, by repeat ((with_reducible (exact HB.out)))⟩
       ·rw [if_neg c20] at H
        have c20b0 : (a0 == 7) = false := beq_eq_false_iff_ne.mpr c20
        have c20b1 : (a0 != 7) = true := bne_iff_ne.mpr c20
        obtain rfl := Option.some.inj H
        go_enter Try.func37, Try.ntmps37
        go_wp2
        go_ret
        exact ⟨_, by (rfl), by (exact Kd.R_nil _ _ _ _ _), by repeat ((with_reducible (exact HB.out)))⟩
end Go.Proofs.Ytjbnffadfohofaa.P
end
-- MERGED YtjbnffadfohofaaPmessageless
section
namespace Go.Proofs.Ytjbnffadfohofaa.P
open Go.RowKit Go.Proofs.YtjbnffadfohofaaW.PrintWords Go.Proofs.YtjbnffadfohofaaW.PrintLast Go.Proofs.YtjbnffadfohofaaW.PrintMore
attribute [local go_sem] max2_int min2_int max_two min_two max_three min_three max_four min_four   -- for this text's walks alone
set_option linter.unusedVariables false
set_option linter.unusedSimpArgs false
def message_less.f (a0_0 : Int) (a0_1 : Int) (a0_2 : Int) (a1_0 : Int) (a1_1 : Int) (a1_2 : Int) : Option (Bool) := if a0_0 = a1_0 then (if a0_1 = a1_1 then (some (decide (a0_2 < a1_2))) else (some (decide (a0_1 < a1_1)))) else (some (decide (a0_0 < a1_0)))
set_option maxHeartbeats 8000000 in
set_option maxRecDepth 100000 in
theorem message_less.calls (a0_0 : Int) (a0_1 : Int) (a0_2 : Int) (a1_0 : Int) (a1_1 : Int) (a1_2 : Int) (r : Bool) (w : World) (h : message_less.f a0_0 a0_1 a0_2 a1_0 a1_1 a1_2 = some r) :
  Calls Try.prog 55 #[.agg #[.int .i64 a0_0, .int .i64 a0_1, .int .i64 a0_2], .agg #[.int .i64 a1_0, .int .i64 a1_1, .int .i64 a1_2]] w fun e w' => e = .returned (.bool r) ∧ Below w.heap.size w w' := by
 have hu44 := Try.underlying44
 have HB := Aside0.mk (Below.refl w.heap.size w)
 have H : (if a0_0 = a1_0 then (if a0_1 = a1_1 then (some (decide (a0_2 < a1_2))) else (some (decide (a0_1 < a1_1)))) else (some (decide (a0_0 < a1_0)))) = some r := h
 clear h
 by_cases c3 : a0_0 = a1_0
 ·rw [if_pos c3] at H
  have c3b0 : (a0_0 == a1_0) = true := beq_iff_eq.mpr c3
  have c3b1 : (a0_0 != a1_0) = false := bne_eq_false_iff_eq.mpr c3
  clear c3
  by_cases c4 : a0_1 = a1_1
  ·rw [if_pos c4] at H
   have c4b0 : (a0_1 == a1_1) = true := beq_iff_eq.mpr c4
   have c4b1 : (a0_1 != a1_1) = false := bne_eq_false_iff_eq.mpr c4
   clear c4
   obtain rfl := Option.some.inj H
   go_enter Try.func55, Try.ntmps55
   go_wp2_with (first | ((with_reducible refine gate_dst (N := 2) rfl ?_); refine box_event ?hg (N := 2) ?hd (cs := #[.int .i64 a0_0, .int .i64 a0_1, .int .i64 a0_2]) (t := 44) ?hr ?_; (case hd => rfl); (case hg => rfl); (case hr => (go_simp; done)); intro gb150 hg w5 hbox hb; have n0_ := Aside0.mk (below_step (by repeat ((with_reducible (exact HB.out)))) hb); have n1_ := Aside0.mk (hbox); have n2_ := Aside0.mk ((by rw [hg]; exact (below_size (by repeat ((with_reducible (exact HB.out))))) : w.heap.size ≤ gb150)); have n3_ := Aside0.mk ((by rw [hg]; exact (below_size (by repeat ((with_reducible (exact HB.out))))) : w.heap.size ≤ gb150)); clear HB; have HB := n0_; have BK150 := n1_; have GW150 := n2_; have GE150 := n3_; clear n0_ n1_ n2_ n3_; clear hb hbox hg) | ((with_reducible refine gate_dst (N := 3) rfl ?_); refine box_event ?hg (N := 3) ?hd (cs := #[.int .i64 a1_0, .int .i64 a1_1, .int .i64 a1_2]) (t := 44) ?hr ?_; (case hd => rfl); (case hg => rfl); (case hr => (go_simp; done)); intro gb151 hg w6 hbox hb; have n0_ := Aside0.mk (blk_below (g := gb150) (o := .cells #[.int .i64 a0_0, .int .i64 a0_1, .int .i64 a0_2] 44 (0, 0)) (by (with_reducible repeat ((refine blk_drew ?_))); exact BK150.out) hb); have n1_ := Aside0.mk (below_step (by repeat ((with_reducible (exact HB.out)))) hb); have n2_ := Aside0.mk (hbox); have n3_ := Aside0.mk ((by rw [hg]; exact (below_size (by repeat ((with_reducible (exact HB.out))))) : w.heap.size ≤ gb151)); have n4_ := Aside0.mk ((by rw [hg]; exact (below_size (by repeat ((with_reducible (exact HB.out))))) : w.heap.size ≤ gb151)); have n5_ := Aside0.mk ((by rw [hg]; exact Nat.ne_of_lt (blk_lt (g := gb150) (o := .cells #[.int .i64 a0_0, .int .i64 a0_1, .int .i64 a0_2] 44 (0, 0)) (by (with_reducible repeat ((refine blk_drew ?_))); exact BK150.out)) : gb150 ≠ gb151)); have n6_ := Aside0.mk ((by rw [hg]; exact Nat.ne_of_gt (blk_lt (g := gb150) (o := .cells #[.int .i64 a0_0, .int .i64 a0_1, .int .i64 a0_2] 44 (0, 0)) (by (with_reducible repeat ((refine blk_drew ?_))); exact BK150.out)) : gb151 ≠ gb150)); clear BK150; clear HB; have BK150 := n0_; have HB := n1_; have BK151 := n2_; have GW151 := n3_; have GE151 := n4_; have NB150_151 := n5_; have NB151_150 := n6_; clear n0_ n1_ n2_ n3_ n4_ n5_ n6_; clear hb hbox hg; have hnb7 := NB150_151.out; have hnc7 := NB151_150.out; have hcz8_0 : w6.cell? ⟨gb150, 0, none⟩ = some (.int .i64 a0_0) := (blk_cell BK150.out 0).trans rfl; have hcz8_1 : w6.cell? ⟨gb150, 1, none⟩ = some (.int .i64 a0_1) := (blk_cell BK150.out 1).trans rfl; have hcz8_2 : w6.cell? ⟨gb150, 2, none⟩ = some (.int .i64 a0_2) := (blk_cell BK150.out 2).trans rfl; have hfz8_0 := blk_frozen BK150.out 0; have hfz8_1 := blk_frozen BK150.out 1; have hfz8_2 := blk_frozen BK150.out 2; have hcz9_0 : w6.cell? ⟨gb151, 0, none⟩ = some (.int .i64 a1_0) := (blk_cell BK151.out 0).trans rfl; have hcz9_1 : w6.cell? ⟨gb151, 1, none⟩ = some (.int .i64 a1_1) := (blk_cell BK151.out 1).trans rfl; have hcz9_2 : w6.cell? ⟨gb151, 2, none⟩ = some (.int .i64 a1_2) := (blk_cell BK151.out 2).trans rfl; have hfz9_0 := blk_frozen BK151.out 0; have hfz9_1 := blk_frozen BK151.out 1; have hfz9_2 := blk_frozen BK151.out 2))
   go_ret
   exact ⟨by (rfl), by repeat ((with_reducible (exact HB.out)))⟩
  ·rw [if_neg c4] at H
   have c4b0 : (a0_1 == a1_1) = false := beq_eq_false_iff_ne.mpr c4
   have c4b1 : (a0_1 != a1_1) = true := bne_iff_ne.mpr c4
   obtain rfl := Option.some.inj H
   go_enter Try.func55, Try.ntmps55
   go_wp2_with (first | ((with_reducible refine gate_dst (N := 2) rfl ?_); refine box_event ?hg (N := 2) ?hd (cs := #[.int .i64 a0_0, .int .i64 a0_1, .int .i64 a0_2]) (t := 44) ?hr ?_; (case hd => rfl); (case hg => rfl); (case hr => (go_simp; done)); intro gb150 hg w10 hbox hb; have n0_ := Aside0.mk (below_step (by repeat ((with_reducible (exact HB.out)))) hb); have n1_ := Aside0.mk (hbox); have n2_ := Aside0.mk ((by rw [hg]; exact (below_size (by repeat ((with_reducible (exact HB.out))))) : w.heap.size ≤ gb150)); have n3_ := Aside0.mk ((by rw [hg]; exact (below_size (by repeat ((with_reducible (exact HB.out))))) : w.heap.size ≤ gb150)); clear HB; have HB := n0_; have BK150 := n1_; have GW150 := n2_; have GE150 := n3_; clear n0_ n1_ n2_ n3_; clear hb hbox hg) | ((with_reducible refine gate_dst (N := 3) rfl ?_); refine box_event ?hg (N := 3) ?hd (cs := #[.int .i64 a1_0, .int .i64 a1_1, .int .i64 a1_2]) (t := 44) ?hr ?_; (case hd => rfl); (case hg => rfl); (case hr => (go_simp; done)); intro gb151 hg w11 hbox hb; have n0_ := Aside0.mk (blk_below (g := gb150) (o := .cells #[.int .i64 a0_0, .int .i64 a0_1, .int .i64 a0_2] 44 (0, 0)) (by (with_reducible repeat ((refine blk_drew ?_))); exact BK150.out) hb); have n1_ := Aside0.mk (below_step (by repeat ((with_reducible (exact HB.out)))) hb); have n2_ := Aside0.mk (hbox); have n3_ := Aside0.mk ((by rw [hg]; exact (below_size (by repeat ((with_reducible (exact HB.out))))) : w.heap.size ≤ gb151)); have n4_ := Aside0.mk ((by rw [hg]; exact (below_size (by repeat ((with_reducible (exact HB.out))))) : w.heap.size ≤ gb151)); have n5_ := Aside0.mk ((by rw [hg]; exact Nat.ne_of_lt (blk_lt (g := gb150) (o := .cells #[.int .i64 a0_0, .int .i64 a0_1, .int .i64 a0_2] 44 (0, 0)) (by (with_reducible repeat ((refine blk_drew ?_))); exact BK150.out)) : gb150 ≠ gb151)); have n6_ := Aside0.mk ((by rw [hg]; exact Nat.ne_of_gt (blk_lt (g := gb150) (o := .cells #[.int .i64 a0_0, .int .i64 a0_1, .int .i64 a0_2] 44 (0, 0)) (by (with_reducible repeat ((refine blk_drew ?_))); exact BK150.out)) : gb151 ≠ gb150)); clear BK150; clear HB; have BK150 := n0_; have HB := n1_; have BK151 := n2_; have GW151 := n3_; have GE151 := n4_; have NB150_151 := n5_; have NB151_150 := n6_; clear n0_ n1_ n2_ n3_ n4_ n5_ n6_; clear hb hbox hg; have hnb12 := NB150_151.out; have hnc12 := NB151_150.out; have hcz13_0 : w11.cell? ⟨gb150, 0, none⟩ = some (.int .i64 a0_0) := (blk_cell BK150.out 0).trans rfl; have hcz13_1 : w11.cell? ⟨gb150, 1, none⟩ = some (.int .i64 a0_1) := (blk_cell BK150.out 1).trans rfl; have hcz13_2 : w11.cell? ⟨gb150, 2, none⟩ = some (.int .i64 a0_2) := (blk_cell BK150.out 2).trans rfl; have hfz13_0 := blk_frozen BK150.out 0; have hfz13_1 := blk_frozen BK150.out 1; have hfz13_2 := blk_frozen BK150.out 2; have hcz14_0 : w11.cell? ⟨gb151, 0, none⟩ = some (.int .i64 a1_0) := (blk_cell BK151.out 0).trans rfl; have hcz14_1 : w11.cell? ⟨gb151, 1, none⟩ = some (.int .i64 a1_1) := (blk_cell BK151.out 1).trans rfl; have hcz14_2 : w11.cell? ⟨gb151, 2, none⟩ = some (.int .i64 a1_2) := (blk_cell BK151.out 2).trans rfl; have hfz14_0 := blk_frozen BK151.out 0; have hfz14_1 := blk_frozen BK151.out 1; have hfz14_2 := blk_frozen BK151.out 2))
   go_ret
   exact ⟨by (rfl), by repeat ((with_reducible (exact HB.out)))⟩
 ·rw [if_neg c3] at H
  have c3b0 : (a0_0 == a1_0) = false := beq_eq_false_iff_ne.mpr c3
  have c3b1 : (a0_0 != a1_0) = true := bne_iff_ne.mpr c3
  obtain rfl := Option.some.inj H
  go_enter Try.func55, Try.ntmps55
  go_wp2_with (first | ((with_reducible refine gate_dst (N := 2) rfl ?_); refine box_event ?hg (N := 2) ?hd (cs := #[.int .i64 a0_0, .int .i64 a0_1, .int .i64 a0_2]) (t := 44) ?hr ?_; (case hd => rfl); (case hg => rfl); (case hr => (go_simp; done)); intro gb150 hg w15 hbox hb; have n0_ := Aside0.mk (below_step (by repeat ((with_reducible (exact HB.out)))) hb); have n1_ := Aside0.mk (hbox); have n2_ := Aside0.mk ((by rw [hg]; exact (below_size (by repeat ((with_reducible (exact HB.out))))) : w.heap.size ≤ gb150)); have n3_ := Aside0.mk ((by rw [hg]; exact (below_size (by repeat ((with_reducible (exact HB.out))))) : w.heap.size ≤ gb150)); clear HB; have HB := n0_; have BK150 := n1_; have GW150 := n2_; have GE150 := n3_; clear n0_ n1_ n2_ n3_; clear hb hbox hg) | ((with_reducible refine gate_dst (N := 3) rfl ?_); refine box_event ?hg (N := 3) ?hd (cs := #[.int .i64 a1_0, .int .i64 a1_1, .int .i64 a1_2]) (t := 44) ?hr ?_; (case hd => rfl); (case hg => rfl); (case hr => (go_simp; done)); intro gb151 hg w16 hbox hb; have n0_ := Aside0.mk (blk_below (g := gb150) (o := .cells #[.int .i64 a0_0, .int .i64 a0_1, .int .i64 a0_2] 44 (0, 0)) (by (with_reducible repeat ((refine blk_drew ?_))); exact BK150.out) hb); have n1_ := Aside0.mk (below_step (by repeat ((with_reducible (exact HB.out)))) hb); have n2_ := Aside0.mk (hbox); have n3_ := Aside0.mk ((by rw [hg]; exact (below_size (by repeat ((with_reducible (exact HB.out))))) : w.heap.size ≤ gb151)); have n4_ := Aside0.mk ((by rw [hg]; exact (below_size (by repeat ((with_reducible (exact HB.out))))) : w.heap.size ≤ gb151)); have n5_ := Aside0.mk ((by rw [hg]; exact Nat.ne_of_lt (blk_lt (g := gb150) (o := .cells #[.int .i64 a0_0, .int .i64 a0_1, .int .i64 a0_2] 44 (0, 0)) (by (with_reducible repeat ((refine blk_drew ?_))); exact BK150.out)) : gb150 ≠ gb151)); have n6_ := Aside0.mk ((by rw [hg]; exact Nat.ne_of_gt (blk_lt (g := gb150) (o := .cells #[.int .i64 a0_0, .int .i64 a0_1, .int .i64 a0_2] 44 (0, 0)) (by (with_reducible repeat ((refine blk_drew ?_))); exact BK150.out)) : gb151 ≠ gb150)); clear BK150; clear HB; have BK150 := n0_; have HB := n1_; have BK151 := n2_; have GW151 := n3_; have GE151 := n4_; have NB150_151 := n5_; have NB151_150 := n6_; clear n0_ n1_ n2_ n3_ n4_ n5_ n6_; clear hb hbox hg; have hnb17 := NB150_151.out; have hnc17 := NB151_150.out; have hcz18_0 : w16.cell? ⟨gb150, 0, none⟩ = some (.int .i64 a0_0) := (blk_cell BK150.out 0).trans rfl; have hcz18_1 : w16.cell? ⟨gb150, 1, none⟩ = some (.int .i64 a0_1) := (blk_cell BK150.out 1).trans rfl; have hcz18_2 : w16.cell? ⟨gb150, 2, none⟩ = some (.int .i64 a0_2) := (blk_cell BK150.out 2).trans rfl; have hfz18_0 := blk_frozen BK150.out 0; have hfz18_1 := blk_frozen BK150.out 1; have hfz18_2 := blk_frozen BK150.out 2; have hcz19_0 : w16.cell? ⟨gb151, 0, none⟩ = some (.int .i64 a1_0) := (blk_cell BK151.out 0).trans rfl; have hcz19_1 : w16.cell? ⟨gb151, 1, none⟩ = some (.int .i64 a1_1) := (blk_cell BK151.out 1).trans rfl; have hcz19_2 : w16.cell? ⟨gb151, 2, none⟩ = some (.int .i64 a1_2) := (blk_cell BK151.out 2).trans rfl; have hfz19_0 := blk_frozen BK151.out 0; have hfz19_1 := blk_frozen BK151.out 1; have hfz19_2 := blk_frozen BK151.out 2))
  go_ret
  exact ⟨by (rfl), by repeat ((with_reducible (exact HB.out)))⟩
end Go.Proofs.Ytjbnffadfohofaa.P
end
-- MERGED YtjbnffadfohofaaPmessagefine
section
namespace Go.Proofs.Ytjbnffadfohofaa.P
open Go.RowKit Go.Proofs.YtjbnffadfohofaaW.PrintWords Go.Proofs.YtjbnffadfohofaaW.PrintLast Go.Proofs.YtjbnffadfohofaaW.PrintMore
attribute [local go_sem] max2_int min2_int max_two min_two max_three min_three max_four min_four   -- for this text's walks alone
set_option linter.unusedVariables false
set_option linter.unusedSimpArgs false
mutual
def message_fine.l0 : Nat → List (S44) → List (S44) → Int → Int → Option (Bool)
 | 0, _, _, _, _ => none
 | k + 1, x0, x5, x6, x7 => if x7 < x6 then (if 0 ≤ x7 then (if x7 < (x5.length : Int) then (if ((rd_T44 x5 x7).f0.f0) < 0 then (message_fine.j1 k x0 x7 x5 x6 x7 true ((rd_T44 x5 x7).f0.f0) ((rd_T44 x5 x7).f0.f1) ((rd_T44 x5 x7).f1)) else (if ((rd_T44 x5 x7).f0.f0) > ((rd_T44 x5 x7).f0.f1) then (message_fine.j1 k x0 x7 x5 x6 x7 true ((rd_T44 x5 x7).f0.f0) ((rd_T44 x5 x7).f0.f1) ((rd_T44 x5 x7).f1)) else (message_fine.j1 k x0 x7 x5 x6 x7 (decide (((rd_T44 x5 x7).f0.f1) > 16777216)) ((rd_T44 x5 x7).f0.f0) ((rd_T44 x5 x7).f0.f1) ((rd_T44 x5 x7).f1)))) else (none)) else (none)) else (some (decide ((x0.length : Int) ≤ 4096)))
def message_fine.j1 : Nat → List (S44) → Int → List (S44) → Int → Int → Bool → Int → Int → Int → Option (Bool)
 | 0, _, _, _, _, _, _, _, _, _ => none
 | k + 1, x0, x3, x5, x6, x7, x12, x154000, x154001, x154002 => if x12 = true then (some false) else (if x154002 < 0 then (some false) else (if x154002 > 65536 then (some false) else (if x3 > 0 then (if 0 ≤ (wrap64 (x3 - 1)) then (if (wrap64 (x3 - 1)) < (x0.length : Int) then ((message_less.f ((rd_T44 x0 (wrap64 (x3 - 1))).f0.f0) ((rd_T44 x0 (wrap64 (x3 - 1))).f0.f1) ((rd_T44 x0 (wrap64 (x3 - 1))).f1) x154000 x154001 x154002).bind fun t155 => (if t155 = true then (message_fine.l0 k x0 x5 x6 (wrap64 (x7 + 1))) else (some false))) else (none)) else (none)) else (message_fine.l0 k x0 x5 x6 (wrap64 (x7 + 1))))))
end
def message_fine.f (k : Nat) (l0 : List (S44)) : Option (Bool) := message_fine.l0 k l0 l0 (l0.length : Int) 0
end Go.Proofs.Ytjbnffadfohofaa.P
end
-- MERGED YtjbnffadfohofaaMsgA
section
namespace Go.Proofs.Ytjbnffadfohofaa.MsgA
open Go.RowKit Go.Proofs.Ytjbnffadfohofaa.P Go.Proofs.YtjbnffadfohofaaW.PrintWords Go.Proofs.YtjbnffadfohofaaW.PrintLast Go.Proofs.YtjbnffadfohofaaW.PrintMore Go.Proofs.Ytjbnffadfohofaa.Own
set_option linter.unusedSimpArgs false
set_option linter.unusedVariables false
structure Mg where
 k : Int
 c : Int
 e : Int
 r : Int
 s : Int
 d : Int
 o : Value
 t : ByteArray
 n : Value
def Mg.cs (m : Mg) : Array Value := #[.int .i64 m.k, .int .i64 m.c, .int .i64 m.e, .int .i64 m.r, .int .i64 m.s, .int .i64 m.d, m.o, .string m.t, m.n]
def Mg.val (m : Mg) : Value := .agg m.cs
def most (f : Nat) : Int := if f = 0 then 63 else if f = 4 then 65536 else 4611686018427387904
set_option maxHeartbeats 2000000 in
set_option maxRecDepth 100000 in
theorem num_c (B f : Nat) (hf : f < 5) (w : World) : Calls Try.prog 49 #[.pointer (some ⟨B, 0, none⟩), .int .i64 (f : Int)] w fun e w' => e = .returned (.tuple #[.pointer (some ⟨B, f + 1, none⟩), .int .i64 (most f)]) ∧ w' = w := by
 have h : f = 0 ∨ f = 1 ∨ f = 2 ∨ f = 3 ∨ f = 4 := by omega
 rcases h with rfl | rfl | rfl | rfl | rfl <;>
 ·go_enter Try.func49, Try.ntmps49
  go_wp2_with fail
  go_ret2
  exact ⟨rfl, rfl⟩
def Mg.strip (m : Mg) (f : Nat) : Mg :=
 if f = 0 then { m with c := 0 } else if f = 1 then { m with e := 0 } else if f = 2 then { m with r := 0 } else if f = 3 then { m with s := 0 } else if f = 4 then { m with d := 0 }
 else if f = 5 then { m with o := .slice none 0 0 } else if f = 6 then { m with t := ⟨#[]⟩ } else { m with n := .slice none 0 0 }
def Mg.get (m : Mg) (f : Nat) : Int := if f = 0 then m.c else if f = 1 then m.e else if f = 2 then m.r else if f = 3 then m.s else m.d
def Mg.ok (m : Mg) (go gn : Bool) (f : Nat) : Bool := if f < 5 then decide (0 ≤ m.get f) && decide (m.get f ≤ most f) else if f = 5 then go else if f = 6 then decide (m.t.size ≤ 16777216) else gn
def Blk (B : Nat) (m : Mg) (w : World) : Prop := w.heap[B]? = some (.cells m.cs 60 (0, 0))
theorem Blk.cells {B : Nat} {m : Mg} {w : World} (h : Blk B m w) : (w.cell? ⟨B, 0, none⟩ = some (.int .i64 m.k) ∧ w.cell? ⟨B, 1, none⟩ = some (.int .i64 m.c) ∧ w.cell? ⟨B, 2, none⟩ = some (.int .i64 m.e) ∧ w.cell? ⟨B, 3, none⟩ = some (.int .i64 m.r) ∧ w.cell? ⟨B, 4, none⟩ = some (.int .i64 m.s) ∧ w.cell? ⟨B, 5, none⟩ = some (.int .i64 m.d)) ∧ w.cell? ⟨B, 6, none⟩ = some m.o ∧ w.cell? ⟨B, 7, none⟩ = some (.string m.t) ∧ w.cell? ⟨B, 8, none⟩ = some m.n := by
 unfold Blk at h
 refine ⟨⟨?_, ?_, ?_, ?_, ?_, ?_⟩, ?_, ?_, ?_⟩ <;> (rw [cell_of_row w _ _ _ _ _ h]; rfl)
theorem Blk.fz {B : Nat} {m : Mg} {w : World} (h : Blk B m w) (o : Nat) : w.frozen? ⟨B, o, none⟩ = false := frozen_of_row w _ o _ _ h
theorem Blk.lt {B : Nat} {m : Mg} {w : World} (h : Blk B m w) : B < w.heap.size := (Array.getElem?_eq_some_iff.1 h).1
theorem Blk.below {B : Nat} {m : Mg} {w w' : World} (h : Blk B m w) (hb : Below w.heap.size w w') : Blk B m w' := (hb.block _ h.lt).trans h
theorem Blk.strip0 {B f : Nat} {m : Mg} {w : World} (h : Blk B m w) (hf : f < 5) : Blk B (m.strip f) (w.setCell ⟨B, f + 1, none⟩ (.int .i64 0)) := by
 have hq : f = 0 ∨ f = 1 ∨ f = 2 ∨ f = 3 ∨ f = 4 := by omega
 rcases hq with rfl | rfl | rfl | rfl | rfl <;> exact heap_setCell_same w B _ _ _ _ h
theorem Blk.strip5 {B : Nat} {m : Mg} {w : World} (h : Blk B m w) : Blk B (m.strip 5) (w.setCell ⟨B, 6, none⟩ (.slice none 0 0)) := heap_setCell_same w B _ _ _ _ h
theorem Blk.strip6 {B : Nat} {m : Mg} {w : World} (h : Blk B m w) : Blk B (m.strip 6) (w.setCell ⟨B, 7, none⟩ (.string ⟨#[]⟩)) := heap_setCell_same w B _ _ _ _ h
theorem Blk.strip7 {B : Nat} {m : Mg} {w : World} (h : Blk B m w) : Blk B (m.strip 7) (w.setCell ⟨B, 8, none⟩ (.slice none 0 0)) := heap_setCell_same w B _ _ _ _ h
theorem set9 {B : Nat} {w : World} {T : TypeId} {a0 a1 a2 a3 a4 a5 a6 a7 a8 : Value} (h : w.heap[B]? = some (.cells #[a0, a1, a2, a3, a4, a5, a6, a7, a8] T (0, 0))) (y0 y1 y2 y3 y4 y5 y6 y7 y8 : Value) : (((((((((w.setCell ⟨B, 0, none⟩ y0).setCell ⟨B, 1, none⟩ y1).setCell ⟨B, 2, none⟩ y2).setCell ⟨B, 3, none⟩ y3).setCell ⟨B, 4, none⟩ y4).setCell ⟨B, 5, none⟩ y5).setCell ⟨B, 6, none⟩ y6).setCell ⟨B, 7, none⟩ y7).setCell ⟨B, 8, none⟩ y8).heap[B]? = some (.cells #[y0, y1, y2, y3, y4, y5, y6, y7, y8] T (0, 0)) := by
 have h0 : (w.setCell ⟨B, 0, none⟩ y0).heap[B]? = some (.cells #[y0, a1, a2, a3, a4, a5, a6, a7, a8] T (0, 0)) := heap_setCell_same w B 0 _ _ y0 h
 have h1 : ((w.setCell ⟨B, 0, none⟩ y0).setCell ⟨B, 1, none⟩ y1).heap[B]? = some (.cells #[y0, y1, a2, a3, a4, a5, a6, a7, a8] T (0, 0)) := heap_setCell_same (w.setCell ⟨B, 0, none⟩ y0) B 1 _ _ y1 h0
 have h2 : (((w.setCell ⟨B, 0, none⟩ y0).setCell ⟨B, 1, none⟩ y1).setCell ⟨B, 2, none⟩ y2).heap[B]? = some (.cells #[y0, y1, y2, a3, a4, a5, a6, a7, a8] T (0, 0)) := heap_setCell_same ((w.setCell ⟨B, 0, none⟩ y0).setCell ⟨B, 1, none⟩ y1) B 2 _ _ y2 h1
 have h3 : ((((w.setCell ⟨B, 0, none⟩ y0).setCell ⟨B, 1, none⟩ y1).setCell ⟨B, 2, none⟩ y2).setCell ⟨B, 3, none⟩ y3).heap[B]? = some (.cells #[y0, y1, y2, y3, a4, a5, a6, a7, a8] T (0, 0)) := heap_setCell_same (((w.setCell ⟨B, 0, none⟩ y0).setCell ⟨B, 1, none⟩ y1).setCell ⟨B, 2, none⟩ y2) B 3 _ _ y3 h2
 have h4 : (((((w.setCell ⟨B, 0, none⟩ y0).setCell ⟨B, 1, none⟩ y1).setCell ⟨B, 2, none⟩ y2).setCell ⟨B, 3, none⟩ y3).setCell ⟨B, 4, none⟩ y4).heap[B]? = some (.cells #[y0, y1, y2, y3, y4, a5, a6, a7, a8] T (0, 0)) := heap_setCell_same ((((w.setCell ⟨B, 0, none⟩ y0).setCell ⟨B, 1, none⟩ y1).setCell ⟨B, 2, none⟩ y2).setCell ⟨B, 3, none⟩ y3) B 4 _ _ y4 h3
 have h5 : ((((((w.setCell ⟨B, 0, none⟩ y0).setCell ⟨B, 1, none⟩ y1).setCell ⟨B, 2, none⟩ y2).setCell ⟨B, 3, none⟩ y3).setCell ⟨B, 4, none⟩ y4).setCell ⟨B, 5, none⟩ y5).heap[B]? = some (.cells #[y0, y1, y2, y3, y4, y5, a6, a7, a8] T (0, 0)) := heap_setCell_same (((((w.setCell ⟨B, 0, none⟩ y0).setCell ⟨B, 1, none⟩ y1).setCell ⟨B, 2, none⟩ y2).setCell ⟨B, 3, none⟩ y3).setCell ⟨B, 4, none⟩ y4) B 5 _ _ y5 h4
 have h6 : (((((((w.setCell ⟨B, 0, none⟩ y0).setCell ⟨B, 1, none⟩ y1).setCell ⟨B, 2, none⟩ y2).setCell ⟨B, 3, none⟩ y3).setCell ⟨B, 4, none⟩ y4).setCell ⟨B, 5, none⟩ y5).setCell ⟨B, 6, none⟩ y6).heap[B]? = some (.cells #[y0, y1, y2, y3, y4, y5, y6, a7, a8] T (0, 0)) := heap_setCell_same ((((((w.setCell ⟨B, 0, none⟩ y0).setCell ⟨B, 1, none⟩ y1).setCell ⟨B, 2, none⟩ y2).setCell ⟨B, 3, none⟩ y3).setCell ⟨B, 4, none⟩ y4).setCell ⟨B, 5, none⟩ y5) B 6 _ _ y6 h5
 have h7 : ((((((((w.setCell ⟨B, 0, none⟩ y0).setCell ⟨B, 1, none⟩ y1).setCell ⟨B, 2, none⟩ y2).setCell ⟨B, 3, none⟩ y3).setCell ⟨B, 4, none⟩ y4).setCell ⟨B, 5, none⟩ y5).setCell ⟨B, 6, none⟩ y6).setCell ⟨B, 7, none⟩ y7).heap[B]? = some (.cells #[y0, y1, y2, y3, y4, y5, y6, y7, a8] T (0, 0)) := heap_setCell_same (((((((w.setCell ⟨B, 0, none⟩ y0).setCell ⟨B, 1, none⟩ y1).setCell ⟨B, 2, none⟩ y2).setCell ⟨B, 3, none⟩ y3).setCell ⟨B, 4, none⟩ y4).setCell ⟨B, 5, none⟩ y5).setCell ⟨B, 6, none⟩ y6) B 7 _ _ y7 h6
 have h8 : (((((((((w.setCell ⟨B, 0, none⟩ y0).setCell ⟨B, 1, none⟩ y1).setCell ⟨B, 2, none⟩ y2).setCell ⟨B, 3, none⟩ y3).setCell ⟨B, 4, none⟩ y4).setCell ⟨B, 5, none⟩ y5).setCell ⟨B, 6, none⟩ y6).setCell ⟨B, 7, none⟩ y7).setCell ⟨B, 8, none⟩ y8).heap[B]? = some (.cells #[y0, y1, y2, y3, y4, y5, y6, y7, y8] T (0, 0)) := heap_setCell_same ((((((((w.setCell ⟨B, 0, none⟩ y0).setCell ⟨B, 1, none⟩ y1).setCell ⟨B, 2, none⟩ y2).setCell ⟨B, 3, none⟩ y3).setCell ⟨B, 4, none⟩ y4).setCell ⟨B, 5, none⟩ y5).setCell ⟨B, 6, none⟩ y6).setCell ⟨B, 7, none⟩ y7) B 8 _ _ y8 h7
 exact h8
theorem Blk.set {B : Nat} {m' : Mg} {w : World} (h : Blk B m' w) (k c e r s d : Int) (o : Value) (t : ByteArray) (n : Value) : Blk B ⟨k, c, e, r, s, d, o, t, n⟩ (((((((((w.setCell ⟨B, 0, none⟩ (.int .i64 k)).setCell ⟨B, 1, none⟩ (.int .i64 c)).setCell ⟨B, 2, none⟩ (.int .i64 e)).setCell ⟨B, 3, none⟩ (.int .i64 r)).setCell ⟨B, 4, none⟩ (.int .i64 s)).setCell ⟨B, 5, none⟩ (.int .i64 d)).setCell ⟨B, 6, none⟩ o).setCell ⟨B, 7, none⟩ (.string t)).setCell ⟨B, 8, none⟩ n) := set9 h _ _ _ _ _ _ _ _ _
theorem below_set9 {B0 : Nat} {a w : World} (h : Below B0 a w) {B : Nat} (hq : B0 ≤ B) (y0 y1 y2 y3 y4 y5 y6 y7 y8 : Value) : Below B0 a (((((((((w.setCell ⟨B, 0, none⟩ y0).setCell ⟨B, 1, none⟩ y1).setCell ⟨B, 2, none⟩ y2).setCell ⟨B, 3, none⟩ y3).setCell ⟨B, 4, none⟩ y4).setCell ⟨B, 5, none⟩ y5).setCell ⟨B, 6, none⟩ y6).setCell ⟨B, 7, none⟩ y7).setCell ⟨B, 8, none⟩ y8) :=
 ((((((((h.setCell (p := ⟨B, 0, none⟩) hq y0).setCell (p := ⟨B, 1, none⟩) hq y1).setCell (p := ⟨B, 2, none⟩) hq y2).setCell (p := ⟨B, 3, none⟩) hq y3).setCell (p := ⟨B, 4, none⟩) hq y4).setCell (p := ⟨B, 5, none⟩) hq y5).setCell (p := ⟨B, 6, none⟩) hq y6).setCell (p := ⟨B, 7, none⟩) hq y7).setCell (p := ⟨B, 8, none⟩) hq y8
end Go.Proofs.Ytjbnffadfohofaa.MsgA
end
-- MERGED YtjbnffadfohofaaMsgB
section
namespace Go.Proofs.Ytjbnffadfohofaa.MsgB
open Go.RowKit Go.Proofs.Ytjbnffadfohofaa.P Go.Proofs.YtjbnffadfohofaaW.PrintWords Go.Proofs.YtjbnffadfohofaaW.PrintLast Go.Proofs.YtjbnffadfohofaaW.PrintMore Go.Proofs.Ytjbnffadfohofaa.Own Go.Proofs.Ytjbnffadfohofaa.MsgA
set_option linter.unusedSimpArgs false
set_option linter.unusedVariables false
set_option maxHeartbeats 8000000 in
set_option maxRecDepth 100000 in
theorem without_0 (m : Mg) (go gn : Bool) (w : World) (ho : ∃ A n c, m.o = .slice A n c) (hn : ∃ A n c, m.n = .slice A n c) : Calls Try.prog 38 #[m.val, .int .i64 0] w fun e w' => e = .returned (.tuple #[(m.strip 0).val, .bool (m.ok go gn 0)]) ∧ Below w.heap.size w w' := by
 obtain ⟨k, c, e, r, s, d, o, t, n⟩ := m
 obtain ⟨Ao, no, co, rfl⟩ := ho
 obtain ⟨An, nn, cn, rfl⟩ := hn
 obtain ⟨B, hB⟩ : ∃ B, B = w.heap.size := ⟨_, rfl⟩
 obtain ⟨w2, hw2⟩ : ∃ w2, w2 = (w.alloc (.cells #[.int .i64 k, .int .i64 c, .int .i64 e, .int .i64 r, .int .i64 s, .int .i64 d, (.slice Ao no co), .string t, (.slice An nn cn)] 60)).alloc (.cells #[.int .i64 0, .int .i64 0, .int .i64 0, .int .i64 0, .int .i64 0, .int .i64 0, .slice none 0 0, .string ⟨#[]⟩, .slice none 0 0] 60) := ⟨_, rfl⟩
 have HBB0 := Aside0.mk (show Blk B ⟨k, c, e, r, s, d, (.slice Ao no co), t, (.slice An nn cn)⟩ w2 by unfold Blk; rw [hw2, hB, Own.heap_old _ _ _ (by simp)]; exact Own.heap_new _ _)
 have HZZ0 := Aside0.mk (show Blk (B + 1) ⟨0, 0, 0, 0, 0, 0, .slice none 0 0, ⟨#[]⟩, .slice none 0 0⟩ w2 by unfold Blk; rw [hw2, hB]; have := Own.heap_new (w.alloc (.cells #[.int .i64 k, .int .i64 c, .int .i64 e, .int .i64 r, .int .i64 s, .int .i64 d, (.slice Ao no co), .string t, (.slice An nn cn)] 60)) (.cells #[.int .i64 0, .int .i64 0, .int .i64 0, .int .i64 0, .int .i64 0, .int .i64 0, .slice none 0 0, .string ⟨#[]⟩, .slice none 0 0] 60); rwa [World.size_alloc] at this)
 have HLO0 := Aside0.mk (show Below w.heap.size w w2 by rw [hw2]; exact below_alloc (below_alloc (Below.refl _ _) _) _)
 have HW2 := Aside0.mk hw2
 have HBE := Aside0.mk hB
 clear hw2 hB
 go_enter Try.func38, Try.ntmps38
 unfold Mg.val Mg.cs
 go_wp2_with fail
 rw [← HBE.out, ← HW2.out]
 refine (num_c B 0 (by decide) _).mono ?_
 rintro e1 w3 ⟨rfl, rfl⟩
 have HBB := HBB0
 have HZZ := HZZ0
 have HLO := HLO0
 obtain ⟨⟨x0, x1, x2, x3, x4, x5⟩, x6, x7, x8⟩ := HBB.out.cells
 have f0 := HBB.out.fz 1
 clear HBB0 HZZ0 HLO0 HW2
 unfold most
 by_cases h1 : 0 ≤ c
 ·obtain ⟨w9, hw9⟩ : ∃ w9, w9 = w3.setCell ⟨B, 1, none⟩ (.int .i64 0) := ⟨_, rfl⟩
  have HW3 := Aside0.mk hw9
  have b3 : Blk B ⟨k, 0, e, r, s, d, (.slice Ao no co), t, (.slice An nn cn)⟩ w9 := by rw [hw9]; exact HBB.out.strip0 (f := 0) (by decide)
  have z3 : Blk (B + 1) ⟨0, 0, 0, 0, 0, 0, .slice none 0 0, ⟨#[]⟩, .slice none 0 0⟩ w9 := by rw [hw9]; exact (heap_setCell_other w3 ⟨B, 1, none⟩ (B + 1) _ (by show B + 1 ≠ B; omega)).trans HZZ.out
  have HLO3 := Aside0.mk (show Below w.heap.size w w9 by rw [hw9]; exact HLO.out.setCell (p := ⟨B, 1, none⟩) (by have := HBE.out; show w.heap.size ≤ B; omega) _)
  have HZ3 := Aside0.mk z3
  clear hw9 x0 x2 x3 x4 x5 x6 x7 x8
  obtain ⟨⟨y0, y1, y2, y3, y4, y5⟩, y6, y7, y8⟩ := b3.cells
  obtain ⟨⟨z0, z1, z2, z3', z4, z5⟩, z6, z7, z8⟩ := z3.cells
  have g0 := z3.fz 0
  have g1 := z3.fz 1
  have g2 := z3.fz 2
  have g3 := z3.fz 3
  have g4 := z3.fz 4
  have g5 := z3.fz 5
  have g6 := z3.fz 6
  have g7 := z3.fz 7
  have g8 := z3.fz 8
  clear b3 z3
  go_wp2_with (first | rw [← HW3.out])
  refine bodyPost_ret (results_ct rfl _ _ (B + 1) 60 #[.int .i64 k, .int .i64 0, .int .i64 e, .int .i64 r, .int .i64 s, .int .i64 d, (.slice Ao no co), .string t, (.slice An nn cn)] (0, 0) _ rfl (HZ3.out.set k 0 e r s d (.slice Ao no co) t (.slice An nn cn)) Try.underlying60 rfl (by kernel_rfl)) rfl ?_
  exact ⟨by rw [show Mg.ok ⟨k, c, e, r, s, d, (.slice Ao no co), t, (.slice An nn cn)⟩ go gn 0 = decide (c ≤ 63) from by unfold Mg.ok Mg.get most; simp [h1]]; rfl, below_set9 HLO3.out (by have := HBE.out; omega) _ _ _ _ _ _ _ _ _⟩
 ·obtain ⟨w9, hw9⟩ : ∃ w9, w9 = w3.setCell ⟨B, 1, none⟩ (.int .i64 0) := ⟨_, rfl⟩
  have HW3 := Aside0.mk hw9
  have b3 : Blk B ⟨k, 0, e, r, s, d, (.slice Ao no co), t, (.slice An nn cn)⟩ w9 := by rw [hw9]; exact HBB.out.strip0 (f := 0) (by decide)
  have z3 : Blk (B + 1) ⟨0, 0, 0, 0, 0, 0, .slice none 0 0, ⟨#[]⟩, .slice none 0 0⟩ w9 := by rw [hw9]; exact (heap_setCell_other w3 ⟨B, 1, none⟩ (B + 1) _ (by show B + 1 ≠ B; omega)).trans HZZ.out
  have HLO3 := Aside0.mk (show Below w.heap.size w w9 by rw [hw9]; exact HLO.out.setCell (p := ⟨B, 1, none⟩) (by have := HBE.out; show w.heap.size ≤ B; omega) _)
  have HZ3 := Aside0.mk z3
  clear hw9 x0 x2 x3 x4 x5 x6 x7 x8
  obtain ⟨⟨y0, y1, y2, y3, y4, y5⟩, y6, y7, y8⟩ := b3.cells
  obtain ⟨⟨z0, z1, z2, z3', z4, z5⟩, z6, z7, z8⟩ := z3.cells
  have g0 := z3.fz 0
  have g1 := z3.fz 1
  have g2 := z3.fz 2
  have g3 := z3.fz 3
  have g4 := z3.fz 4
  have g5 := z3.fz 5
  have g6 := z3.fz 6
  have g7 := z3.fz 7
  have g8 := z3.fz 8
  clear b3 z3
  go_wp2_with (first | rw [← HW3.out])
  refine bodyPost_ret (results_ct rfl _ _ (B + 1) 60 #[.int .i64 k, .int .i64 0, .int .i64 e, .int .i64 r, .int .i64 s, .int .i64 d, (.slice Ao no co), .string t, (.slice An nn cn)] (0, 0) _ rfl (HZ3.out.set k 0 e r s d (.slice Ao no co) t (.slice An nn cn)) Try.underlying60 rfl (by kernel_rfl)) rfl ?_
  exact ⟨by rw [show Mg.ok ⟨k, c, e, r, s, d, (.slice Ao no co), t, (.slice An nn cn)⟩ go gn 0 = false from by unfold Mg.ok Mg.get most; simp; omega]; rfl, below_set9 HLO3.out (by have := HBE.out; omega) _ _ _ _ _ _ _ _ _⟩
set_option maxHeartbeats 8000000 in
set_option maxRecDepth 100000 in
theorem without_1 (m : Mg) (go gn : Bool) (w : World) (ho : ∃ A n c, m.o = .slice A n c) (hn : ∃ A n c, m.n = .slice A n c) : Calls Try.prog 38 #[m.val, .int .i64 1] w fun e w' => e = .returned (.tuple #[(m.strip 1).val, .bool (m.ok go gn 1)]) ∧ Below w.heap.size w w' := by
 obtain ⟨k, c, e, r, s, d, o, t, n⟩ := m
 obtain ⟨Ao, no, co, rfl⟩ := ho
 obtain ⟨An, nn, cn, rfl⟩ := hn
 obtain ⟨B, hB⟩ : ∃ B, B = w.heap.size := ⟨_, rfl⟩
 obtain ⟨w2, hw2⟩ : ∃ w2, w2 = (w.alloc (.cells #[.int .i64 k, .int .i64 c, .int .i64 e, .int .i64 r, .int .i64 s, .int .i64 d, (.slice Ao no co), .string t, (.slice An nn cn)] 60)).alloc (.cells #[.int .i64 0, .int .i64 0, .int .i64 0, .int .i64 0, .int .i64 0, .int .i64 0, .slice none 0 0, .string ⟨#[]⟩, .slice none 0 0] 60) := ⟨_, rfl⟩
 have HBB0 := Aside0.mk (show Blk B ⟨k, c, e, r, s, d, (.slice Ao no co), t, (.slice An nn cn)⟩ w2 by unfold Blk; rw [hw2, hB, Own.heap_old _ _ _ (by simp)]; exact Own.heap_new _ _)
 have HZZ0 := Aside0.mk (show Blk (B + 1) ⟨0, 0, 0, 0, 0, 0, .slice none 0 0, ⟨#[]⟩, .slice none 0 0⟩ w2 by unfold Blk; rw [hw2, hB]; have := Own.heap_new (w.alloc (.cells #[.int .i64 k, .int .i64 c, .int .i64 e, .int .i64 r, .int .i64 s, .int .i64 d, (.slice Ao no co), .string t, (.slice An nn cn)] 60)) (.cells #[.int .i64 0, .int .i64 0, .int .i64 0, .int .i64 0, .int .i64 0, .int .i64 0, .slice none 0 0, .string ⟨#[]⟩, .slice none 0 0] 60); rwa [World.size_alloc] at this)
 have HLO0 := Aside0.mk (show Below w.heap.size w w2 by rw [hw2]; exact below_alloc (below_alloc (Below.refl _ _) _) _)
 have HW2 := Aside0.mk hw2
 have HBE := Aside0.mk hB
 clear hw2 hB
 go_enter Try.func38, Try.ntmps38
 unfold Mg.val Mg.cs
 go_wp2_with fail
 rw [← HBE.out, ← HW2.out]
 refine (num_c B 1 (by decide) _).mono ?_
 rintro e1 w3 ⟨rfl, rfl⟩
 have HBB := HBB0
 have HZZ := HZZ0
 have HLO := HLO0
 obtain ⟨⟨x0, x1, x2, x3, x4, x5⟩, x6, x7, x8⟩ := HBB.out.cells
 have f0 := HBB.out.fz 2
 clear HBB0 HZZ0 HLO0 HW2
 unfold most
 by_cases h1 : 0 ≤ e
 ·obtain ⟨w9, hw9⟩ : ∃ w9, w9 = w3.setCell ⟨B, 2, none⟩ (.int .i64 0) := ⟨_, rfl⟩
  have HW3 := Aside0.mk hw9
  have b3 : Blk B ⟨k, c, 0, r, s, d, (.slice Ao no co), t, (.slice An nn cn)⟩ w9 := by rw [hw9]; exact HBB.out.strip0 (f := 1) (by decide)
  have z3 : Blk (B + 1) ⟨0, 0, 0, 0, 0, 0, .slice none 0 0, ⟨#[]⟩, .slice none 0 0⟩ w9 := by rw [hw9]; exact (heap_setCell_other w3 ⟨B, 2, none⟩ (B + 1) _ (by show B + 1 ≠ B; omega)).trans HZZ.out
  have HLO3 := Aside0.mk (show Below w.heap.size w w9 by rw [hw9]; exact HLO.out.setCell (p := ⟨B, 2, none⟩) (by have := HBE.out; show w.heap.size ≤ B; omega) _)
  have HZ3 := Aside0.mk z3
  clear hw9 x0 x1 x3 x4 x5 x6 x7 x8
  obtain ⟨⟨y0, y1, y2, y3, y4, y5⟩, y6, y7, y8⟩ := b3.cells
  obtain ⟨⟨z0, z1, z2, z3', z4, z5⟩, z6, z7, z8⟩ := z3.cells
  have g0 := z3.fz 0
  have g1 := z3.fz 1
  have g2 := z3.fz 2
  have g3 := z3.fz 3
  have g4 := z3.fz 4
  have g5 := z3.fz 5
  have g6 := z3.fz 6
  have g7 := z3.fz 7
  have g8 := z3.fz 8
  clear b3 z3
  go_wp2_with (first | rw [← HW3.out])
  refine bodyPost_ret (results_ct rfl _ _ (B + 1) 60 #[.int .i64 k, .int .i64 c, .int .i64 0, .int .i64 r, .int .i64 s, .int .i64 d, (.slice Ao no co), .string t, (.slice An nn cn)] (0, 0) _ rfl (HZ3.out.set k c 0 r s d (.slice Ao no co) t (.slice An nn cn)) Try.underlying60 rfl (by kernel_rfl)) rfl ?_
  exact ⟨by rw [show Mg.ok ⟨k, c, e, r, s, d, (.slice Ao no co), t, (.slice An nn cn)⟩ go gn 1 = decide (e ≤ 4611686018427387904) from by unfold Mg.ok Mg.get most; simp [h1]]; rfl, below_set9 HLO3.out (by have := HBE.out; omega) _ _ _ _ _ _ _ _ _⟩
 ·obtain ⟨w9, hw9⟩ : ∃ w9, w9 = w3.setCell ⟨B, 2, none⟩ (.int .i64 0) := ⟨_, rfl⟩
  have HW3 := Aside0.mk hw9
  have b3 : Blk B ⟨k, c, 0, r, s, d, (.slice Ao no co), t, (.slice An nn cn)⟩ w9 := by rw [hw9]; exact HBB.out.strip0 (f := 1) (by decide)
  have z3 : Blk (B + 1) ⟨0, 0, 0, 0, 0, 0, .slice none 0 0, ⟨#[]⟩, .slice none 0 0⟩ w9 := by rw [hw9]; exact (heap_setCell_other w3 ⟨B, 2, none⟩ (B + 1) _ (by show B + 1 ≠ B; omega)).trans HZZ.out
  have HLO3 := Aside0.mk (show Below w.heap.size w w9 by rw [hw9]; exact HLO.out.setCell (p := ⟨B, 2, none⟩) (by have := HBE.out; show w.heap.size ≤ B; omega) _)
  have HZ3 := Aside0.mk z3
  clear hw9 x0 x1 x3 x4 x5 x6 x7 x8
  obtain ⟨⟨y0, y1, y2, y3, y4, y5⟩, y6, y7, y8⟩ := b3.cells
  obtain ⟨⟨z0, z1, z2, z3', z4, z5⟩, z6, z7, z8⟩ := z3.cells
  have g0 := z3.fz 0
  have g1 := z3.fz 1
  have g2 := z3.fz 2
  have g3 := z3.fz 3
  have g4 := z3.fz 4
  have g5 := z3.fz 5
  have g6 := z3.fz 6
  have g7 := z3.fz 7
  have g8 := z3.fz 8
  clear b3 z3
  go_wp2_with (first | rw [← HW3.out])
  refine bodyPost_ret (results_ct rfl _ _ (B + 1) 60 #[.int .i64 k, .int .i64 c, .int .i64 0, .int .i64 r, .int .i64 s, .int .i64 d, (.slice Ao no co), .string t, (.slice An nn cn)] (0, 0) _ rfl (HZ3.out.set k c 0 r s d (.slice Ao no co) t (.slice An nn cn)) Try.underlying60 rfl (by kernel_rfl)) rfl ?_
  exact ⟨by rw [show Mg.ok ⟨k, c, e, r, s, d, (.slice Ao no co), t, (.slice An nn cn)⟩ go gn 1 = false from by unfold Mg.ok Mg.get most; simp; omega]; rfl, below_set9 HLO3.out (by have := HBE.out; omega) _ _ _ _ _ _ _ _ _⟩
set_option maxHeartbeats 8000000 in
set_option maxRecDepth 100000 in
theorem without_2 (m : Mg) (go gn : Bool) (w : World) (ho : ∃ A n c, m.o = .slice A n c) (hn : ∃ A n c, m.n = .slice A n c) : Calls Try.prog 38 #[m.val, .int .i64 2] w fun e w' => e = .returned (.tuple #[(m.strip 2).val, .bool (m.ok go gn 2)]) ∧ Below w.heap.size w w' := by
 obtain ⟨k, c, e, r, s, d, o, t, n⟩ := m
 obtain ⟨Ao, no, co, rfl⟩ := ho
 obtain ⟨An, nn, cn, rfl⟩ := hn
 obtain ⟨B, hB⟩ : ∃ B, B = w.heap.size := ⟨_, rfl⟩
 obtain ⟨w2, hw2⟩ : ∃ w2, w2 = (w.alloc (.cells #[.int .i64 k, .int .i64 c, .int .i64 e, .int .i64 r, .int .i64 s, .int .i64 d, (.slice Ao no co), .string t, (.slice An nn cn)] 60)).alloc (.cells #[.int .i64 0, .int .i64 0, .int .i64 0, .int .i64 0, .int .i64 0, .int .i64 0, .slice none 0 0, .string ⟨#[]⟩, .slice none 0 0] 60) := ⟨_, rfl⟩
 have HBB0 := Aside0.mk (show Blk B ⟨k, c, e, r, s, d, (.slice Ao no co), t, (.slice An nn cn)⟩ w2 by unfold Blk; rw [hw2, hB, Own.heap_old _ _ _ (by simp)]; exact Own.heap_new _ _)
 have HZZ0 := Aside0.mk (show Blk (B + 1) ⟨0, 0, 0, 0, 0, 0, .slice none 0 0, ⟨#[]⟩, .slice none 0 0⟩ w2 by unfold Blk; rw [hw2, hB]; have := Own.heap_new (w.alloc (.cells #[.int .i64 k, .int .i64 c, .int .i64 e, .int .i64 r, .int .i64 s, .int .i64 d, (.slice Ao no co), .string t, (.slice An nn cn)] 60)) (.cells #[.int .i64 0, .int .i64 0, .int .i64 0, .int .i64 0, .int .i64 0, .int .i64 0, .slice none 0 0, .string ⟨#[]⟩, .slice none 0 0] 60); rwa [World.size_alloc] at this)
 have HLO0 := Aside0.mk (show Below w.heap.size w w2 by rw [hw2]; exact below_alloc (below_alloc (Below.refl _ _) _) _)
 have HW2 := Aside0.mk hw2
 have HBE := Aside0.mk hB
 clear hw2 hB
 go_enter Try.func38, Try.ntmps38
 unfold Mg.val Mg.cs
 go_wp2_with fail
 rw [← HBE.out, ← HW2.out]
 refine (num_c B 2 (by decide) _).mono ?_
 rintro e1 w3 ⟨rfl, rfl⟩
 have HBB := HBB0
 have HZZ := HZZ0
 have HLO := HLO0
 obtain ⟨⟨x0, x1, x2, x3, x4, x5⟩, x6, x7, x8⟩ := HBB.out.cells
 have f0 := HBB.out.fz 3
 clear HBB0 HZZ0 HLO0 HW2
 unfold most
 by_cases h1 : 0 ≤ r
 ·obtain ⟨w9, hw9⟩ : ∃ w9, w9 = w3.setCell ⟨B, 3, none⟩ (.int .i64 0) := ⟨_, rfl⟩
  have HW3 := Aside0.mk hw9
  have b3 : Blk B ⟨k, c, e, 0, s, d, (.slice Ao no co), t, (.slice An nn cn)⟩ w9 := by rw [hw9]; exact HBB.out.strip0 (f := 2) (by decide)
  have z3 : Blk (B + 1) ⟨0, 0, 0, 0, 0, 0, .slice none 0 0, ⟨#[]⟩, .slice none 0 0⟩ w9 := by rw [hw9]; exact (heap_setCell_other w3 ⟨B, 3, none⟩ (B + 1) _ (by show B + 1 ≠ B; omega)).trans HZZ.out
  have HLO3 := Aside0.mk (show Below w.heap.size w w9 by rw [hw9]; exact HLO.out.setCell (p := ⟨B, 3, none⟩) (by have := HBE.out; show w.heap.size ≤ B; omega) _)
  have HZ3 := Aside0.mk z3
  clear hw9 x0 x1 x2 x4 x5 x6 x7 x8
  obtain ⟨⟨y0, y1, y2, y3, y4, y5⟩, y6, y7, y8⟩ := b3.cells
  obtain ⟨⟨z0, z1, z2, z3', z4, z5⟩, z6, z7, z8⟩ := z3.cells
  have g0 := z3.fz 0
  have g1 := z3.fz 1
  have g2 := z3.fz 2
  have g3 := z3.fz 3
  have g4 := z3.fz 4
  have g5 := z3.fz 5
  have g6 := z3.fz 6
  have g7 := z3.fz 7
  have g8 := z3.fz 8
  clear b3 z3
  go_wp2_with (first | rw [← HW3.out])
  refine bodyPost_ret (results_ct rfl _ _ (B + 1) 60 #[.int .i64 k, .int .i64 c, .int .i64 e, .int .i64 0, .int .i64 s, .int .i64 d, (.slice Ao no co), .string t, (.slice An nn cn)] (0, 0) _ rfl (HZ3.out.set k c e 0 s d (.slice Ao no co) t (.slice An nn cn)) Try.underlying60 rfl (by kernel_rfl)) rfl ?_
  exact ⟨by rw [show Mg.ok ⟨k, c, e, r, s, d, (.slice Ao no co), t, (.slice An nn cn)⟩ go gn 2 = decide (r ≤ 4611686018427387904) from by unfold Mg.ok Mg.get most; simp [h1]]; rfl, below_set9 HLO3.out (by have := HBE.out; omega) _ _ _ _ _ _ _ _ _⟩
 ·obtain ⟨w9, hw9⟩ : ∃ w9, w9 = w3.setCell ⟨B, 3, none⟩ (.int .i64 0) := ⟨_, rfl⟩
  have HW3 := Aside0.mk hw9
  have b3 : Blk B ⟨k, c, e, 0, s, d, (.slice Ao no co), t, (.slice An nn cn)⟩ w9 := by rw [hw9]; exact HBB.out.strip0 (f := 2) (by decide)
  have z3 : Blk (B + 1) ⟨0, 0, 0, 0, 0, 0, .slice none 0 0, ⟨#[]⟩, .slice none 0 0⟩ w9 := by rw [hw9]; exact (heap_setCell_other w3 ⟨B, 3, none⟩ (B + 1) _ (by show B + 1 ≠ B; omega)).trans HZZ.out
  have HLO3 := Aside0.mk (show Below w.heap.size w w9 by rw [hw9]; exact HLO.out.setCell (p := ⟨B, 3, none⟩) (by have := HBE.out; show w.heap.size ≤ B; omega) _)
  have HZ3 := Aside0.mk z3
  clear hw9 x0 x1 x2 x4 x5 x6 x7 x8
  obtain ⟨⟨y0, y1, y2, y3, y4, y5⟩, y6, y7, y8⟩ := b3.cells
  obtain ⟨⟨z0, z1, z2, z3', z4, z5⟩, z6, z7, z8⟩ := z3.cells
  have g0 := z3.fz 0
  have g1 := z3.fz 1
  have g2 := z3.fz 2
  have g3 := z3.fz 3
  have g4 := z3.fz 4
  have g5 := z3.fz 5
  have g6 := z3.fz 6
  have g7 := z3.fz 7
  have g8 := z3.fz 8
  clear b3 z3
  go_wp2_with (first | rw [← HW3.out])
  refine bodyPost_ret (results_ct rfl _ _ (B + 1) 60 #[.int .i64 k, .int .i64 c, .int .i64 e, .int .i64 0, .int .i64 s, .int .i64 d, (.slice Ao no co), .string t, (.slice An nn cn)] (0, 0) _ rfl (HZ3.out.set k c e 0 s d (.slice Ao no co) t (.slice An nn cn)) Try.underlying60 rfl (by kernel_rfl)) rfl ?_
  exact ⟨by rw [show Mg.ok ⟨k, c, e, r, s, d, (.slice Ao no co), t, (.slice An nn cn)⟩ go gn 2 = false from by unfold Mg.ok Mg.get most; simp; omega]; rfl, below_set9 HLO3.out (by have := HBE.out; omega) _ _ _ _ _ _ _ _ _⟩
set_option maxHeartbeats 8000000 in
set_option maxRecDepth 100000 in
theorem without_3 (m : Mg) (go gn : Bool) (w : World) (ho : ∃ A n c, m.o = .slice A n c) (hn : ∃ A n c, m.n = .slice A n c) : Calls Try.prog 38 #[m.val, .int .i64 3] w fun e w' => e = .returned (.tuple #[(m.strip 3).val, .bool (m.ok go gn 3)]) ∧ Below w.heap.size w w' := by
 obtain ⟨k, c, e, r, s, d, o, t, n⟩ := m
 obtain ⟨Ao, no, co, rfl⟩ := ho
 obtain ⟨An, nn, cn, rfl⟩ := hn
 obtain ⟨B, hB⟩ : ∃ B, B = w.heap.size := ⟨_, rfl⟩
 obtain ⟨w2, hw2⟩ : ∃ w2, w2 = (w.alloc (.cells #[.int .i64 k, .int .i64 c, .int .i64 e, .int .i64 r, .int .i64 s, .int .i64 d, (.slice Ao no co), .string t, (.slice An nn cn)] 60)).alloc (.cells #[.int .i64 0, .int .i64 0, .int .i64 0, .int .i64 0, .int .i64 0, .int .i64 0, .slice none 0 0, .string ⟨#[]⟩, .slice none 0 0] 60) := ⟨_, rfl⟩
 have HBB0 := Aside0.mk (show Blk B ⟨k, c, e, r, s, d, (.slice Ao no co), t, (.slice An nn cn)⟩ w2 by unfold Blk; rw [hw2, hB, Own.heap_old _ _ _ (by simp)]; exact Own.heap_new _ _)
 have HZZ0 := Aside0.mk (show Blk (B + 1) ⟨0, 0, 0, 0, 0, 0, .slice none 0 0, ⟨#[]⟩, .slice none 0 0⟩ w2 by unfold Blk; rw [hw2, hB]; have := Own.heap_new (w.alloc (.cells #[.int .i64 k, .int .i64 c, .int .i64 e, .int .i64 r, .int .i64 s, .int .i64 d, (.slice Ao no co), .string t, (.slice An nn cn)] 60)) (.cells #[.int .i64 0, .int .i64 0, .int .i64 0, .int .i64 0, .int .i64 0, .int .i64 0, .slice none 0 0, .string ⟨#[]⟩, .slice none 0 0] 60); rwa [World.size_alloc] at this)
 have HLO0 := Aside0.mk (show Below w.heap.size w w2 by rw [hw2]; exact below_alloc (below_alloc (Below.refl _ _) _) _)
 have HW2 := Aside0.mk hw2
 have HBE := Aside0.mk hB
 clear hw2 hB
 go_enter Try.func38, Try.ntmps38
 unfold Mg.val Mg.cs
 go_wp2_with fail
 rw [← HBE.out, ← HW2.out]
 refine (num_c B 3 (by decide) _).mono ?_
 rintro e1 w3 ⟨rfl, rfl⟩
 have HBB := HBB0
 have HZZ := HZZ0
 have HLO := HLO0
 obtain ⟨⟨x0, x1, x2, x3, x4, x5⟩, x6, x7, x8⟩ := HBB.out.cells
 have f0 := HBB.out.fz 4
 clear HBB0 HZZ0 HLO0 HW2
 unfold most
 by_cases h1 : 0 ≤ s
 ·obtain ⟨w9, hw9⟩ : ∃ w9, w9 = w3.setCell ⟨B, 4, none⟩ (.int .i64 0) := ⟨_, rfl⟩
  have HW3 := Aside0.mk hw9
  have b3 : Blk B ⟨k, c, e, r, 0, d, (.slice Ao no co), t, (.slice An nn cn)⟩ w9 := by rw [hw9]; exact HBB.out.strip0 (f := 3) (by decide)
  have z3 : Blk (B + 1) ⟨0, 0, 0, 0, 0, 0, .slice none 0 0, ⟨#[]⟩, .slice none 0 0⟩ w9 := by rw [hw9]; exact (heap_setCell_other w3 ⟨B, 4, none⟩ (B + 1) _ (by show B + 1 ≠ B; omega)).trans HZZ.out
  have HLO3 := Aside0.mk (show Below w.heap.size w w9 by rw [hw9]; exact HLO.out.setCell (p := ⟨B, 4, none⟩) (by have := HBE.out; show w.heap.size ≤ B; omega) _)
  have HZ3 := Aside0.mk z3
  clear hw9 x0 x1 x2 x3 x5 x6 x7 x8
  obtain ⟨⟨y0, y1, y2, y3, y4, y5⟩, y6, y7, y8⟩ := b3.cells
  obtain ⟨⟨z0, z1, z2, z3', z4, z5⟩, z6, z7, z8⟩ := z3.cells
  have g0 := z3.fz 0
  have g1 := z3.fz 1
  have g2 := z3.fz 2
  have g3 := z3.fz 3
  have g4 := z3.fz 4
  have g5 := z3.fz 5
  have g6 := z3.fz 6
  have g7 := z3.fz 7
  have g8 := z3.fz 8
  clear b3 z3
  go_wp2_with (first | rw [← HW3.out])
  refine bodyPost_ret (results_ct rfl _ _ (B + 1) 60 #[.int .i64 k, .int .i64 c, .int .i64 e, .int .i64 r, .int .i64 0, .int .i64 d, (.slice Ao no co), .string t, (.slice An nn cn)] (0, 0) _ rfl (HZ3.out.set k c e r 0 d (.slice Ao no co) t (.slice An nn cn)) Try.underlying60 rfl (by kernel_rfl)) rfl ?_
  exact ⟨by rw [show Mg.ok ⟨k, c, e, r, s, d, (.slice Ao no co), t, (.slice An nn cn)⟩ go gn 3 = decide (s ≤ 4611686018427387904) from by unfold Mg.ok Mg.get most; simp [h1]]; rfl, below_set9 HLO3.out (by have := HBE.out; omega) _ _ _ _ _ _ _ _ _⟩
 ·obtain ⟨w9, hw9⟩ : ∃ w9, w9 = w3.setCell ⟨B, 4, none⟩ (.int .i64 0) := ⟨_, rfl⟩
  have HW3 := Aside0.mk hw9
  have b3 : Blk B ⟨k, c, e, r, 0, d, (.slice Ao no co), t, (.slice An nn cn)⟩ w9 := by rw [hw9]; exact HBB.out.strip0 (f := 3) (by decide)
  have z3 : Blk (B + 1) ⟨0, 0, 0, 0, 0, 0, .slice none 0 0, ⟨#[]⟩, .slice none 0 0⟩ w9 := by rw [hw9]; exact (heap_setCell_other w3 ⟨B, 4, none⟩ (B + 1) _ (by show B + 1 ≠ B; omega)).trans HZZ.out
  have HLO3 := Aside0.mk (show Below w.heap.size w w9 by rw [hw9]; exact HLO.out.setCell (p := ⟨B, 4, none⟩) (by have := HBE.out; show w.heap.size ≤ B; omega) _)
  have HZ3 := Aside0.mk z3
  clear hw9 x0 x1 x2 x3 x5 x6 x7 x8
  obtain ⟨⟨y0, y1, y2, y3, y4, y5⟩, y6, y7, y8⟩ := b3.cells
  obtain ⟨⟨z0, z1, z2, z3', z4, z5⟩, z6, z7, z8⟩ := z3.cells
  have g0 := z3.fz 0
  have g1 := z3.fz 1
  have g2 := z3.fz 2
  have g3 := z3.fz 3
  have g4 := z3.fz 4
  have g5 := z3.fz 5
  have g6 := z3.fz 6
  have g7 := z3.fz 7
  have g8 := z3.fz 8
  clear b3 z3
  go_wp2_with (first | rw [← HW3.out])
  refine bodyPost_ret (results_ct rfl _ _ (B + 1) 60 #[.int .i64 k, .int .i64 c, .int .i64 e, .int .i64 r, .int .i64 0, .int .i64 d, (.slice Ao no co), .string t, (.slice An nn cn)] (0, 0) _ rfl (HZ3.out.set k c e r 0 d (.slice Ao no co) t (.slice An nn cn)) Try.underlying60 rfl (by kernel_rfl)) rfl ?_
  exact ⟨by rw [show Mg.ok ⟨k, c, e, r, s, d, (.slice Ao no co), t, (.slice An nn cn)⟩ go gn 3 = false from by unfold Mg.ok Mg.get most; simp; omega]; rfl, below_set9 HLO3.out (by have := HBE.out; omega) _ _ _ _ _ _ _ _ _⟩
set_option maxHeartbeats 8000000 in
set_option maxRecDepth 100000 in
theorem without_4 (m : Mg) (go gn : Bool) (w : World) (ho : ∃ A n c, m.o = .slice A n c) (hn : ∃ A n c, m.n = .slice A n c) : Calls Try.prog 38 #[m.val, .int .i64 4] w fun e w' => e = .returned (.tuple #[(m.strip 4).val, .bool (m.ok go gn 4)]) ∧ Below w.heap.size w w' := by
 obtain ⟨k, c, e, r, s, d, o, t, n⟩ := m
 obtain ⟨Ao, no, co, rfl⟩ := ho
 obtain ⟨An, nn, cn, rfl⟩ := hn
 obtain ⟨B, hB⟩ : ∃ B, B = w.heap.size := ⟨_, rfl⟩
 obtain ⟨w2, hw2⟩ : ∃ w2, w2 = (w.alloc (.cells #[.int .i64 k, .int .i64 c, .int .i64 e, .int .i64 r, .int .i64 s, .int .i64 d, (.slice Ao no co), .string t, (.slice An nn cn)] 60)).alloc (.cells #[.int .i64 0, .int .i64 0, .int .i64 0, .int .i64 0, .int .i64 0, .int .i64 0, .slice none 0 0, .string ⟨#[]⟩, .slice none 0 0] 60) := ⟨_, rfl⟩
 have HBB0 := Aside0.mk (show Blk B ⟨k, c, e, r, s, d, (.slice Ao no co), t, (.slice An nn cn)⟩ w2 by unfold Blk; rw [hw2, hB, Own.heap_old _ _ _ (by simp)]; exact Own.heap_new _ _)
 have HZZ0 := Aside0.mk (show Blk (B + 1) ⟨0, 0, 0, 0, 0, 0, .slice none 0 0, ⟨#[]⟩, .slice none 0 0⟩ w2 by unfold Blk; rw [hw2, hB]; have := Own.heap_new (w.alloc (.cells #[.int .i64 k, .int .i64 c, .int .i64 e, .int .i64 r, .int .i64 s, .int .i64 d, (.slice Ao no co), .string t, (.slice An nn cn)] 60)) (.cells #[.int .i64 0, .int .i64 0, .int .i64 0, .int .i64 0, .int .i64 0, .int .i64 0, .slice none 0 0, .string ⟨#[]⟩, .slice none 0 0] 60); rwa [World.size_alloc] at this)
 have HLO0 := Aside0.mk (show Below w.heap.size w w2 by rw [hw2]; exact below_alloc (below_alloc (Below.refl _ _) _) _)
 have HW2 := Aside0.mk hw2
 have HBE := Aside0.mk hB
 clear hw2 hB
 go_enter Try.func38, Try.ntmps38
 unfold Mg.val Mg.cs
 go_wp2_with fail
 rw [← HBE.out, ← HW2.out]
 refine (num_c B 4 (by decide) _).mono ?_
 rintro e1 w3 ⟨rfl, rfl⟩
 have HBB := HBB0
 have HZZ := HZZ0
 have HLO := HLO0
 obtain ⟨⟨x0, x1, x2, x3, x4, x5⟩, x6, x7, x8⟩ := HBB.out.cells
 have f0 := HBB.out.fz 5
 clear HBB0 HZZ0 HLO0 HW2
 unfold most
 by_cases h1 : 0 ≤ d
 ·obtain ⟨w9, hw9⟩ : ∃ w9, w9 = w3.setCell ⟨B, 5, none⟩ (.int .i64 0) := ⟨_, rfl⟩
  have HW3 := Aside0.mk hw9
  have b3 : Blk B ⟨k, c, e, r, s, 0, (.slice Ao no co), t, (.slice An nn cn)⟩ w9 := by rw [hw9]; exact HBB.out.strip0 (f := 4) (by decide)
  have z3 : Blk (B + 1) ⟨0, 0, 0, 0, 0, 0, .slice none 0 0, ⟨#[]⟩, .slice none 0 0⟩ w9 := by rw [hw9]; exact (heap_setCell_other w3 ⟨B, 5, none⟩ (B + 1) _ (by show B + 1 ≠ B; omega)).trans HZZ.out
  have HLO3 := Aside0.mk (show Below w.heap.size w w9 by rw [hw9]; exact HLO.out.setCell (p := ⟨B, 5, none⟩) (by have := HBE.out; show w.heap.size ≤ B; omega) _)
  have HZ3 := Aside0.mk z3
  clear hw9 x0 x1 x2 x3 x4 x6 x7 x8
  obtain ⟨⟨y0, y1, y2, y3, y4, y5⟩, y6, y7, y8⟩ := b3.cells
  obtain ⟨⟨z0, z1, z2, z3', z4, z5⟩, z6, z7, z8⟩ := z3.cells
  have g0 := z3.fz 0
  have g1 := z3.fz 1
  have g2 := z3.fz 2
  have g3 := z3.fz 3
  have g4 := z3.fz 4
  have g5 := z3.fz 5
  have g6 := z3.fz 6
  have g7 := z3.fz 7
  have g8 := z3.fz 8
  clear b3 z3
  go_wp2_with (first | rw [← HW3.out])
  refine bodyPost_ret (results_ct rfl _ _ (B + 1) 60 #[.int .i64 k, .int .i64 c, .int .i64 e, .int .i64 r, .int .i64 s, .int .i64 0, (.slice Ao no co), .string t, (.slice An nn cn)] (0, 0) _ rfl (HZ3.out.set k c e r s 0 (.slice Ao no co) t (.slice An nn cn)) Try.underlying60 rfl (by kernel_rfl)) rfl ?_
  exact ⟨by rw [show Mg.ok ⟨k, c, e, r, s, d, (.slice Ao no co), t, (.slice An nn cn)⟩ go gn 4 = decide (d ≤ 65536) from by unfold Mg.ok Mg.get most; simp [h1]]; rfl, below_set9 HLO3.out (by have := HBE.out; omega) _ _ _ _ _ _ _ _ _⟩
 ·obtain ⟨w9, hw9⟩ : ∃ w9, w9 = w3.setCell ⟨B, 5, none⟩ (.int .i64 0) := ⟨_, rfl⟩
  have HW3 := Aside0.mk hw9
  have b3 : Blk B ⟨k, c, e, r, s, 0, (.slice Ao no co), t, (.slice An nn cn)⟩ w9 := by rw [hw9]; exact HBB.out.strip0 (f := 4) (by decide)
  have z3 : Blk (B + 1) ⟨0, 0, 0, 0, 0, 0, .slice none 0 0, ⟨#[]⟩, .slice none 0 0⟩ w9 := by rw [hw9]; exact (heap_setCell_other w3 ⟨B, 5, none⟩ (B + 1) _ (by show B + 1 ≠ B; omega)).trans HZZ.out
  have HLO3 := Aside0.mk (show Below w.heap.size w w9 by rw [hw9]; exact HLO.out.setCell (p := ⟨B, 5, none⟩) (by have := HBE.out; show w.heap.size ≤ B; omega) _)
  have HZ3 := Aside0.mk z3
  clear hw9 x0 x1 x2 x3 x4 x6 x7 x8
  obtain ⟨⟨y0, y1, y2, y3, y4, y5⟩, y6, y7, y8⟩ := b3.cells
  obtain ⟨⟨z0, z1, z2, z3', z4, z5⟩, z6, z7, z8⟩ := z3.cells
  have g0 := z3.fz 0
  have g1 := z3.fz 1
  have g2 := z3.fz 2
  have g3 := z3.fz 3
  have g4 := z3.fz 4
  have g5 := z3.fz 5
  have g6 := z3.fz 6
  have g7 := z3.fz 7
  have g8 := z3.fz 8
  clear b3 z3
  go_wp2_with (first | rw [← HW3.out])
  refine bodyPost_ret (results_ct rfl _ _ (B + 1) 60 #[.int .i64 k, .int .i64 c, .int .i64 e, .int .i64 r, .int .i64 s, .int .i64 0, (.slice Ao no co), .string t, (.slice An nn cn)] (0, 0) _ rfl (HZ3.out.set k c e r s 0 (.slice Ao no co) t (.slice An nn cn)) Try.underlying60 rfl (by kernel_rfl)) rfl ?_
  exact ⟨by rw [show Mg.ok ⟨k, c, e, r, s, d, (.slice Ao no co), t, (.slice An nn cn)⟩ go gn 4 = false from by unfold Mg.ok Mg.get most; simp; omega]; rfl, below_set9 HLO3.out (by have := HBE.out; omega) _ _ _ _ _ _ _ _ _⟩
set_option maxHeartbeats 8000000 in
set_option maxRecDepth 100000 in
theorem without_5 (m : Mg) (go gn : Bool) (w : World) (ho : ∃ A n c, m.o = .slice A n c) (hn : ∃ A n c, m.n = .slice A n c) (HG : ∀ W, Below w.heap.size w W → Calls Try.prog 30 #[m.o] W fun e W' => e = .returned (.bool go) ∧ Below W.heap.size W W') : Calls Try.prog 38 #[m.val, .int .i64 5] w fun e w' => e = .returned (.tuple #[(m.strip 5).val, .bool (m.ok go gn 5)]) ∧ Below w.heap.size w w' := by
 obtain ⟨k, c, e, r, s, d, o, t, n⟩ := m
 obtain ⟨Ao, no, co, rfl⟩ := ho
 obtain ⟨An, nn, cn, rfl⟩ := hn
 obtain ⟨B, hB⟩ : ∃ B, B = w.heap.size := ⟨_, rfl⟩
 obtain ⟨w2, hw2⟩ : ∃ w2, w2 = (w.alloc (.cells #[.int .i64 k, .int .i64 c, .int .i64 e, .int .i64 r, .int .i64 s, .int .i64 d, (.slice Ao no co), .string t, (.slice An nn cn)] 60)).alloc (.cells #[.int .i64 0, .int .i64 0, .int .i64 0, .int .i64 0, .int .i64 0, .int .i64 0, .slice none 0 0, .string ⟨#[]⟩, .slice none 0 0] 60) := ⟨_, rfl⟩
 have HBB0 := Aside0.mk (show Blk B ⟨k, c, e, r, s, d, (.slice Ao no co), t, (.slice An nn cn)⟩ w2 by unfold Blk; rw [hw2, hB, Own.heap_old _ _ _ (by simp)]; exact Own.heap_new _ _)
 have HZZ0 := Aside0.mk (show Blk (B + 1) ⟨0, 0, 0, 0, 0, 0, .slice none 0 0, ⟨#[]⟩, .slice none 0 0⟩ w2 by unfold Blk; rw [hw2, hB]; have := Own.heap_new (w.alloc (.cells #[.int .i64 k, .int .i64 c, .int .i64 e, .int .i64 r, .int .i64 s, .int .i64 d, (.slice Ao no co), .string t, (.slice An nn cn)] 60)) (.cells #[.int .i64 0, .int .i64 0, .int .i64 0, .int .i64 0, .int .i64 0, .int .i64 0, .slice none 0 0, .string ⟨#[]⟩, .slice none 0 0] 60); rwa [World.size_alloc] at this)
 have HLO0 := Aside0.mk (show Below w.heap.size w w2 by rw [hw2]; exact below_alloc (below_alloc (Below.refl _ _) _) _)
 have HW2 := Aside0.mk hw2
 have HBE := Aside0.mk hB
 clear hw2 hB
 have HGA := Aside0.mk HG
 clear HG
 go_enter Try.func38, Try.ntmps38
 unfold Mg.val Mg.cs
 have HBB := HBB0
 have HZZ := HZZ0
 have HLO := HLO0
 obtain ⟨⟨x0, x1, x2, x3, x4, x5⟩, x6, x7, x8⟩ := HBB.out.cells
 have f0 := HBB.out.fz 6
 go_wp2_with (first | rw [← HBE.out, ← HW2.out])
 clear x0 x1 x2 x3 x4 x5 x6 x7 x8 f0 HBB HZZ HLO
 refine (HGA.out w2 HLO0.out).mono ?_
 rintro e1 w4 ⟨rfl, hb⟩
 have HBB := Aside0.mk (HBB0.out.below hb)
 have HZZ := Aside0.mk (HZZ0.out.below hb)
 have HLO := Aside0.mk (below_step HLO0.out hb)
 obtain ⟨⟨x0, x1, x2, x3, x4, x5⟩, x6, x7, x8⟩ := HBB.out.cells
 have f0 := HBB.out.fz 6
 clear HBB0 HZZ0 HLO0 HW2 hb HGA
 obtain ⟨w9, hw9⟩ : ∃ w9, w9 = w4.setCell ⟨B, 6, none⟩ (.slice none 0 0) := ⟨_, rfl⟩
 have HW3 := Aside0.mk hw9
 have b3 : Blk B ⟨k, c, e, r, s, d, (.slice none 0 0), t, (.slice An nn cn)⟩ w9 := by rw [hw9]; exact HBB.out.strip5
 have z3 : Blk (B + 1) ⟨0, 0, 0, 0, 0, 0, .slice none 0 0, ⟨#[]⟩, .slice none 0 0⟩ w9 := by rw [hw9]; exact (heap_setCell_other w4 ⟨B, 6, none⟩ (B + 1) _ (by show B + 1 ≠ B; omega)).trans HZZ.out
 have HLO3 := Aside0.mk (show Below w.heap.size w w9 by rw [hw9]; exact HLO.out.setCell (p := ⟨B, 6, none⟩) (by have := HBE.out; show w.heap.size ≤ B; omega) _)
 have HZ3 := Aside0.mk z3
 clear hw9 x0 x1 x2 x3 x4 x5 x7 x8
 obtain ⟨⟨y0, y1, y2, y3, y4, y5⟩, y6, y7, y8⟩ := b3.cells
 obtain ⟨⟨z0, z1, z2, z3', z4, z5⟩, z6, z7, z8⟩ := z3.cells
 have g0 := z3.fz 0
 have g1 := z3.fz 1
 have g2 := z3.fz 2
 have g3 := z3.fz 3
 have g4 := z3.fz 4
 have g5 := z3.fz 5
 have g6 := z3.fz 6
 have g7 := z3.fz 7
 have g8 := z3.fz 8
 clear b3 z3
 go_wp2_with (first | rw [← HW3.out])
 refine bodyPost_ret (results_ct rfl _ _ (B + 1) 60 #[.int .i64 k, .int .i64 c, .int .i64 e, .int .i64 r, .int .i64 s, .int .i64 d, (.slice none 0 0), .string t, (.slice An nn cn)] (0, 0) _ rfl (HZ3.out.set k c e r s d (.slice none 0 0) t (.slice An nn cn)) Try.underlying60 rfl (by kernel_rfl)) rfl ?_
 exact ⟨by rfl, below_set9 HLO3.out (by have := HBE.out; omega) _ _ _ _ _ _ _ _ _⟩
set_option maxHeartbeats 8000000 in
set_option maxRecDepth 100000 in
theorem without_6 (m : Mg) (go gn : Bool) (w : World) (ho : ∃ A n c, m.o = .slice A n c) (hn : ∃ A n c, m.n = .slice A n c) : Calls Try.prog 38 #[m.val, .int .i64 6] w fun e w' => e = .returned (.tuple #[(m.strip 6).val, .bool (m.ok go gn 6)]) ∧ Below w.heap.size w w' := by
 obtain ⟨k, c, e, r, s, d, o, t, n⟩ := m
 obtain ⟨Ao, no, co, rfl⟩ := ho
 obtain ⟨An, nn, cn, rfl⟩ := hn
 obtain ⟨B, hB⟩ : ∃ B, B = w.heap.size := ⟨_, rfl⟩
 obtain ⟨w2, hw2⟩ : ∃ w2, w2 = (w.alloc (.cells #[.int .i64 k, .int .i64 c, .int .i64 e, .int .i64 r, .int .i64 s, .int .i64 d, (.slice Ao no co), .string t, (.slice An nn cn)] 60)).alloc (.cells #[.int .i64 0, .int .i64 0, .int .i64 0, .int .i64 0, .int .i64 0, .int .i64 0, .slice none 0 0, .string ⟨#[]⟩, .slice none 0 0] 60) := ⟨_, rfl⟩
 have HBB0 := Aside0.mk (show Blk B ⟨k, c, e, r, s, d, (.slice Ao no co), t, (.slice An nn cn)⟩ w2 by unfold Blk; rw [hw2, hB, Own.heap_old _ _ _ (by simp)]; exact Own.heap_new _ _)
 have HZZ0 := Aside0.mk (show Blk (B + 1) ⟨0, 0, 0, 0, 0, 0, .slice none 0 0, ⟨#[]⟩, .slice none 0 0⟩ w2 by unfold Blk; rw [hw2, hB]; have := Own.heap_new (w.alloc (.cells #[.int .i64 k, .int .i64 c, .int .i64 e, .int .i64 r, .int .i64 s, .int .i64 d, (.slice Ao no co), .string t, (.slice An nn cn)] 60)) (.cells #[.int .i64 0, .int .i64 0, .int .i64 0, .int .i64 0, .int .i64 0, .int .i64 0, .slice none 0 0, .string ⟨#[]⟩, .slice none 0 0] 60); rwa [World.size_alloc] at this)
 have HLO0 := Aside0.mk (show Below w.heap.size w w2 by rw [hw2]; exact below_alloc (below_alloc (Below.refl _ _) _) _)
 have HW2 := Aside0.mk hw2
 have HBE := Aside0.mk hB
 clear hw2 hB
 go_enter Try.func38, Try.ntmps38
 unfold Mg.val Mg.cs
 have HBB := HBB0
 have HZZ := HZZ0
 have HLO := HLO0
 obtain ⟨⟨x0, x1, x2, x3, x4, x5⟩, x6, x7, x8⟩ := HBB.out.cells
 have f0 := HBB.out.fz 7
 clear HBB0 HZZ0 HLO0
 by_cases h1 : (t.size : Int) ≤ 16777216
 ·obtain ⟨w9, hw9⟩ : ∃ w9, w9 = w2.setCell ⟨B, 7, none⟩ (.string ⟨#[]⟩) := ⟨_, rfl⟩
  have HW3 := Aside0.mk hw9
  have b3 : Blk B ⟨k, c, e, r, s, d, (.slice Ao no co), ⟨#[]⟩, (.slice An nn cn)⟩ w9 := by rw [hw9]; exact HBB.out.strip6
  have z3 : Blk (B + 1) ⟨0, 0, 0, 0, 0, 0, .slice none 0 0, ⟨#[]⟩, .slice none 0 0⟩ w9 := by rw [hw9]; exact (heap_setCell_other w2 ⟨B, 7, none⟩ (B + 1) _ (by show B + 1 ≠ B; omega)).trans HZZ.out
  have HLO3 := Aside0.mk (show Below w.heap.size w w9 by rw [hw9]; exact HLO.out.setCell (p := ⟨B, 7, none⟩) (by have := HBE.out; show w.heap.size ≤ B; omega) _)
  have HZ3 := Aside0.mk z3
  clear hw9 x0 x1 x2 x3 x4 x5 x6 x8
  obtain ⟨⟨y0, y1, y2, y3, y4, y5⟩, y6, y7, y8⟩ := b3.cells
  obtain ⟨⟨z0, z1, z2, z3', z4, z5⟩, z6, z7, z8⟩ := z3.cells
  have g0 := z3.fz 0
  have g1 := z3.fz 1
  have g2 := z3.fz 2
  have g3 := z3.fz 3
  have g4 := z3.fz 4
  have g5 := z3.fz 5
  have g6 := z3.fz 6
  have g7 := z3.fz 7
  have g8 := z3.fz 8
  clear b3 z3
  go_wp2_with (first | rw [← HBE.out, ← HW2.out] | rw [← HW3.out])
  refine bodyPost_ret (results_ct rfl _ _ (B + 1) 60 #[.int .i64 k, .int .i64 c, .int .i64 e, .int .i64 r, .int .i64 s, .int .i64 d, (.slice Ao no co), .string ⟨#[]⟩, (.slice An nn cn)] (0, 0) _ rfl (HZ3.out.set k c e r s d (.slice Ao no co) ⟨#[]⟩ (.slice An nn cn)) Try.underlying60 rfl (by kernel_rfl)) rfl ?_
  exact ⟨by rw [show Mg.ok ⟨k, c, e, r, s, d, (.slice Ao no co), t, (.slice An nn cn)⟩ go gn 6 = true from by unfold Mg.ok; simp; omega]; rfl, below_set9 HLO3.out (by have := HBE.out; omega) _ _ _ _ _ _ _ _ _⟩
 ·obtain ⟨w9, hw9⟩ : ∃ w9, w9 = w2.setCell ⟨B, 7, none⟩ (.string ⟨#[]⟩) := ⟨_, rfl⟩
  have HW3 := Aside0.mk hw9
  have b3 : Blk B ⟨k, c, e, r, s, d, (.slice Ao no co), ⟨#[]⟩, (.slice An nn cn)⟩ w9 := by rw [hw9]; exact HBB.out.strip6
  have z3 : Blk (B + 1) ⟨0, 0, 0, 0, 0, 0, .slice none 0 0, ⟨#[]⟩, .slice none 0 0⟩ w9 := by rw [hw9]; exact (heap_setCell_other w2 ⟨B, 7, none⟩ (B + 1) _ (by show B + 1 ≠ B; omega)).trans HZZ.out
  have HLO3 := Aside0.mk (show Below w.heap.size w w9 by rw [hw9]; exact HLO.out.setCell (p := ⟨B, 7, none⟩) (by have := HBE.out; show w.heap.size ≤ B; omega) _)
  have HZ3 := Aside0.mk z3
  clear hw9 x0 x1 x2 x3 x4 x5 x6 x8
  obtain ⟨⟨y0, y1, y2, y3, y4, y5⟩, y6, y7, y8⟩ := b3.cells
  obtain ⟨⟨z0, z1, z2, z3', z4, z5⟩, z6, z7, z8⟩ := z3.cells
  have g0 := z3.fz 0
  have g1 := z3.fz 1
  have g2 := z3.fz 2
  have g3 := z3.fz 3
  have g4 := z3.fz 4
  have g5 := z3.fz 5
  have g6 := z3.fz 6
  have g7 := z3.fz 7
  have g8 := z3.fz 8
  clear b3 z3
  go_wp2_with (first | rw [← HBE.out, ← HW2.out] | rw [← HW3.out])
  refine bodyPost_ret (results_ct rfl _ _ (B + 1) 60 #[.int .i64 k, .int .i64 c, .int .i64 e, .int .i64 r, .int .i64 s, .int .i64 d, (.slice Ao no co), .string ⟨#[]⟩, (.slice An nn cn)] (0, 0) _ rfl (HZ3.out.set k c e r s d (.slice Ao no co) ⟨#[]⟩ (.slice An nn cn)) Try.underlying60 rfl (by kernel_rfl)) rfl ?_
  exact ⟨by rw [show Mg.ok ⟨k, c, e, r, s, d, (.slice Ao no co), t, (.slice An nn cn)⟩ go gn 6 = false from by unfold Mg.ok; simp; omega]; rfl, below_set9 HLO3.out (by have := HBE.out; omega) _ _ _ _ _ _ _ _ _⟩
set_option maxHeartbeats 8000000 in
set_option maxRecDepth 100000 in
theorem without_7 (m : Mg) (go gn : Bool) (w : World) (ho : ∃ A n c, m.o = .slice A n c) (hn : ∃ A n c, m.n = .slice A n c) (HG : ∀ W, Below w.heap.size w W → Calls Try.prog 48 #[m.n] W fun e W' => e = .returned (.bool gn) ∧ Below W.heap.size W W') : Calls Try.prog 38 #[m.val, .int .i64 7] w fun e w' => e = .returned (.tuple #[(m.strip 7).val, .bool (m.ok go gn 7)]) ∧ Below w.heap.size w w' := by
 obtain ⟨k, c, e, r, s, d, o, t, n⟩ := m
 obtain ⟨Ao, no, co, rfl⟩ := ho
 obtain ⟨An, nn, cn, rfl⟩ := hn
 obtain ⟨B, hB⟩ : ∃ B, B = w.heap.size := ⟨_, rfl⟩
 obtain ⟨w2, hw2⟩ : ∃ w2, w2 = (w.alloc (.cells #[.int .i64 k, .int .i64 c, .int .i64 e, .int .i64 r, .int .i64 s, .int .i64 d, (.slice Ao no co), .string t, (.slice An nn cn)] 60)).alloc (.cells #[.int .i64 0, .int .i64 0, .int .i64 0, .int .i64 0, .int .i64 0, .int .i64 0, .slice none 0 0, .string ⟨#[]⟩, .slice none 0 0] 60) := ⟨_, rfl⟩
 have HBB0 := Aside0.mk (show Blk B ⟨k, c, e, r, s, d, (.slice Ao no co), t, (.slice An nn cn)⟩ w2 by unfold Blk; rw [hw2, hB, Own.heap_old _ _ _ (by simp)]; exact Own.heap_new _ _)
 have HZZ0 := Aside0.mk (show Blk (B + 1) ⟨0, 0, 0, 0, 0, 0, .slice none 0 0, ⟨#[]⟩, .slice none 0 0⟩ w2 by unfold Blk; rw [hw2, hB]; have := Own.heap_new (w.alloc (.cells #[.int .i64 k, .int .i64 c, .int .i64 e, .int .i64 r, .int .i64 s, .int .i64 d, (.slice Ao no co), .string t, (.slice An nn cn)] 60)) (.cells #[.int .i64 0, .int .i64 0, .int .i64 0, .int .i64 0, .int .i64 0, .int .i64 0, .slice none 0 0, .string ⟨#[]⟩, .slice none 0 0] 60); rwa [World.size_alloc] at this)
 have HLO0 := Aside0.mk (show Below w.heap.size w w2 by rw [hw2]; exact below_alloc (below_alloc (Below.refl _ _) _) _)
 have HW2 := Aside0.mk hw2
 have HBE := Aside0.mk hB
 clear hw2 hB
 have HGA := Aside0.mk HG
 clear HG
 go_enter Try.func38, Try.ntmps38
 unfold Mg.val Mg.cs
 have HBB := HBB0
 have HZZ := HZZ0
 have HLO := HLO0
 obtain ⟨⟨x0, x1, x2, x3, x4, x5⟩, x6, x7, x8⟩ := HBB.out.cells
 have f0 := HBB.out.fz 8
 go_wp2_with (first | rw [← HBE.out, ← HW2.out])
 clear x0 x1 x2 x3 x4 x5 x6 x7 x8 f0 HBB HZZ HLO
 refine (HGA.out w2 HLO0.out).mono ?_
 rintro e1 w4 ⟨rfl, hb⟩
 have HBB := Aside0.mk (HBB0.out.below hb)
 have HZZ := Aside0.mk (HZZ0.out.below hb)
 have HLO := Aside0.mk (below_step HLO0.out hb)
 obtain ⟨⟨x0, x1, x2, x3, x4, x5⟩, x6, x7, x8⟩ := HBB.out.cells
 have f0 := HBB.out.fz 8
 clear HBB0 HZZ0 HLO0 HW2 hb HGA
 obtain ⟨w9, hw9⟩ : ∃ w9, w9 = w4.setCell ⟨B, 8, none⟩ (.slice none 0 0) := ⟨_, rfl⟩
 have HW3 := Aside0.mk hw9
 have b3 : Blk B ⟨k, c, e, r, s, d, (.slice Ao no co), t, (.slice none 0 0)⟩ w9 := by rw [hw9]; exact HBB.out.strip7
 have z3 : Blk (B + 1) ⟨0, 0, 0, 0, 0, 0, .slice none 0 0, ⟨#[]⟩, .slice none 0 0⟩ w9 := by rw [hw9]; exact (heap_setCell_other w4 ⟨B, 8, none⟩ (B + 1) _ (by show B + 1 ≠ B; omega)).trans HZZ.out
 have HLO3 := Aside0.mk (show Below w.heap.size w w9 by rw [hw9]; exact HLO.out.setCell (p := ⟨B, 8, none⟩) (by have := HBE.out; show w.heap.size ≤ B; omega) _)
 have HZ3 := Aside0.mk z3
 clear hw9 x0 x1 x2 x3 x4 x5 x6 x7
 obtain ⟨⟨y0, y1, y2, y3, y4, y5⟩, y6, y7, y8⟩ := b3.cells
 obtain ⟨⟨z0, z1, z2, z3', z4, z5⟩, z6, z7, z8⟩ := z3.cells
 have g0 := z3.fz 0
 have g1 := z3.fz 1
 have g2 := z3.fz 2
 have g3 := z3.fz 3
 have g4 := z3.fz 4
 have g5 := z3.fz 5
 have g6 := z3.fz 6
 have g7 := z3.fz 7
 have g8 := z3.fz 8
 clear b3 z3
 go_wp2_with (first | rw [← HW3.out])
 refine bodyPost_ret (results_ct rfl _ _ (B + 1) 60 #[.int .i64 k, .int .i64 c, .int .i64 e, .int .i64 r, .int .i64 s, .int .i64 d, (.slice Ao no co), .string t, (.slice none 0 0)] (0, 0) _ rfl (HZ3.out.set k c e r s d (.slice Ao no co) t (.slice none 0 0)) Try.underlying60 rfl (by kernel_rfl)) rfl ?_
 exact ⟨by rfl, below_set9 HLO3.out (by have := HBE.out; omega) _ _ _ _ _ _ _ _ _⟩
end Go.Proofs.Ytjbnffadfohofaa.MsgB
end
-- MERGED YtjbnffadfohofaaEq6
section
namespace Go.Proofs.Ytjbnffadfohofaa.Eq6
open Go.RowKit Go.Proofs.Ytjbnffadfohofaa.P
theorem sz3 : ∀ w, (sizeOf 3).run Try.prog w = .ok 1 w := fun w => by
 have h : Try.prog.cellsOf 3 = 1 := by kernel_rfl
 go_simp
theorem eq6 (W : World) (a0 a1 a2 a3 a4 a5 b0 b1 b2 b3 b4 b5 : Int) :
  (Op.equalIn 10000 89 (.agg #[.int .i64 a0, .int .i64 a1, .int .i64 a2, .int .i64 a3, .int .i64 a4, .int .i64 a5]) (.agg #[.int .i64 b0, .int .i64 b1, .int .i64 b2, .int .i64 b3, .int .i64 b4, .int .i64 b5])).run Try.prog W = .ok (a0 == b0 && (a1 == b1 && (a2 == b2 && (a3 == b3 && (a4 == b4 && a5 == b5))))) W := by
 rw [Op.equalIn]
 have pe : ∀ (x y : Int) (w : World), (Op.equalIn 9999 3 (.int .i64 x) (.int .i64 y)).run Try.prog w = .ok (x == y) w := fun x y w => by
  rw [run_equalIn_int w 9998 3 .i64 .i64 _ _ Try.underlying3]
 have pt : ∀ (cs : Array Value) (i : Nat) (v : Value) (w : World), cs[i]? = some v → (∃ x, v = .int .i64 x) → (part 3 cs i).run Try.prog w = .ok v w := fun cs i v w h hv => by
  obtain ⟨x, rfl⟩ := hv
  simp [part, isAgg, run_underlying Try.underlying3, h]
 simp only [Sem.run_bind, run_underlying Try.underlying89, Result.andThen_ok, sz3, Std.Legacy.Range.forIn_eq_forIn_range', Std.Legacy.Range.size, Nat.sub_zero, Nat.add_sub_cancel, Nat.div_one]
 simp only [List.range'_succ, List.range'_zero, List.forIn_cons, List.forIn_nil, Sem.run_bind]
 cases h0 : (a0 == b0) <;> cases h1 : (a1 == b1) <;> cases h2 : (a2 == b2) <;> cases h3 : (a3 == b3) <;> cases h4 : (a4 == b4) <;> cases h5 : (a5 == b5) <;>
 simp [pt, pe, h0, h1, h2, h3, h4, h5, Sem.run_bind, Sem.run_pure, Result.andThen_ok]
end Go.Proofs.Ytjbnffadfohofaa.Eq6
end
-- MERGED YtjbnffadfohofaaMsgC
section
namespace Go.Proofs.Ytjbnffadfohofaa.MsgC
open Go.RowKit Go.Proofs.Ytjbnffadfohofaa.P Go.Proofs.YtjbnffadfohofaaW.PrintWords Go.Proofs.YtjbnffadfohofaaW.PrintLast Go.Proofs.YtjbnffadfohofaaW.PrintMore Go.Proofs.Ytjbnffadfohofaa.Own Go.Proofs.Ytjbnffadfohofaa.MsgA Go.Proofs.Ytjbnffadfohofaa.MsgB
set_option linter.unusedSimpArgs false
set_option linter.unusedVariables false
set_option maxHeartbeats 2000000 in
set_option maxRecDepth 100000 in
theorem eqrun_nil (A : Option Addr) (n c : Nat) (hn : n ≤ 4611686018427387904) (w : World) : Calls Try.prog 50 #[.slice A n c, .slice none 0 0] w fun e w' => e = .returned (.bool (decide (n = 0))) ∧ Below w.heap.size w w' := by
 by_cases h : n = 0
 ·subst h
  go_enter Try.func50, Try.ntmps50
  go_wp2_with fail
  go_loopw [13] (fun iv wr => iv = .int .i64 0 ∧ wr = w) (fun _ _ => 0)
  case atStart => exact ⟨rfl, rfl⟩
  case round =>
   obtain ⟨rfl, rfl⟩ := hrel
   go_wp2_with fail
   go_ret
   exact ⟨rfl, Below.refl _ _⟩
 ·have h' : ((n : Int) == 0) = false := by simpa using h
  have hn' : (n : Int) ≤ 4611686018427387904 := by omega
  go_enter Try.func50, Try.ntmps50
  go_wp2_with fail
  go_ret
  exact ⟨by rw [decide_eq_false h]; rfl, Below.refl _ _⟩
set_option maxHeartbeats 2000000 in
set_option maxRecDepth 100000 in
theorem eqnote_nil (A : Option Addr) (n c : Nat) (hn : n ≤ 4611686018427387904) (w : World) : Calls Try.prog 51 #[.slice A n c, .slice none 0 0] w fun e w' => e = .returned (.bool (decide (n = 0))) ∧ Below w.heap.size w w' := by
 by_cases h : n = 0
 ·subst h
  go_enter Try.func51, Try.ntmps51
  go_wp2_with fail
  go_loopw [13] (fun iv wr => iv = .int .i64 0 ∧ wr = w) (fun _ _ => 0)
  case atStart => exact ⟨rfl, rfl⟩
  case round =>
   obtain ⟨rfl, rfl⟩ := hrel
   go_wp2_with fail
   go_ret
   exact ⟨rfl, Below.refl _ _⟩
 ·have h' : ((n : Int) == 0) = false := by simpa using h
  have hn' : (n : Int) ≤ 4611686018427387904 := by omega
  go_enter Try.func51, Try.ntmps51
  go_wp2_with fail
  go_ret
  exact ⟨by rw [decide_eq_false h]; rfl, Below.refl _ _⟩
def Mg.nums (a b : Mg) : Bool := a.k == b.k && (a.c == b.c && (a.e == b.e && (a.r == b.r && (a.s == b.s && a.d == b.d))))
def Mg.same (a b : Mg) (eo en : Bool) : Bool := Mg.nums a b && (a.t.toList == b.t.toList && (eo && en))
set_option maxHeartbeats 8000000 in
set_option maxRecDepth 100000 in
theorem same_c (a b : Mg) (eo en : Bool) (w : World) (hao : ∃ A n c, a.o = .slice A n c) (han : ∃ A n c, a.n = .slice A n c) (hbo : ∃ A n c, b.o = .slice A n c) (hbn : ∃ A n c, b.n = .slice A n c)
  (HO : ∀ W, Below w.heap.size w W → Calls Try.prog 50 #[a.o, b.o] W fun e W' => e = .returned (.bool eo) ∧ Below W.heap.size W W') (HN : ∀ W, Below w.heap.size w W → Calls Try.prog 51 #[a.n, b.n] W fun e W' => e = .returned (.bool en) ∧ Below W.heap.size W W') :
  Calls Try.prog 39 #[a.val, b.val] w fun e w' => e = .returned (.bool (Mg.same a b eo en)) ∧ Below w.heap.size w w' := by
 obtain ⟨k, c, e, r, s, d, o, t, n⟩ := a
 obtain ⟨k2, c2, e2, r2, s2, d2, o2, t2, n2⟩ := b
 obtain ⟨Ao, no, co, rfl⟩ := hao
 obtain ⟨An, nn, cn, rfl⟩ := han
 obtain ⟨Ao2, no2, co2, rfl⟩ := hbo
 obtain ⟨An2, nn2, cn2, rfl⟩ := hbn
 obtain ⟨B, hB⟩ : ∃ B, B = w.heap.size := ⟨_, rfl⟩
 obtain ⟨w2, hw2⟩ : ∃ w2, w2 = (w.alloc (.cells #[.int .i64 k, .int .i64 c, .int .i64 e, .int .i64 r, .int .i64 s, .int .i64 d, .slice Ao no co, .string t, .slice An nn cn] 60)).alloc (.cells #[.int .i64 k2, .int .i64 c2, .int .i64 e2, .int .i64 r2, .int .i64 s2, .int .i64 d2, .slice Ao2 no2 co2, .string t2, .slice An2 nn2 cn2] 60) := ⟨_, rfl⟩
 have HBA := Aside0.mk (show Blk B ⟨k, c, e, r, s, d, .slice Ao no co, t, .slice An nn cn⟩ w2 by unfold Blk; rw [hw2, hB, Own.heap_old _ _ _ (by simp)]; exact Own.heap_new _ _)
 have HBB := Aside0.mk (show Blk (B + 1) ⟨k2, c2, e2, r2, s2, d2, .slice Ao2 no2 co2, t2, .slice An2 nn2 cn2⟩ w2 by unfold Blk; rw [hw2, hB]; have := Own.heap_new (w.alloc (.cells #[.int .i64 k, .int .i64 c, .int .i64 e, .int .i64 r, .int .i64 s, .int .i64 d, .slice Ao no co, .string t, .slice An nn cn] 60)) (.cells #[.int .i64 k2, .int .i64 c2, .int .i64 e2, .int .i64 r2, .int .i64 s2, .int .i64 d2, .slice Ao2 no2 co2, .string t2, .slice An2 nn2 cn2] 60); rwa [World.size_alloc] at this)
 have HLO := Aside0.mk (show Below w.heap.size w w2 by rw [hw2]; exact below_alloc (below_alloc (Below.refl _ _) _) _)
 have HW2 := Aside0.mk hw2
 have HBE := Aside0.mk hB
 have HOA := Aside0.mk HO
 have HNA := Aside0.mk HN
 clear hw2 hB HO HN
 obtain ⟨⟨x0, x1, x2, x3, x4, x5⟩, x6, x7, x8⟩ := HBA.out.cells
 obtain ⟨⟨y0, y1, y2, y3, y4, y5⟩, y6, y7, y8⟩ := HBB.out.cells
 go_enter Try.func39, Try.ntmps39
 unfold Mg.val Mg.cs
 have he6 := fun W => Eq6.eq6 W k c e r s d k2 c2 e2 r2 s2 d2
 cases q1 : (k == k2 && (c == c2 && (e == e2 && (r == r2 && (s == s2 && d == d2))))) with
 | false =>
  rw [q1] at he6
  go_wp2_with (first | rw [← HBE.out, ← HW2.out])
  go_ret
  exact ⟨by unfold Mg.same Mg.nums; rw [q1]; rfl, HLO.out⟩
 | true =>
  rw [q1] at he6
  cases q2 : (t.toList == t2.toList) with
  | false =>
   go_wp2_with (first | rw [← HBE.out, ← HW2.out])
   go_ret
   exact ⟨by unfold Mg.same Mg.nums; rw [q1, q2]; rfl, HLO.out⟩
  | true =>
   go_wp2_with (first | rw [← HBE.out, ← HW2.out])
   refine (HOA.out w2 HLO.out).mono ?_
   rintro e9 w3 ⟨rfl, hb⟩
   have HA3 := Aside0.mk (HBA.out.below hb)
   have HB3 := Aside0.mk (HBB.out.below hb)
   have HL3 := Aside0.mk (below_step HLO.out hb)
   clear hb x0 x1 x2 x3 x4 x5 x6 x7 x8 y0 y1 y2 y3 y4 y5 y6 y7 y8 HW2 he6
   obtain ⟨⟨x0, x1, x2, x3, x4, x5⟩, x6, x7, x8⟩ := HA3.out.cells
   obtain ⟨⟨y0, y1, y2, y3, y4, y5⟩, y6, y7, y8⟩ := HB3.out.cells
   cases eo with
   | false =>
    go_wp2_with fail
    go_ret
    exact ⟨by unfold Mg.same Mg.nums; rw [q1, q2]; rfl, HL3.out⟩
   | true =>
    go_wp2_with fail
    refine (HNA.out w3 HL3.out).mono ?_
    rintro e9 w4 ⟨rfl, hb⟩
    have HL4 := Aside0.mk (below_step HL3.out hb)
    clear hb x0 x1 x2 x3 x4 x5 x6 x7 x8 y0 y1 y2 y3 y4 y5 y6 y7 y8
    go_wp2_with fail
    go_ret
    exact ⟨by unfold Mg.same Mg.nums; rw [q1, q2]; rfl, HL4.out⟩
end Go.Proofs.Ytjbnffadfohofaa.MsgC
end
-- MERGED YtjbnffadfohofaaMsgD
section
namespace Go.Proofs.Ytjbnffadfohofaa.MsgD
open Go.RowKit Go.Proofs.Ytjbnffadfohofaa.P Go.Proofs.YtjbnffadfohofaaW.PrintWords Go.Proofs.YtjbnffadfohofaaW.PrintLast Go.Proofs.YtjbnffadfohofaaW.PrintMore Go.Proofs.Ytjbnffadfohofaa.Own Go.Proofs.Ytjbnffadfohofaa.MsgA Go.Proofs.Ytjbnffadfohofaa.MsgB Go.Proofs.Ytjbnffadfohofaa.MsgC
set_option linter.unusedSimpArgs false
set_option linter.unusedVariables false
def fieldsL (k : Int) : List Int := if k = 1 then [0, 1, 2, 3] else if k = 2 then [0, 2, 3, 5] else if k = 3 then [2, 3] else if k = 4 then [2, 3, 6] else if k = 5 then [2, 7] else if k = 6 then [1] else if k = 7 then [4] else []
theorem fields_f (k : Int) : message_fields.f k = some (fieldsL k) := by
 unfold message_fields.f fieldsL
 repeat' split
 all_goals rfl
theorem fields_ok (k : Int) : (fieldsL k).Nodup ∧ (∀ f ∈ fieldsL k, 0 ≤ f ∧ f < 8) ∧ (fieldsL k).length ≤ 4 := by
 unfold fieldsL
 repeat' split
 all_goals decide
def nil0 : Value → Bool
 | .slice _ n _ => decide (n = 0)
 | _ => false
def run (go gn : Bool) : List Int → Mg → Option Mg
 | [], m => some m
 | f :: l, m => if m.ok go gn f.toNat = true then run go gn l (m.strip f.toNat) else none
def kindM (k : Int) : Mg := ⟨k, 0, 0, 0, 0, 0, .slice none 0 0, ⟨#[]⟩, .slice none 0 0⟩
def lastOk (m r : Mg) : Bool := !(fieldsL m.k).isEmpty && Mg.same r (kindM m.k) (nil0 r.o) (nil0 r.n)
def goodM (m : Mg) (go gn : Bool) : Bool := ((run go gn (fieldsL m.k) m).map (lastOk m)).getD false
theorem without_c (m : Mg) (go gn : Bool) (f : Int) (h0 : 0 ≤ f) (h8 : f < 8) (w : World) (ho : ∃ A n c, m.o = .slice A n c) (hn : ∃ A n c, m.n = .slice A n c)
  (HG : f = 5 → ∀ W, Below w.heap.size w W → Calls Try.prog 30 #[m.o] W fun e W' => e = .returned (.bool go) ∧ Below W.heap.size W W')
  (HN : f = 7 → ∀ W, Below w.heap.size w W → Calls Try.prog 48 #[m.n] W fun e W' => e = .returned (.bool gn) ∧ Below W.heap.size W W') :
  Calls Try.prog 38 #[m.val, .int .i64 f] w fun e w' => e = .returned (.tuple #[(m.strip f.toNat).val, .bool (m.ok go gn f.toNat)]) ∧ Below w.heap.size w w' := by
 have h : f = 0 ∨ f = 1 ∨ f = 2 ∨ f = 3 ∨ f = 4 ∨ f = 5 ∨ f = 6 ∨ f = 7 := by omega
 rcases h with rfl | rfl | rfl | rfl | rfl | rfl | rfl | rfl
 ·exact without_0 m go gn w ho hn
 ·exact without_1 m go gn w ho hn
 ·exact without_2 m go gn w ho hn
 ·exact without_3 m go gn w ho hn
 ·exact without_4 m go gn w ho hn
 ·exact without_5 m go gn w ho hn (HG rfl)
 ·exact without_6 m go gn w ho hn
 ·exact without_7 m go gn w ho hn (HN rfl)
theorem strip_k (m : Mg) (f : Nat) : (m.strip f).k = m.k := by
 unfold Mg.strip
 repeat' split
 all_goals rfl
theorem strip_o (m : Mg) (f : Nat) : (m.strip f).o = if f = 5 then .slice none 0 0 else m.o := by
 unfold Mg.strip
 repeat' split
 all_goals first | rfl | omega
theorem strip_n (m : Mg) (f : Nat) (hf : f < 8) : (m.strip f).n = if f = 7 then .slice none 0 0 else m.n := by
 unfold Mg.strip
 repeat' split
 all_goals first | rfl | omega
theorem drop_rd {l : List Int} {j : Nat} (h : j < l.length) : l.drop j = rd l (j : Int) :: l.drop (j + 1) := by
 rw [List.drop_eq_getElem_cons h]
 unfold rd
 rw [Int.toNat_natCast, List.getD_eq_getElem?_getD, List.getElem?_eq_getElem h]; rfl
structure Rs (m : Mg) (go gn : Bool) (l : List Int) (r : Mg) : Prop where
 run_ : run go gn l r = run go gn (fieldsL m.k) m
 k : r.k = m.k
 o : r.o = m.o ∨ (r.o = .slice none 0 0 ∧ 5 ∉ l)
 n : r.n = m.n ∨ (r.n = .slice none 0 0 ∧ 7 ∉ l)
theorem Rs.start (m : Mg) (go gn : Bool) : Rs m go gn (fieldsL m.k) m := ⟨rfl, rfl, .inl rfl, .inl rfl⟩
theorem Rs.step {m r : Mg} {go gn : Bool} {f : Int} {l : List Int} (h : Rs m go gn (f :: l) r) (hok : r.ok go gn f.toNat = true) (hd : (f :: l).Nodup) (h0 : 0 ≤ f) (h8 : f < 8) : Rs m go gn l (r.strip f.toNat) := by
 have hnd := List.nodup_cons.1 hd
 refine ⟨?_, by rw [strip_k]; exact h.k, ?_, ?_⟩
 ·have := h.run_
  simp only [run] at this
  rwa [if_pos hok] at this
 ·rw [strip_o]
  split
  ·next h5 =>
   have e5 : f = 5 := by omega
   exact .inr ⟨rfl, by rw [← e5]; exact hnd.1⟩
  ·rcases h.o with h1 | ⟨h1, h2⟩
   ·exact .inl h1
   ·exact .inr ⟨h1, fun h3 => h2 (List.mem_cons_of_mem _ h3)⟩
 ·rw [strip_n _ _ (by omega)]
  split
  ·next h5 =>
   have e5 : f = 7 := by omega
   exact .inr ⟨rfl, by rw [← e5]; exact hnd.1⟩
  ·rcases h.n with h1 | ⟨h1, h2⟩
   ·exact .inl h1
   ·exact .inr ⟨h1, fun h3 => h2 (List.mem_cons_of_mem _ h3)⟩
theorem Rs.bad {m r : Mg} {go gn : Bool} {f : Int} {l : List Int} (h : Rs m go gn (f :: l) r) (hok : r.ok go gn f.toNat = false) : goodM m go gn = false := by
 have := h.run_
 simp only [run, hok] at this
 unfold goodM
 rw [← this]; rfl
theorem Rs.last {m r : Mg} {go gn : Bool} (h : Rs m go gn [] r) : goodM m go gn = lastOk m r := by
 have := h.run_
 simp only [run] at this
 unfold goodM
 rw [← this]; rfl
theorem set9_far {B k : Nat} (h : k ≠ B) (w : World) (y0 y1 y2 y3 y4 y5 y6 y7 y8 : Value) : (((((((((w.setCell ⟨B, 0, none⟩ y0).setCell ⟨B, 1, none⟩ y1).setCell ⟨B, 2, none⟩ y2).setCell ⟨B, 3, none⟩ y3).setCell ⟨B, 4, none⟩ y4).setCell ⟨B, 5, none⟩ y5).setCell ⟨B, 6, none⟩ y6).setCell ⟨B, 7, none⟩ y7).setCell ⟨B, 8, none⟩ y8).heap[k]? = w.heap[k]? := by
 rw [Below.heap_setCell _ _ _ k h, Below.heap_setCell _ _ _ k h, Below.heap_setCell _ _ _ k h, Below.heap_setCell _ _ _ k h, Below.heap_setCell _ _ _ k h, Below.heap_setCell _ _ _ k h, Below.heap_setCell _ _ _ k h, Below.heap_setCell _ _ _ k h, Below.heap_setCell _ _ _ k h]
set_option maxHeartbeats 8000000 in
set_option maxRecDepth 100000 in
theorem good_c (m : Mg) (go gn : Bool) (w : World) (ho : ∃ A n c, m.o = .slice A n c ∧ n ≤ 4611686018427387904) (hn : ∃ A n c, m.n = .slice A n c ∧ n ≤ 4611686018427387904)
  (HG : ∀ W, Below w.heap.size w W → Calls Try.prog 30 #[m.o] W fun e W' => e = .returned (.bool go) ∧ Below W.heap.size W W')
  (HN : ∀ W, Below w.heap.size w W → Calls Try.prog 48 #[m.n] W fun e W' => e = .returned (.bool gn) ∧ Below W.heap.size W W') :
  Calls Try.prog 25 #[m.val] w fun e w' => e = .returned (.bool (goodM m go gn)) ∧ Below w.heap.size w w' := by
 have HRS := Aside0.mk (Rs.start m go gn)
 obtain ⟨Ao, no, co, ho, hno⟩ := ho
 obtain ⟨An, nn, cn, hn, hnn⟩ := hn
 have HGG := Aside0.mk HG
 have HNN := Aside0.mk HN
 have HNO := Aside0.mk hno
 have HNB := Aside0.mk hnn
 obtain ⟨M, hM⟩ : ∃ M, M = m := ⟨_, rfl⟩
 have HMM := Aside0.mk hM
 obtain ⟨k, c, e, r, s, d, o, t, n⟩ := m
 obtain rfl : o = .slice Ao no co := ho
 obtain rfl : n = .slice An nn cn := hn
 have HOF := Aside0.mk (show M.o = .slice Ao no co by rw [hM])
 have HNF := Aside0.mk (show M.n = .slice An nn cn by rw [hM])
 have HKF := Aside0.mk (show M.k = k by rw [hM])
 rw [← hM] at HRS
 clear HG HN hno hnn hM
 obtain ⟨B, hB⟩ : ∃ B, B = w.heap.size := ⟨_, rfl⟩
 obtain ⟨w2, hw2⟩ : ∃ w2, w2 = (w.alloc (.cells #[.int .i64 k, .int .i64 c, .int .i64 e, .int .i64 r, .int .i64 s, .int .i64 d, .slice Ao no co, .string t, .slice An nn cn] 60)).alloc (.cells #[.int .i64 0, .int .i64 0, .int .i64 0, .int .i64 0, .int .i64 0, .int .i64 0, .slice none 0 0, .string ⟨#[]⟩, .slice none 0 0] 60) := ⟨_, rfl⟩
 have HBB := Aside0.mk (show Blk B ⟨k, c, e, r, s, d, .slice Ao no co, t, .slice An nn cn⟩ w2 by unfold Blk; rw [hw2, hB, Own.heap_old _ _ _ (by simp)]; exact Own.heap_new _ _)
 have HZZ := Aside0.mk (show Blk (B + 1) ⟨0, 0, 0, 0, 0, 0, .slice none 0 0, ⟨#[]⟩, .slice none 0 0⟩ w2 by unfold Blk; rw [hw2, hB]; have := Own.heap_new (w.alloc (.cells #[.int .i64 k, .int .i64 c, .int .i64 e, .int .i64 r, .int .i64 s, .int .i64 d, .slice Ao no co, .string t, .slice An nn cn] 60)) (.cells #[.int .i64 0, .int .i64 0, .int .i64 0, .int .i64 0, .int .i64 0, .int .i64 0, .slice none 0 0, .string ⟨#[]⟩, .slice none 0 0] 60); rw [World.size_alloc] at this; exact this)
 have HLO := Aside0.mk (show Below w.heap.size w w2 by rw [hw2]; exact below_alloc (below_alloc (Below.refl _ _) _) _)
 have HW2 := Aside0.mk hw2
 have HBE := Aside0.mk hB
 clear hw2 hB
 obtain ⟨⟨x0, x1, x2, x3, x4, x5⟩, x6, x7, x8⟩ := HBB.out.cells
 obtain ⟨⟨z0, z1, z2, z3, z4, z5⟩, z6, z7, z8⟩ := HZZ.out.cells
 have g0 := HZZ.out.fz 0
 have g1 := HZZ.out.fz 1
 have g2 := HZZ.out.fz 2
 have g3 := HZZ.out.fz 3
 have g4 := HZZ.out.fz 4
 have g5 := HZZ.out.fz 5
 have g6 := HZZ.out.fz 6
 have g7 := HZZ.out.fz 7
 have g8 := HZZ.out.fz 8
 go_enter Try.func25, Try.ntmps25
 unfold Mg.val Mg.cs
 go_wp2_with (first | rw [← HBE.out, ← HW2.out])
 have HZ2 := Aside0.mk (HZZ.out.set k c e r s d (.slice Ao no co) t (.slice An nn cn))
 have HL2 := Aside0.mk (below_set9 HLO.out (B := B + 1) (by have := HBE.out; omega) (.int .i64 k) (.int .i64 c) (.int .i64 e) (.int .i64 r) (.int .i64 s) (.int .i64 d) (.slice Ao no co) (.string t) (.slice An nn cn))
 have HB2 := Aside0.mk (((below_set9 (Below.refl (B + 1) w2) (B := B + 1) (Nat.le_refl _) (.int .i64 k) (.int .i64 c) (.int .i64 e) (.int .i64 r) (.int .i64 s) (.int .i64 d) (.slice Ao no co) (.string t) (.slice An nn cn)).block B (by omega)).trans HBB.out)
 refine (message_fields.calls k _ _ (fields_f k)).mono ?_
 rintro e1 w3 ⟨v, rfl, hr, hb⟩
 have HZ3 := Aside0.mk (HZ2.out.below hb)
 have HB3 := Aside0.mk (Blk.below HB2.out hb)
 have HL3 := Aside0.mk (below_step HL2.out hb)
 have hr' := Kd.R_mono (ok' := fun k => B + 1 < k) (Kd.R_bound hr) (fun k hk => by
  have h1 := (HZ2.out.lt)
  have h2 := hk.2.1
  omega)
 obtain ⟨F, cF, rfl⟩ := Kd.R_slice hr'
 obtain ⟨bs, hbs⟩ : ∃ bs, bs = (((((((((w2.setCell ⟨B + 1, 0, none⟩ (.int .i64 k)).setCell ⟨B + 1, 1, none⟩ (.int .i64 c)).setCell ⟨B + 1, 2, none⟩ (.int .i64 e)).setCell ⟨B + 1, 3, none⟩ (.int .i64 r)).setCell ⟨B + 1, 4, none⟩ (.int .i64 s)).setCell ⟨B + 1, 5, none⟩ (.int .i64 d)).setCell ⟨B + 1, 6, none⟩ (.slice Ao no co)).setCell ⟨B + 1, 7, none⟩ (.string t)).setCell ⟨B + 1, 8, none⟩ (.slice An nn cn)).heap.size := ⟨_, rfl⟩
 rw [← hbs] at hr'
 have HCF := Aside0.mk hr'
 have HFO := Aside0.mk (fields_ok k)
 obtain ⟨fs, hfs⟩ : ∃ fs, fs = fieldsL k := ⟨_, rfl⟩
 rw [← hfs] at HCF HFO ⊢
 have HFS := Aside0.mk hfs
 rw [HKF.out, ← hfs] at HRS
 clear hb hr hr' hbs hfs x0 x1 x2 x3 x4 x5 x6 x7 x8 z0 z1 z2 z3 z4 z5 z6 z7 z8 g0 g1 g2 g3 g4 g5 g6 g7 g8 HBB HZZ HZ2 HL2 HB2 HLO HW2
 go_wp2_with fail
 go_loopw [12] (fun iv wr => ∃ (j : Nat) (rr : Mg), j ≤ fs.length ∧ iv = .int .i64 (j : Int) ∧ Rs M go gn (fs.drop j) rr ∧ Blk B ⟨k, c, e, r, s, d, .slice Ao no co, t, .slice An nn cn⟩ wr ∧ Blk (B + 1) rr wr ∧ Below w.heap.size w wr ∧ Kd.R (Kd.int .i64) 70 wr bs (fun k => B + 1 < k) (.slice F fs.length cF) fs) (fun iv _ => fs.length - (intOf iv).toNat)
 case atStart => exact ⟨0, _, Nat.zero_le _, rfl, HRS.out, HB3.out, by rw [HMM.out]; exact HZ3.out, HL3.out, HCF.out⟩
 case round =>
  obtain ⟨j, rr, hj, rfl, hrs, hB, hZ, hL, hC⟩ := hrel
  have HBj := Aside0.mk hB
  have HZj := Aside0.mk hZ
  have HLj := Aside0.mk hL
  have HCj := Aside0.mk hC
  have HRj := Aside0.mk hrs
  clear hB hZ hL hC hrs
  by_cases hlt : j < fs.length
  ·obtain ⟨f, hf⟩ : ∃ f, f = rd fs (j : Int) := ⟨_, rfl⟩
   have h4 : j < 4 := by have := HFO.out.2.2; omega
   have hdr := drop_rd hlt
   rw [← hf] at hdr
   have hmem : f ∈ fs := List.mem_of_mem_drop (i := j) (by rw [hdr]; exact List.mem_cons_self)
   have hnd : (f :: fs.drop (j + 1)).Nodup := by rw [← hdr]; exact HFO.out.1.sublist (List.drop_sublist _ _)
   have h08 := HFO.out.2.1 f hmem
   rw [hdr] at HRj
   obtain ⟨ad, rfl, y⟩ := Kd.at_int (Kd.R_reads' HCj.out).2.2 (j : Int) (by omega) (by omega)
   rw [Int.toNat_natCast, ← hf] at y
   have HWO := Aside0.mk (without_c rr go gn f h08.1 h08.2 wr (by
     rcases HRj.out.o with h | h
     ·exact ⟨_, _, _, h.trans HOF.out⟩
     ·exact ⟨_, _, _, h.1⟩) (by
     rcases HRj.out.n with h | h
     ·exact ⟨_, _, _, h.trans HNF.out⟩
     ·exact ⟨_, _, _, h.1⟩)
    (fun h5 W hW => by
     rcases HRj.out.o with h | h
     ·rw [h, HOF.out]; exact HGG.out W (HLj.out.trans (hW.mono HLj.out.size))
     ·exact absurd (show (5 : Int) ∈ f :: fs.drop (j + 1) by rw [h5]; exact List.mem_cons_self) h.2)
    (fun h5 W hW => by
     rcases HRj.out.n with h | h
     ·rw [h, HNF.out]; exact HNN.out W (HLj.out.trans (hW.mono HLj.out.size))
     ·exact absurd (show (7 : Int) ∈ f :: fs.drop (j + 1) by rw [h5]; exact List.mem_cons_self) h.2))
   have HST := Aside0.mk (fun hok => HRj.out.step hok hnd h08.1 h08.2)
   have HBA := Aside0.mk (fun hok => HRj.out.bad hok)
   have HFF := Aside0.mk (show (∃ A n c, (rr.strip f.toNat).o = .slice A n c) ∧ (∃ A n c, (rr.strip f.toNat).n = .slice A n c) from ⟨by
     rw [strip_o]
     split
     ·exact ⟨_, _, _, rfl⟩
     ·rcases HRj.out.o with h | h
      ·exact ⟨_, _, _, h.trans HOF.out⟩
      ·exact ⟨_, _, _, h.1⟩, by
     rw [strip_n _ _ (by omega)]
     split
     ·exact ⟨_, _, _, rfl⟩
     ·rcases HRj.out.n with h | h
      ·exact ⟨_, _, _, h.trans HNF.out⟩
      ·exact ⟨_, _, _, h.1⟩⟩)
   obtain ⟨r2, hr2⟩ : ∃ r2, r2 = rr.strip f.toNat := ⟨_, rfl⟩
   obtain ⟨ok, hok⟩ : ∃ ok, ok = rr.ok go gn f.toNat := ⟨_, rfl⟩
   rw [← hr2] at HWO HFF HST
   rw [← hok] at HWO HBA HST
   obtain ⟨⟨x0, x1, x2, x3, x4, x5⟩, x6, x7, x8⟩ := HZj.out.cells
   have hlt' : (j : Int) < (fs.length : Int) := by omega
   clear hr2 hok hnd h08 hmem hdr hf HRj HGG HNN
   obtain ⟨k2, c2, e2, q2, s2, d2, o2, t2, n2⟩ := r2
   obtain ⟨⟨Ao2, no2, co2, ho2⟩, An2, nn2, cn2, hn2⟩ := HFF.out
   obtain rfl : o2 = .slice Ao2 no2 co2 := ho2
   obtain rfl : n2 = .slice An2 nn2 cn2 := hn2
   go_wp2_with fail
   refine HWO.out.mono ?_
   unfold Mg.val Mg.cs
   rintro e9 w4 ⟨rfl, hb⟩
   have HB4 := Aside0.mk (HBj.out.below hb)
   have HZ4 := Aside0.mk (HZj.out.below hb)
   have HL4 := Aside0.mk (below_step HLj.out hb)
   have HC4 := Aside0.mk (Kd.R_below HCj.out hb)
   clear hb x0 x1 x2 x3 x4 x5 x6 x7 x8 y HWO HBj HZj HLj HCj HFF
   have HZ5 := Aside0.mk (HZ4.out.set k2 c2 e2 q2 s2 d2 (.slice Ao2 no2 co2) t2 (.slice An2 nn2 cn2))
   have HX := Aside0.mk (below_set9 (Below.refl (B + 1) w4) (B := B + 1) (Nat.le_refl _) (.int .i64 k2) (.int .i64 c2) (.int .i64 e2) (.int .i64 q2) (.int .i64 s2) (.int .i64 d2) (.slice Ao2 no2 co2) (.string t2) (.slice An2 nn2 cn2))
   have HL5 := Aside0.mk (below_set9 HL4.out (B := B + 1) (by have := HBE.out; omega) (.int .i64 k2) (.int .i64 c2) (.int .i64 e2) (.int .i64 q2) (.int .i64 s2) (.int .i64 d2) (.slice Ao2 no2 co2) (.string t2) (.slice An2 nn2 cn2))
   have HC5 := Aside0.mk (Kd.R_step HC4.out (fun K hK _ => set9_far (B := B + 1) (by omega) w4 (.int .i64 k2) (.int .i64 c2) (.int .i64 e2) (.int .i64 q2) (.int .i64 s2) (.int .i64 d2) (.slice Ao2 no2 co2) (.string t2) (.slice An2 nn2 cn2)))
   have HB5 := Aside0.mk ((HX.out.block B (by omega)).trans HB4.out)
   obtain ⟨⟨x0, x1, x2, x3, x4, x5⟩, x6, x7, x8⟩ := HZ4.out.cells
   have g0 := HZ4.out.fz 0
   have g1 := HZ4.out.fz 1
   have g2 := HZ4.out.fz 2
   have g3 := HZ4.out.fz 3
   have g4 := HZ4.out.fz 4
   have g5 := HZ4.out.fz 5
   have g6 := HZ4.out.fz 6
   have g7 := HZ4.out.fz 7
   have g8 := HZ4.out.fz 8
   cases ok with
   | false =>
    have HQ := Aside0.mk (HBA.out rfl)
    have HQ2 := Aside0.mk (show goodM ⟨k, c, e, r, s, d, .slice Ao no co, t, .slice An nn cn⟩ go gn = false by rw [← HMM.out]; exact HQ.out)
    go_wp2_with fail
    go_ret
    exact ⟨by rw [HQ2.out]; rfl, HL5.out⟩
   | true =>
    have HRS2 := Aside0.mk (HST.out rfl)
    go_wp2_with fail
    go_roundw
    case rel => exact ⟨j + 1, _, by omega, by go_num, HRS2.out, HB5.out, HZ5.out, HL5.out, HC5.out⟩
    case measure => simp [intOf]; omega
  ·obtain rfl : j = fs.length := by omega
   rw [List.drop_eq_nil_of_le (Nat.le_refl _)] at HRj
   have hlt' : ¬ ((fs.length : Int) < (fs.length : Int)) := by omega
   have HFF := Aside0.mk (show (∃ A n c, rr.o = .slice A n c ∧ n ≤ 4611686018427387904) ∧ (∃ A n c, rr.n = .slice A n c ∧ n ≤ 4611686018427387904) from ⟨by
     rcases HRj.out.o with h | h
     ·exact ⟨_, _, _, h.trans HOF.out, HNO.out⟩
     ·exact ⟨_, _, _, h.1, by decide⟩, by
     rcases HRj.out.n with h | h
     ·exact ⟨_, _, _, h.trans HNF.out, HNB.out⟩
     ·exact ⟨_, _, _, h.1, by decide⟩⟩)
   obtain ⟨⟨x0, x1, x2, x3, x4, x5⟩, x6, x7, x8⟩ := HBj.out.cells
   obtain ⟨⟨z0, z1, z2, z3, z4, z5⟩, z6, z7, z8⟩ := HZj.out.cells
   clear HGG HNN HRS HCj
   go_wp2_with fail
   refine (message_fields.calls k _ _ (fields_f k)).mono ?_
   rintro e9 w4 ⟨v, rfl, hr, hb⟩
   have HZ4 := Aside0.mk (HZj.out.below hb)
   have HB4 := Aside0.mk (HBj.out.below hb)
   have HL4 := Aside0.mk (below_step HLj.out hb)
   rw [← HFS.out] at hr
   obtain ⟨F2, cF2, rfl⟩ := Kd.R_slice hr
   have HGL := Aside0.mk (show goodM ⟨k, c, e, r, s, d, .slice Ao no co, t, .slice An nn cn⟩ go gn = (!fs.isEmpty && Mg.same rr (kindM k) (nil0 rr.o) (nil0 rr.n)) by
    rw [← HMM.out, HRj.out.last]; unfold lastOk; rw [HKF.out, HFS.out])
   clear hb hr x0 x1 x2 x3 x4 x5 x6 x7 x8 z0 z1 z2 z3 z4 z5 z6 z7 z8 HCF
   obtain ⟨⟨x0, x1, x2, x3, x4, x5⟩, x6, x7, x8⟩ := HB4.out.cells
   obtain ⟨⟨z0, z1, z2, z3, z4, z5⟩, z6, z7, z8⟩ := HZ4.out.cells
   by_cases hp : 0 < fs.length
   ·have hp' : (0 : Int) < (fs.length : Int) := by omega
    obtain ⟨⟨A1, n1, c1, e1, b1⟩, A2, n2, c2, e2, b2⟩ := HFF.out
    have HSS := Aside0.mk (same_c rr (kindM k) (nil0 rr.o) (nil0 rr.n) w4 ⟨_, _, _, e1⟩ ⟨_, _, _, e2⟩ ⟨_, _, _, rfl⟩ ⟨_, _, _, rfl⟩ (fun W _ => by rw [e1]; exact eqrun_nil A1 n1 c1 b1 W) (fun W _ => by rw [e2]; exact eqnote_nil A2 n2 c2 b2 W))
    have HEM := Aside0.mk (show fs.isEmpty = false by cases fs with
     | nil => exact absurd hp (by simp)
     | cons => rfl)
    clear e1 e2 b1 b2 hp
    go_wp2_with fail
    refine HSS.out.mono ?_
    rintro e9 w5 ⟨rfl, hb⟩
    have HL5 := Aside0.mk (below_step HL4.out hb)
    clear hb x0 x1 x2 x3 x4 x5 x6 x7 x8 z0 z1 z2 z3 z4 z5 z6 z7 z8
    go_wp2_with fail
    go_ret
    exact ⟨by rw [HGL.out, HEM.out]; rfl, HL5.out⟩
   ·have hp' : ¬ (0 : Int) < (fs.length : Int) := by omega
    have HEM := Aside0.mk (show fs.isEmpty = true by cases fs with
     | nil => rfl
     | cons => exact absurd (by simp) hp)
    clear hp
    go_wp2_with fail
    go_ret
    exact ⟨by rw [HGL.out, HEM.out]; rfl, HL4.out⟩
end Go.Proofs.Ytjbnffadfohofaa.MsgD
end
-- MERGED YtjbnffadfohofaaMsgF
section
namespace Go.Proofs.Ytjbnffadfohofaa.MsgF
open Go.RowKit Go.Proofs.Ytjbnffadfohofaa.P Go.Proofs.YtjbnffadfohofaaW.PrintWords Go.Proofs.YtjbnffadfohofaaW.PrintLast Go.Proofs.YtjbnffadfohofaaW.PrintMore Go.Proofs.Ytjbnffadfohofaa.Own Go.Proofs.Ytjbnffadfohofaa.NoteN
set_option linter.unusedSimpArgs false
set_option linter.unusedVariables false
def MsgF.T5 : Bool × List (List Nat × List Nat) := (true, [([], []), ([0], [0]), ([1], [1]), ([2], [2]), ([3], [3]), ([4, 3], [3, 4]), ([5, 3], [3, 5]), ([3, 6], [3, 6]), ([7, 3], [7]), ([8], [8]), ([9, 8], [8, 9]), ([10, 8, 8], [8, 10]), ([11], [11]), ([11], [11]), ([13, 11], [11, 13]), ([12, 14, 11], [11, 12, 14]), ([15, 11], [11, 15]), ([11], [11]), ([16, 17, 11, 11], [11, 16, 17]), ([18, 11], [11, 18]), ([11, 19, 8], [8, 11, 19]), ([8, 20], [8, 20]), ([21, 18], [21])])
def MsgF.B5 : List Nat := [0, 1, 3, 7, 15, 31, 63, 127, 255, 511, 1023, 2047, 4095, 4095, 12287, 32767, 65535, 4095, 262143, 524287, 1048575, 2097151, 4194303]
theorem MsgF.tab5 : rtab .any (opsOf Try.f48 5) = MsgF.T5 := by kernel_rfl
theorem MsgF.bits5 : waitsOk MsgF.T5.2 MsgF.B5 = true := by kernel_rfl
theorem less_f (a b : Nt) : message_less.f a.f0.f0 a.f0.f1 a.f1 b.f0.f0 b.f0.f1 b.f1 = some (lessN a b) := by
 unfold message_less.f lessN
 repeat' split
 all_goals rfl
theorem less_c (a b : Nt) (w : World) : Calls Try.prog 55 #[.agg #[.int .i64 a.f0.f0, .int .i64 a.f0.f1, .int .i64 a.f1], .agg #[.int .i64 b.f0.f0, .int .i64 b.f0.f1, .int .i64 b.f1]] w fun e w' => e = .returned (.bool (lessN a b)) ∧ Below w.heap.size w w' :=
 message_less.calls _ _ _ _ _ _ _ w (less_f a b)
set_option maxHeartbeats 16000000 in
set_option maxRecDepth 100000 in
theorem fine_c (A : Option Addr) (c : Nat) (l : List Nt) (w : World) (hC : NC w A l) (hc : l.length ≤ c) (hl : l.length ≤ 1000000) :
  Calls Try.prog 48 #[.slice A l.length c] w fun e w' => e = .returned (.bool (fineL l)) ∧ Below w.heap.size w w' := by
 have HC := Aside0.mk hC
 have HL := Aside0.mk hl
 clear hC hl hc
 go_enter Try.func48, Try.ntmps48
 go_wp2_with fail
 go_loopw [7] (fun iv wr => ∃ j : Nat, j ≤ l.length ∧ iv = .int .i64 (j : Int) ∧ fineR (prevO l j) (l.drop j) = fineR none l ∧ Below w.heap.size w wr) (fun iv _ => l.length - (intOf iv).toNat)
 case atStart => exact ⟨0, Nat.zero_le _, rfl, rfl, Below.refl _ _⟩
 case round =>
  obtain ⟨j, hj, rfl, ho, hb⟩ := hrel
  have HB := Aside0.mk hb
  have HO := Aside0.mk ho
  clear hb ho
  by_cases hlt : j < l.length
  ·have hlt' : (j : Int) < (l.length : Int) := by omega
   have h6 : j < 1000000 := by have := HL.out; omega
   have HST := Aside0.mk (fine_step hlt)
   have HPV := Aside0.mk (fun hp : 0 < j => at_nt (NC.below HC.out HB.out) (j - 1) (by omega))
   obtain ⟨ad, rfl, y0, y1, y2⟩ := at_nt (NC.below HC.out HB.out) j hlt
   obtain ⟨x, hx⟩ : ∃ x, x = l.getD j z44 := ⟨_, rfl⟩
   rw [← hx] at y0 y1 y2 HST
   obtain ⟨g, hg⟩ : ∃ g, g = wr.heap.size := ⟨_, rfl⟩
   obtain ⟨w1, hw1⟩ : ∃ w1, w1 = wr.alloc (.cells #[.int .i64 0, .int .i64 0, .int .i64 0] 44) := ⟨_, rfl⟩
   obtain ⟨w2, hw2⟩ : ∃ w2, w2 = ((w1.setCell ⟨g, 0, none⟩ (.int .i64 x.f0.f0)).setCell ⟨g, 1, none⟩ (.int .i64 x.f0.f1)).setCell ⟨g, 2, none⟩ (.int .i64 x.f1) := ⟨_, rfl⟩
   have HT1 := Aside0.mk (show w1.heap[g]? = some (.cells #[.int .i64 0, .int .i64 0, .int .i64 0] 44 (0, 0)) by rw [hw1, hg]; exact Own.heap_new _ _)
   have HGE := Aside0.mk (show w.heap.size ≤ g by rw [hg]; exact HB.out.size)
   have HB2 := Aside0.mk (show Below w.heap.size w w2 by rw [hw2]; exact below_set3 (by rw [hw1]; exact below_alloc HB.out _) HGE.out _ _ _)
   have ht2 : w2.heap[g]? = some (.cells #[.int .i64 x.f0.f0, .int .i64 x.f0.f1, .int .i64 x.f1] 44 (0, 0)) := by rw [hw2]; exact set3 HT1.out _ _ _
   have HW1 := Aside0.mk hw1
   have HG1 := Aside0.mk hg
   have HW2 := Aside0.mk hw2
   have a0 : w1.cell? ⟨g, 0, none⟩ = some (.int .i64 0) := by rw [cell_of_row _ _ 0 _ _ _ HT1.out]; rfl
   have a1 : w1.cell? ⟨g, 1, none⟩ = some (.int .i64 0) := by rw [cell_of_row _ _ 1 _ _ _ HT1.out]; rfl
   have a2 : w1.cell? ⟨g, 2, none⟩ = some (.int .i64 0) := by rw [cell_of_row _ _ 2 _ _ _ HT1.out]; rfl
   have b0 : w1.frozen? ⟨g, 0, none⟩ = false := frozen_of_row _ _ 0 _ _ HT1.out
   have b1 : w1.frozen? ⟨g, 1, none⟩ = false := frozen_of_row _ _ 1 _ _ HT1.out
   have b2 : w1.frozen? ⟨g, 2, none⟩ = false := frozen_of_row _ _ 2 _ _ HT1.out
   have t0 : w2.cell? ⟨g, 0, none⟩ = some (.int .i64 x.f0.f0) := by rw [cell_of_row _ _ 0 _ _ _ ht2]; rfl
   have t1 : w2.cell? ⟨g, 1, none⟩ = some (.int .i64 x.f0.f1) := by rw [cell_of_row _ _ 1 _ _ _ ht2]; rfl
   have t2 : w2.cell? ⟨g, 2, none⟩ = some (.int .i64 x.f1) := by rw [cell_of_row _ _ 2 _ _ _ ht2]; rfl
   have HT2 := Aside0.mk ht2
   have HLT := Aside0.mk hlt
   clear hw1 hg hx hlt ht2 hw2
   by_cases hs : 0 ≤ x.f0.f0 ∧ x.f0.f0 ≤ x.f0.f1 ∧ x.f0.f1 ≤ 16777216
   ·have HSP := Aside0.mk hs
    obtain ⟨h1, h2, h3⟩ := hs
    go_wp2_with (first | rw [← HG1.out, ← HW1.out] | rw [← HW2.out])
    have HALL := Aside0.mk (fun (W : World) (hW : Below w2.heap.size w2 W) => (show W.cell? ⟨g, 0, none⟩ = some (.int .i64 x.f0.f0) ∧ W.cell? ⟨g, 1, none⟩ = some (.int .i64 x.f0.f1) ∧ W.cell? ⟨g, 2, none⟩ = some (.int .i64 x.f1) by
     have h := (hW.block g (Array.getElem?_eq_some_iff.1 HT2.out).1).trans HT2.out
     exact ⟨by rw [cell_of_row _ _ 0 _ _ _ h]; rfl, by rw [cell_of_row _ _ 1 _ _ _ h]; rfl, by rw [cell_of_row _ _ 2 _ _ _ h]; rfl⟩))
    have HBO := Aside0.mk HB2.out
    clear a0 a1 a2 b0 b1 b2 t0 t1 t2 y0 y1 y2 HB2 h1 h2 h3
    have HB2 := Aside0.mk (Below.refl w2.heap.size w2)
    by_cases c1 : 0 ≤ x.f1
    ·have d1 : ¬ x.f1 < 0 := by omega
     by_cases c2 : x.f1 ≤ 65536
     ·have d2 : ¬ 65536 < x.f1 := by omega
      have HOK := Aside0.mk (okX_yes HSP.out ⟨c1, c2⟩)
      by_cases hj0 : j = 0
      ·subst hj0
       have HST2 := Aside0.mk (show fineR (prevO l 1) (l.drop 1) = fineR none l by rw [← HO.out, HST.out, HOK.out]; rfl)
       clear HST HO
       refine start_ (n := 23) (S := fun w' => True) (ds := []) #[false, false, false, false, false, false, false, false, false, false, false, false, false, false, false, false, false, false, false, false, false, false, false] (by kernel_rfl) rfl rfl trivial (fun hHeld => ?_); refine with_tabW MsgF.tab5 MsgF.bits5 (fun HT_ HW_ => ?_)
       refine inv_at [0, 1, 2, 3, 4, 5, 6, 7, 8, 9, 10, 11, 12, 13, 14, 15, 16, 17, 18, 19, 20, 21, 22] (fun a0_ b a w' => a = putSel a0_ b [(0, 33, (.pointer (some ⟨g, 2, none⟩))), (1, 34, (.int .i64 x.f1)), (2, 35, (.bool false)), (3, 36, (.bool false)), (4, 37, (.pointer (some ⟨g, 2, none⟩))), (5, 38, (.int .i64 x.f1)), (6, 39, (.bool false)), (7, 40, (.bool false)), (8, 41, (.bool false)), (9, 42, (.int .i64 0)), (10, 43, (.bool false)), (11, 44, (.bool false)), (12, 45, undef), (13, 46, undef), (14, 47, undef), (15, 48, undef), (16, 49, undef), (17, 50, undef), (18, 51, undef), (19, 52, undef), (20, 53, (.bool false)), (21, 54, (.bool false)), (22, 32, (.bool false))] ∧ (Below w2.heap.size w2 w')) HT_.out HW_.out (by kernel_rfl) (by kernel_rfl) ?_ ?_ ?_
       ·exact ⟨by simp only [putSel, Bool.false_eq_true, if_false], below_drew1 HB2.out⟩
       ·skip
        clear HB2
        refine steps_cons ?_ ?_
        ·rintro b a w' ⟨ha, Q_HB2⟩ hb_ hon hoff
         refine ⟨_, rfl, fun K hK => ?_⟩
         have e4 : a.tmps[4]? = some ((.pointer (some ⟨g, 0, none⟩))) := by rw [ha]; exact (putSel_off rfl).trans rfl
         replace ha := Aside0.mk ha
         have HB2 := Aside0.mk Q_HB2
         refine value_ (w1 := w') (v := (.pointer (some ⟨g, 2, none⟩))) (by rfl) rfl ?_ ?_
         ·go_simp
          (try simp only [i64_w])
          try (first | rfl | assumption)
         refine hK.out _ _ ⟨(by rw [ha.out]; exact putSel_upk 0 hb_ rfl rfl rfl), Q_HB2⟩
        refine steps_cons ?_ ?_
        ·rintro b a w' ⟨ha, Q_HB2⟩ hb_ hon hoff
         refine ⟨_, rfl, fun K hK => ?_⟩
         have e33 : a.tmps[33]? = some ((.pointer (some ⟨g, 2, none⟩))) := by rw [ha]; exact putSel_on (e := (0, 33, (.pointer (some ⟨g, 2, none⟩)))) 0 rfl rfl (hon 0 (by kernel_rfl)) rfl
         replace ha := Aside0.mk ha
         have HB2 := Aside0.mk Q_HB2
         obtain ⟨x0_, x1_, x2_⟩ := HALL.out _ HB2.out
         refine value_ (w1 := w') (v := (.int .i64 x.f1)) (by rfl) rfl ?_ ?_
         ·go_simp
          (try simp only [i64_w])
          try (first | rfl | assumption)
         refine hK.out _ _ ⟨(by rw [ha.out]; exact putSel_upk 1 hb_ rfl rfl rfl), Q_HB2⟩
        refine steps_cons ?_ ?_
        ·rintro b a w' ⟨ha, Q_HB2⟩ hb_ hon hoff
         refine ⟨_, rfl, fun K hK => ?_⟩
         have e34 : a.tmps[34]? = some ((.int .i64 x.f1)) := by rw [ha]; exact putSel_on (e := (1, 34, (.int .i64 x.f1))) 1 rfl rfl (hon 1 (by kernel_rfl)) rfl
         replace ha := Aside0.mk ha
         have HB2 := Aside0.mk Q_HB2
         refine value_ (w1 := w') (v := (.bool false)) (by rfl) rfl ?_ ?_
         ·go_simp
          (try simp only [i64_w])
          try (first | rfl | assumption)
         refine hK.out _ _ ⟨(by rw [ha.out]; exact putSel_upk 2 hb_ rfl rfl rfl), Q_HB2⟩
        refine steps_cons ?_ ?_
        ·rintro b a w' ⟨ha, Q_HB2⟩ hb_ hon hoff
         refine ⟨_, rfl, fun K hK => ?_⟩
         have e35 : a.tmps[35]? = some ((.bool false)) := by rw [ha]; exact putSel_on (e := (2, 35, (.bool false))) 2 rfl rfl (hon 2 (by kernel_rfl)) rfl
         replace ha := Aside0.mk ha
         have HB2 := Aside0.mk Q_HB2
         refine value_ (w1 := w') (v := (.bool false)) (by rfl) rfl ?_ ?_
         ·go_simp
          (try simp only [i64_w])
          try (first | rfl | assumption)
         refine hK.out _ _ ⟨(by rw [ha.out]; exact putSel_upk 3 hb_ rfl rfl rfl), Q_HB2⟩
        refine steps_cons ?_ ?_
        ·rintro b a w' ⟨ha, Q_HB2⟩ hb_ hon hoff
         refine ⟨_, rfl, fun K hK => ?_⟩
         have e4 : a.tmps[4]? = some ((.pointer (some ⟨g, 0, none⟩))) := by rw [ha]; exact (putSel_off rfl).trans rfl
         have e36 : a.tmps[36]? = some ((.bool false)) := by rw [ha]; exact putSel_on (e := (3, 36, (.bool false))) 3 rfl rfl (hon 3 (by kernel_rfl)) rfl
         replace ha := Aside0.mk ha
         have HB2 := Aside0.mk Q_HB2
         refine value_ (w1 := w') (v := (.pointer (some ⟨g, 2, none⟩))) (wanted_on rfl rfl rfl (e36.trans (by first | rfl | (simp [*]; done)))) rfl ?_ ?_
         ·go_simp
          (try simp only [i64_w])
          try (first | rfl | assumption)
         refine hK.out _ _ ⟨(by rw [ha.out]; exact putSel_upk 4 hb_ rfl rfl rfl), Q_HB2⟩
        refine steps_cons ?_ ?_
        ·rintro b a w' ⟨ha, Q_HB2⟩ hb_ hon hoff
         refine ⟨_, rfl, fun K hK => ?_⟩
         have e37 : a.tmps[37]? = some ((.pointer (some ⟨g, 2, none⟩))) := by rw [ha]; exact putSel_on (e := (4, 37, (.pointer (some ⟨g, 2, none⟩)))) 4 rfl rfl (hon 4 (by kernel_rfl)) rfl
         have e36 : a.tmps[36]? = some ((.bool false)) := by rw [ha]; exact putSel_on (e := (3, 36, (.bool false))) 3 rfl rfl (hon 3 (by kernel_rfl)) rfl
         replace ha := Aside0.mk ha
         have HB2 := Aside0.mk Q_HB2
         obtain ⟨x0_, x1_, x2_⟩ := HALL.out _ HB2.out
         refine value_ (w1 := w') (v := (.int .i64 x.f1)) (wanted_on rfl rfl rfl (e36.trans (by first | rfl | (simp [*]; done)))) rfl ?_ ?_
         ·go_simp
          (try simp only [i64_w])
          try (first | rfl | assumption)
         refine hK.out _ _ ⟨(by rw [ha.out]; exact putSel_upk 5 hb_ rfl rfl rfl), Q_HB2⟩
        refine steps_cons ?_ ?_
        ·rintro b a w' ⟨ha, Q_HB2⟩ hb_ hon hoff
         refine ⟨_, rfl, fun K hK => ?_⟩
         have e38 : a.tmps[38]? = some ((.int .i64 x.f1)) := by rw [ha]; exact putSel_on (e := (5, 38, (.int .i64 x.f1))) 5 rfl rfl (hon 5 (by kernel_rfl)) rfl
         have e36 : a.tmps[36]? = some ((.bool false)) := by rw [ha]; exact putSel_on (e := (3, 36, (.bool false))) 3 rfl rfl (hon 3 (by kernel_rfl)) rfl
         replace ha := Aside0.mk ha
         have HB2 := Aside0.mk Q_HB2
         refine value_ (w1 := w') (v := (.bool false)) (wanted_on rfl rfl rfl (e36.trans (by first | rfl | (simp [*]; done)))) rfl ?_ ?_
         ·go_simp
          (try simp only [i64_w])
          try (first | rfl | assumption)
         refine hK.out _ _ ⟨(by rw [ha.out]; exact putSel_upk 6 hb_ rfl rfl rfl), Q_HB2⟩
        refine steps_cons ?_ ?_
        ·rintro b a w' ⟨ha, Q_HB2⟩ hb_ hon hoff
         refine ⟨_, rfl, fun K hK => ?_⟩
         have e36 : a.tmps[36]? = some ((.bool false)) := by rw [ha]; exact putSel_on (e := (3, 36, (.bool false))) 3 rfl rfl (hon 3 (by kernel_rfl)) rfl
         have e39 : a.tmps[39]? = some ((.bool false)) := by rw [ha]; exact putSel_on (e := (6, 39, (.bool false))) 6 rfl rfl (hon 6 (by kernel_rfl)) rfl
         replace ha := Aside0.mk ha
         have HB2 := Aside0.mk Q_HB2
         refine value_ (w1 := w') (v := (.bool false)) (by rfl) rfl ?_ ?_
         ·go_simp
          (try simp only [i64_w])
          try (first | rfl | assumption)
         refine hK.out _ _ ⟨(by rw [ha.out]; exact putSel_upk 7 hb_ rfl rfl rfl), Q_HB2⟩
        refine steps_cons ?_ ?_
        ·rintro b a w' ⟨ha, Q_HB2⟩ hb_ hon hoff
         refine ⟨_, rfl, fun K hK => ?_⟩
         have e40 : a.tmps[40]? = some ((.bool false)) := by rw [ha]; exact putSel_on (e := (7, 40, (.bool false))) 7 rfl rfl (hon 7 (by kernel_rfl)) rfl
         replace ha := Aside0.mk ha
         have HB2 := Aside0.mk Q_HB2
         refine value_ (w1 := w') (v := (.bool false)) (by rfl) rfl ?_ ?_
         ·go_simp
          (try simp only [i64_w])
          try (first | rfl | assumption)
         refine hK.out _ _ ⟨(by rw [ha.out]; exact putSel_upk 8 hb_ rfl rfl rfl), Q_HB2⟩
        refine steps_cons ?_ ?_
        ·rintro b a w' ⟨ha, Q_HB2⟩ hb_ hon hoff
         refine ⟨_, rfl, fun K hK => ?_⟩
         have e3 : a.tmps[3]? = some ((.int .i64 0)) := by rw [ha]; exact (putSel_off rfl).trans rfl
         have e41 : a.tmps[41]? = some ((.bool false)) := by rw [ha]; exact putSel_on (e := (8, 41, (.bool false))) 8 rfl rfl (hon 8 (by kernel_rfl)) rfl
         replace ha := Aside0.mk ha
         have HB2 := Aside0.mk Q_HB2
         refine value_ (w1 := w') (v := (.int .i64 0)) (wanted_on rfl rfl rfl (e41.trans (by first | rfl | (simp [*]; done)))) rfl ?_ ?_
         ·go_simp
          (try simp only [i64_w])
          try (first | rfl | assumption)
         refine hK.out _ _ ⟨(by rw [ha.out]; exact putSel_upk 9 hb_ rfl rfl rfl), Q_HB2⟩
        refine steps_cons ?_ ?_
        ·rintro b a w' ⟨ha, Q_HB2⟩ hb_ hon hoff
         refine ⟨_, rfl, fun K hK => ?_⟩
         have e42 : a.tmps[42]? = some ((.int .i64 0)) := by rw [ha]; exact putSel_on (e := (9, 42, (.int .i64 0))) 9 rfl rfl (hon 9 (by kernel_rfl)) rfl
         have e41 : a.tmps[41]? = some ((.bool false)) := by rw [ha]; exact putSel_on (e := (8, 41, (.bool false))) 8 rfl rfl (hon 8 (by kernel_rfl)) rfl
         replace ha := Aside0.mk ha
         have HB2 := Aside0.mk Q_HB2
         refine value_ (w1 := w') (v := (.bool false)) (wanted_on rfl rfl rfl (e41.trans (by first | rfl | (simp [*]; done)))) rfl ?_ ?_
         ·go_simp
          (try simp only [i64_w])
          try (first | rfl | assumption)
         refine hK.out _ _ ⟨(by rw [ha.out]; exact putSel_upk 10 hb_ rfl rfl rfl), Q_HB2⟩
        refine steps_cons ?_ ?_
        ·rintro b a w' ⟨ha, Q_HB2⟩ hb_ hon hoff
         refine ⟨_, rfl, fun K hK => ?_⟩
         have e43 : a.tmps[43]? = some ((.bool false)) := by rw [ha]; exact putSel_on (e := (10, 43, (.bool false))) 10 rfl rfl (hon 10 (by kernel_rfl)) rfl
         have e41 : a.tmps[41]? = some ((.bool false)) := by rw [ha]; exact putSel_on (e := (8, 41, (.bool false))) 8 rfl rfl (hon 8 (by kernel_rfl)) rfl
         replace ha := Aside0.mk ha
         have HB2 := Aside0.mk Q_HB2
         refine value_ (w1 := w') (v := (.bool false)) (wanted_on rfl rfl rfl (e41.trans (by first | rfl | (simp [*]; done)))) rfl ?_ ?_
         ·go_simp
          (try simp only [i64_w])
          try (first | rfl | assumption)
         refine hK.out _ _ ⟨(by rw [ha.out]; exact putSel_upk 11 hb_ rfl rfl rfl), Q_HB2⟩
        refine steps_cons ?_ ?_
        ·rintro b a w' ⟨ha, Q_HB2⟩ hb_ hon hoff
         refine ⟨_, rfl, fun K hK => ?_⟩
         have e44 : a.tmps[44]? = some ((.bool false)) := by rw [ha]; exact putSel_on (e := (11, 44, (.bool false))) 11 rfl rfl (hon 11 (by kernel_rfl)) rfl
         replace ha := Aside0.mk ha
         have HB2 := Aside0.mk Q_HB2
         refine off_ (wanted_off rfl rfl rfl (e44.trans (by first | rfl | (simp [*]; done)))) ?_
         refine hK.out _ _ ⟨(by rw [ha.out]; exact putSel_upk 12 hb_ rfl rfl rfl), Q_HB2⟩
        refine steps_cons ?_ ?_
        ·rintro b a w' ⟨ha, Q_HB2⟩ hb_ hon hoff
         refine ⟨_, rfl, fun K hK => ?_⟩
         have e44 : a.tmps[44]? = some ((.bool false)) := by rw [ha]; exact putSel_on (e := (11, 44, (.bool false))) 11 rfl rfl (hon 11 (by kernel_rfl)) rfl
         replace ha := Aside0.mk ha
         have HB2 := Aside0.mk Q_HB2
         refine off_ (wanted_off rfl rfl rfl (e44.trans (by first | rfl | (simp [*]; done)))) ?_
         refine hK.out _ _ ⟨(by rw [ha.out]; exact putSel_upk 13 hb_ rfl rfl rfl), Q_HB2⟩
        refine steps_cons ?_ ?_
        ·rintro b a w' ⟨ha, Q_HB2⟩ hb_ hon hoff
         refine ⟨_, rfl, fun K hK => ?_⟩
         have e44 : a.tmps[44]? = some ((.bool false)) := by rw [ha]; exact putSel_on (e := (11, 44, (.bool false))) 11 rfl rfl (hon 11 (by kernel_rfl)) rfl
         replace ha := Aside0.mk ha
         have HB2 := Aside0.mk Q_HB2
         refine off_ (wanted_off rfl rfl rfl (e44.trans (by first | rfl | (simp [*]; done)))) ?_
         refine hK.out _ _ ⟨(by rw [ha.out]; exact putSel_upk 14 hb_ rfl rfl rfl), Q_HB2⟩
        refine steps_cons ?_ ?_
        ·rintro b a w' ⟨ha, Q_HB2⟩ hb_ hon hoff
         refine ⟨_, rfl, fun K hK => ?_⟩
         have e44 : a.tmps[44]? = some ((.bool false)) := by rw [ha]; exact putSel_on (e := (11, 44, (.bool false))) 11 rfl rfl (hon 11 (by kernel_rfl)) rfl
         replace ha := Aside0.mk ha
         have HB2 := Aside0.mk Q_HB2
         refine off_ (wanted_off rfl rfl rfl (e44.trans (by first | rfl | (simp [*]; done)))) ?_
         refine hK.out _ _ ⟨(by rw [ha.out]; exact putSel_upk 15 hb_ rfl rfl rfl), Q_HB2⟩
        refine steps_cons ?_ ?_
        ·rintro b a w' ⟨ha, Q_HB2⟩ hb_ hon hoff
         refine ⟨_, rfl, fun K hK => ?_⟩
         have e44 : a.tmps[44]? = some ((.bool false)) := by rw [ha]; exact putSel_on (e := (11, 44, (.bool false))) 11 rfl rfl (hon 11 (by kernel_rfl)) rfl
         replace ha := Aside0.mk ha
         have HB2 := Aside0.mk Q_HB2
         refine off_ (wanted_off rfl rfl rfl (e44.trans (by first | rfl | (simp [*]; done)))) ?_
         refine hK.out _ _ ⟨(by rw [ha.out]; exact putSel_upk 16 hb_ rfl rfl rfl), Q_HB2⟩
        refine steps_cons ?_ ?_
        ·rintro b a w' ⟨ha, Q_HB2⟩ hb_ hon hoff
         refine ⟨_, rfl, fun K hK => ?_⟩
         have e44 : a.tmps[44]? = some ((.bool false)) := by rw [ha]; exact putSel_on (e := (11, 44, (.bool false))) 11 rfl rfl (hon 11 (by kernel_rfl)) rfl
         replace ha := Aside0.mk ha
         have HB2 := Aside0.mk Q_HB2
         refine off_ (wanted_off rfl rfl rfl (e44.trans (by first | rfl | (simp [*]; done)))) ?_
         refine hK.out _ _ ⟨(by rw [ha.out]; exact putSel_upk 17 hb_ rfl rfl rfl), Q_HB2⟩
        refine steps_cons ?_ ?_
        ·rintro b a w' ⟨ha, Q_HB2⟩ hb_ hon hoff
         refine ⟨_, rfl, fun K hK => ?_⟩
         have e44 : a.tmps[44]? = some ((.bool false)) := by rw [ha]; exact putSel_on (e := (11, 44, (.bool false))) 11 rfl rfl (hon 11 (by kernel_rfl)) rfl
         replace ha := Aside0.mk ha
         have HB2 := Aside0.mk Q_HB2
         refine off_ (wanted_off rfl rfl rfl (e44.trans (by first | rfl | (simp [*]; done)))) ?_
         refine hK.out _ _ ⟨(by rw [ha.out]; exact putSel_upk 18 hb_ rfl rfl rfl), Q_HB2⟩
        refine steps_cons ?_ ?_
        ·rintro b a w' ⟨ha, Q_HB2⟩ hb_ hon hoff
         refine ⟨_, rfl, fun K hK => ?_⟩
         have e44 : a.tmps[44]? = some ((.bool false)) := by rw [ha]; exact putSel_on (e := (11, 44, (.bool false))) 11 rfl rfl (hon 11 (by kernel_rfl)) rfl
         replace ha := Aside0.mk ha
         have HB2 := Aside0.mk Q_HB2
         refine off_ (wanted_off rfl rfl rfl (e44.trans (by first | rfl | (simp [*]; done)))) ?_
         refine hK.out _ _ ⟨(by rw [ha.out]; exact putSel_upk 19 hb_ rfl rfl rfl), Q_HB2⟩
        refine steps_cons ?_ ?_
        ·rintro b a w' ⟨ha, Q_HB2⟩ hb_ hon hoff
         refine ⟨_, rfl, fun K hK => ?_⟩
         have e44 : a.tmps[44]? = some ((.bool false)) := by rw [ha]; exact putSel_on (e := (11, 44, (.bool false))) 11 rfl rfl (hon 11 (by kernel_rfl)) rfl
         have e52 : a.tmps[52]? = some (undef) := by rw [ha]; exact putSel_on (e := (19, 52, undef)) 19 rfl rfl (hon 19 (by kernel_rfl)) rfl
         have e41 : a.tmps[41]? = some ((.bool false)) := by rw [ha]; exact putSel_on (e := (8, 41, (.bool false))) 8 rfl rfl (hon 8 (by kernel_rfl)) rfl
         replace ha := Aside0.mk ha
         have HB2 := Aside0.mk Q_HB2
         refine value_ (w1 := w') (v := (.bool false)) (wanted_on rfl rfl rfl (e41.trans (by first | rfl | (simp [*]; done)))) rfl ?_ ?_
         ·go_simp
          (try simp only [i64_w])
          try (first | rfl | assumption)
         refine hK.out _ _ ⟨(by rw [ha.out]; exact putSel_upk 20 hb_ rfl rfl rfl), Q_HB2⟩
        refine steps_cons ?_ ?_
        ·rintro b a w' ⟨ha, Q_HB2⟩ hb_ hon hoff
         refine ⟨_, rfl, fun K hK => ?_⟩
         have e41 : a.tmps[41]? = some ((.bool false)) := by rw [ha]; exact putSel_on (e := (8, 41, (.bool false))) 8 rfl rfl (hon 8 (by kernel_rfl)) rfl
         have e53 : a.tmps[53]? = some ((.bool false)) := by rw [ha]; exact putSel_on (e := (20, 53, (.bool false))) 20 rfl rfl (hon 20 (by kernel_rfl)) rfl
         replace ha := Aside0.mk ha
         have HB2 := Aside0.mk Q_HB2
         refine value_ (w1 := w') (v := (.bool false)) (by rfl) rfl ?_ ?_
         ·go_simp
          (try simp only [i64_w])
          try (first | rfl | assumption)
         refine hK.out _ _ ⟨(by rw [ha.out]; exact putSel_upk 21 hb_ rfl rfl rfl), Q_HB2⟩
        refine steps_cons ?_ ?_
        ·rintro b a w' ⟨ha, Q_HB2⟩ hb_ hon hoff
         refine ⟨_, rfl, fun K hK => ?_⟩
         have e54 : a.tmps[54]? = some ((.bool false)) := by rw [ha]; exact putSel_on (e := (21, 54, (.bool false))) 21 rfl rfl (hon 21 (by kernel_rfl)) rfl
         replace ha := Aside0.mk ha
         have HB2 := Aside0.mk Q_HB2
         refine value_ (w1 := w') (v := (.bool false)) (by rfl) rfl ?_ ?_
         ·go_simp
          (try simp only [i64_w])
          try (first | rfl | assumption)
         refine hK.out _ _ ⟨(by rw [ha.out]; exact putSel_upk 22 hb_ rfl rfl rfl), Q_HB2⟩
        exact steps_nil
       rintro b a we hall ⟨ha, Q_HB2⟩
       clear HB2
       have hb0_ := hall 0 (by kernel_rfl)
       have hb1_ := hall 1 (by kernel_rfl)
       have hb2_ := hall 2 (by kernel_rfl)
       have hb3_ := hall 3 (by kernel_rfl)
       have hb4_ := hall 4 (by kernel_rfl)
       have hb5_ := hall 5 (by kernel_rfl)
       have hb6_ := hall 6 (by kernel_rfl)
       have hb7_ := hall 7 (by kernel_rfl)
       have hb8_ := hall 8 (by kernel_rfl)
       have hb9_ := hall 9 (by kernel_rfl)
       have hb10_ := hall 10 (by kernel_rfl)
       have hb11_ := hall 11 (by kernel_rfl)
       have hb12_ := hall 12 (by kernel_rfl)
       have hb13_ := hall 13 (by kernel_rfl)
       have hb14_ := hall 14 (by kernel_rfl)
       have hb15_ := hall 15 (by kernel_rfl)
       have hb16_ := hall 16 (by kernel_rfl)
       have hb17_ := hall 17 (by kernel_rfl)
       have hb18_ := hall 18 (by kernel_rfl)
       have hb19_ := hall 19 (by kernel_rfl)
       have hb20_ := hall 20 (by kernel_rfl)
       have hb21_ := hall 21 (by kernel_rfl)
       have hb22_ := hall 22 (by kernel_rfl)
       subst ha
       simp only [putSel, hb0_, hb1_, hb2_, hb3_, hb4_, hb5_, hb6_, hb7_, hb8_, hb9_, hb10_, hb11_, hb12_, hb13_, hb14_, hb15_, hb16_, hb17_, hb18_, hb19_, hb20_, hb21_, hb22_, if_true, Act.put, List.setIfInBounds_toArray, List.set_cons_zero, List.set_cons_succ]
       have HB2 := Aside0.mk Q_HB2
       clear Q_HB2
       clear hall hb0_ hb1_ hb2_ hb3_ hb4_ hb5_ hb6_ hb7_ hb8_ hb9_ hb10_ hb11_ hb12_ hb13_ hb14_ hb15_ hb16_ hb17_ hb18_ hb19_ hb20_ hb21_ hb22_
       go_wp2_with fail
       go_roundw
       case rel => exact ⟨1, by have := HLT.out; omega, rfl, HST2.out, below_step HBO.out HB2.out⟩
       case measure => simp [intOf]; have := HLT.out; omega
      ·obtain ⟨i, rfl⟩ : ∃ i, j = i + 1 := ⟨j - 1, by omega⟩
       have HJI := Aside0.mk (show (((i + 1 : Nat) : Int)) = (i : Int) + 1 by omega)
       obtain ⟨y, hy⟩ : ∃ y, y = l.getD i z44 := ⟨_, rfl⟩
       have HPV := Aside0.mk (show prevO l (i + 1) = some y by rw [prevO_pos (by omega), hy]; rfl)
       obtain ⟨P, hP⟩ : ∃ P, P = ad.add (i * 3) := ⟨_, rfl⟩
       have HPRE := Aside0.mk (fun (W : World) (hW : Below w2.heap.size w2 W) => (show W.cell? P = some (.int .i64 y.f0.f0) ∧ W.cell? ⟨P.block, P.off + 1, none⟩ = some (.int .i64 y.f0.f1) ∧ W.cell? ⟨P.block, P.off + 2, none⟩ = some (.int .i64 y.f1) by
        obtain ⟨ad2, e2, q0, q1, q2⟩ := at_nt (NC.below HC.out (below_step HBO.out hW)) i (by have := HLT.out; omega)
        obtain rfl := Option.some.inj e2
        rw [hy, hP]
        exact ⟨q0, q1, q2⟩))
       have eP : ad.add (i * 3) = P := hP.symm
       have hi1 : (i : Int) < (l.length : Int) := by have := HLT.out; omega
       have hsub : wrap64 ((i : Int) + 1 - 1) = (i : Int) := by unfold wrap64; omega
       have hsub2 : wrap64 (i : Int) = (i : Int) := by unfold wrap64; omega
       have hpos : (0 : Int) < (i : Int) + 1 := by omega
       obtain ⟨bq, hbq⟩ : ∃ bq, bq = lessN y x := ⟨_, rfl⟩
       have HLE := Aside0.mk (fun W => less_c y x W)
       rw [← hbq] at HLE
       have HBB := Aside0.mk hbq
       clear hP hy hbq hj0
       rw [HJI.out]
       refine start_ (n := 23) (S := fun w' => True) (ds := []) #[false, false, false, false, false, false, false, false, false, false, false, false, false, false, false, false, false, false, false, false, false, false, false] (by kernel_rfl) rfl rfl trivial (fun hHeld => ?_); refine with_tabW MsgF.tab5 MsgF.bits5 (fun HT_ HW_ => ?_)
       refine inv_at [0, 1, 2, 3, 4, 5, 6, 7, 8, 9, 10, 11, 12, 13, 14, 15, 16, 17, 18, 19, 20, 21, 22] (fun a0_ b a w' => a = putSel a0_ b [(0, 33, (.pointer (some ⟨g, 2, none⟩))), (1, 34, (.int .i64 x.f1)), (2, 35, (.bool false)), (3, 36, (.bool false)), (4, 37, (.pointer (some ⟨g, 2, none⟩))), (5, 38, (.int .i64 x.f1)), (6, 39, (.bool false)), (7, 40, (.bool false)), (8, 41, (.bool false)), (9, 42, (.int .i64 ((i : Int) + 1))), (10, 43, (.bool true)), (11, 44, (.bool true)), (12, 45, (.slice (some ad) l.length c)), (13, 46, (.int .i64 ((i : Int) + 1))), (14, 47, (.int .i64 (i : Int))), (15, 48, (.pointer (some P))), (16, 49, (.agg #[.int .i64 y.f0.f0, .int .i64 y.f0.f1, .int .i64 y.f1])), (17, 50, (.agg #[.int .i64 x.f0.f0, .int .i64 x.f0.f1, .int .i64 x.f1])), (18, 51, (.bool bq)), (19, 52, (.bool (!bq))), (20, 53, (.bool (!bq))), (21, 54, (.bool (!bq))), (22, 32, (.bool (!bq)))] ∧ (Below w2.heap.size w2 w')) HT_.out HW_.out (by kernel_rfl) (by kernel_rfl) ?_ ?_ ?_
       ·exact ⟨by simp only [putSel, Bool.false_eq_true, if_false], below_drew1 HB2.out⟩
       ·skip
        clear HB2
        refine steps_cons ?_ ?_
        ·rintro b a w' ⟨ha, Q_HB2⟩ hb_ hon hoff
         refine ⟨_, rfl, fun K hK => ?_⟩
         have e4 : a.tmps[4]? = some ((.pointer (some ⟨g, 0, none⟩))) := by rw [ha]; exact (putSel_off rfl).trans rfl
         replace ha := Aside0.mk ha
         have HB2 := Aside0.mk Q_HB2
         refine value_ (w1 := w') (v := (.pointer (some ⟨g, 2, none⟩))) (by rfl) rfl ?_ ?_
         ·go_simp
          (try simp only [i64_w])
          try (first | rfl | assumption)
         refine hK.out _ _ ⟨(by rw [ha.out]; exact putSel_upk 0 hb_ rfl rfl rfl), Q_HB2⟩
        refine steps_cons ?_ ?_
        ·rintro b a w' ⟨ha, Q_HB2⟩ hb_ hon hoff
         refine ⟨_, rfl, fun K hK => ?_⟩
         have e33 : a.tmps[33]? = some ((.pointer (some ⟨g, 2, none⟩))) := by rw [ha]; exact putSel_on (e := (0, 33, (.pointer (some ⟨g, 2, none⟩)))) 0 rfl rfl (hon 0 (by kernel_rfl)) rfl
         replace ha := Aside0.mk ha
         have HB2 := Aside0.mk Q_HB2
         obtain ⟨x0_, x1_, x2_⟩ := HALL.out _ HB2.out
         refine value_ (w1 := w') (v := (.int .i64 x.f1)) (by rfl) rfl ?_ ?_
         ·go_simp
          (try simp only [i64_w])
          try (first | rfl | assumption)
         refine hK.out _ _ ⟨(by rw [ha.out]; exact putSel_upk 1 hb_ rfl rfl rfl), Q_HB2⟩
        refine steps_cons ?_ ?_
        ·rintro b a w' ⟨ha, Q_HB2⟩ hb_ hon hoff
         refine ⟨_, rfl, fun K hK => ?_⟩
         have e34 : a.tmps[34]? = some ((.int .i64 x.f1)) := by rw [ha]; exact putSel_on (e := (1, 34, (.int .i64 x.f1))) 1 rfl rfl (hon 1 (by kernel_rfl)) rfl
         replace ha := Aside0.mk ha
         have HB2 := Aside0.mk Q_HB2
         refine value_ (w1 := w') (v := (.bool false)) (by rfl) rfl ?_ ?_
         ·go_simp
          (try simp only [i64_w])
          try (first | rfl | assumption)
         refine hK.out _ _ ⟨(by rw [ha.out]; exact putSel_upk 2 hb_ rfl rfl rfl), Q_HB2⟩
        refine steps_cons ?_ ?_
        ·rintro b a w' ⟨ha, Q_HB2⟩ hb_ hon hoff
         refine ⟨_, rfl, fun K hK => ?_⟩
         have e35 : a.tmps[35]? = some ((.bool false)) := by rw [ha]; exact putSel_on (e := (2, 35, (.bool false))) 2 rfl rfl (hon 2 (by kernel_rfl)) rfl
         replace ha := Aside0.mk ha
         have HB2 := Aside0.mk Q_HB2
         refine value_ (w1 := w') (v := (.bool false)) (by rfl) rfl ?_ ?_
         ·go_simp
          (try simp only [i64_w])
          try (first | rfl | assumption)
         refine hK.out _ _ ⟨(by rw [ha.out]; exact putSel_upk 3 hb_ rfl rfl rfl), Q_HB2⟩
        refine steps_cons ?_ ?_
        ·rintro b a w' ⟨ha, Q_HB2⟩ hb_ hon hoff
         refine ⟨_, rfl, fun K hK => ?_⟩
         have e4 : a.tmps[4]? = some ((.pointer (some ⟨g, 0, none⟩))) := by rw [ha]; exact (putSel_off rfl).trans rfl
         have e36 : a.tmps[36]? = some ((.bool false)) := by rw [ha]; exact putSel_on (e := (3, 36, (.bool false))) 3 rfl rfl (hon 3 (by kernel_rfl)) rfl
         replace ha := Aside0.mk ha
         have HB2 := Aside0.mk Q_HB2
         refine value_ (w1 := w') (v := (.pointer (some ⟨g, 2, none⟩))) (wanted_on rfl rfl rfl (e36.trans (by first | rfl | (simp [*]; done)))) rfl ?_ ?_
         ·go_simp
          (try simp only [i64_w])
          try (first | rfl | assumption)
         refine hK.out _ _ ⟨(by rw [ha.out]; exact putSel_upk 4 hb_ rfl rfl rfl), Q_HB2⟩
        refine steps_cons ?_ ?_
        ·rintro b a w' ⟨ha, Q_HB2⟩ hb_ hon hoff
         refine ⟨_, rfl, fun K hK => ?_⟩
         have e37 : a.tmps[37]? = some ((.pointer (some ⟨g, 2, none⟩))) := by rw [ha]; exact putSel_on (e := (4, 37, (.pointer (some ⟨g, 2, none⟩)))) 4 rfl rfl (hon 4 (by kernel_rfl)) rfl
         have e36 : a.tmps[36]? = some ((.bool false)) := by rw [ha]; exact putSel_on (e := (3, 36, (.bool false))) 3 rfl rfl (hon 3 (by kernel_rfl)) rfl
         replace ha := Aside0.mk ha
         have HB2 := Aside0.mk Q_HB2
         obtain ⟨x0_, x1_, x2_⟩ := HALL.out _ HB2.out
         refine value_ (w1 := w') (v := (.int .i64 x.f1)) (wanted_on rfl rfl rfl (e36.trans (by first | rfl | (simp [*]; done)))) rfl ?_ ?_
         ·go_simp
          (try simp only [i64_w])
          try (first | rfl | assumption)
         refine hK.out _ _ ⟨(by rw [ha.out]; exact putSel_upk 5 hb_ rfl rfl rfl), Q_HB2⟩
        refine steps_cons ?_ ?_
        ·rintro b a w' ⟨ha, Q_HB2⟩ hb_ hon hoff
         refine ⟨_, rfl, fun K hK => ?_⟩
         have e38 : a.tmps[38]? = some ((.int .i64 x.f1)) := by rw [ha]; exact putSel_on (e := (5, 38, (.int .i64 x.f1))) 5 rfl rfl (hon 5 (by kernel_rfl)) rfl
         have e36 : a.tmps[36]? = some ((.bool false)) := by rw [ha]; exact putSel_on (e := (3, 36, (.bool false))) 3 rfl rfl (hon 3 (by kernel_rfl)) rfl
         replace ha := Aside0.mk ha
         have HB2 := Aside0.mk Q_HB2
         refine value_ (w1 := w') (v := (.bool false)) (wanted_on rfl rfl rfl (e36.trans (by first | rfl | (simp [*]; done)))) rfl ?_ ?_
         ·go_simp
          (try simp only [i64_w])
          try (first | rfl | assumption)
         refine hK.out _ _ ⟨(by rw [ha.out]; exact putSel_upk 6 hb_ rfl rfl rfl), Q_HB2⟩
        refine steps_cons ?_ ?_
        ·rintro b a w' ⟨ha, Q_HB2⟩ hb_ hon hoff
         refine ⟨_, rfl, fun K hK => ?_⟩
         have e36 : a.tmps[36]? = some ((.bool false)) := by rw [ha]; exact putSel_on (e := (3, 36, (.bool false))) 3 rfl rfl (hon 3 (by kernel_rfl)) rfl
         have e39 : a.tmps[39]? = some ((.bool false)) := by rw [ha]; exact putSel_on (e := (6, 39, (.bool false))) 6 rfl rfl (hon 6 (by kernel_rfl)) rfl
         replace ha := Aside0.mk ha
         have HB2 := Aside0.mk Q_HB2
         refine value_ (w1 := w') (v := (.bool false)) (by rfl) rfl ?_ ?_
         ·go_simp
          (try simp only [i64_w])
          try (first | rfl | assumption)
         refine hK.out _ _ ⟨(by rw [ha.out]; exact putSel_upk 7 hb_ rfl rfl rfl), Q_HB2⟩
        refine steps_cons ?_ ?_
        ·rintro b a w' ⟨ha, Q_HB2⟩ hb_ hon hoff
         refine ⟨_, rfl, fun K hK => ?_⟩
         have e40 : a.tmps[40]? = some ((.bool false)) := by rw [ha]; exact putSel_on (e := (7, 40, (.bool false))) 7 rfl rfl (hon 7 (by kernel_rfl)) rfl
         replace ha := Aside0.mk ha
         have HB2 := Aside0.mk Q_HB2
         refine value_ (w1 := w') (v := (.bool false)) (by rfl) rfl ?_ ?_
         ·go_simp
          (try simp only [i64_w])
          try (first | rfl | assumption)
         refine hK.out _ _ ⟨(by rw [ha.out]; exact putSel_upk 8 hb_ rfl rfl rfl), Q_HB2⟩
        refine steps_cons ?_ ?_
        ·rintro b a w' ⟨ha, Q_HB2⟩ hb_ hon hoff
         refine ⟨_, rfl, fun K hK => ?_⟩
         have e3 : a.tmps[3]? = some ((.int .i64 ((i : Int) + 1))) := by rw [ha]; exact (putSel_off rfl).trans rfl
         have e41 : a.tmps[41]? = some ((.bool false)) := by rw [ha]; exact putSel_on (e := (8, 41, (.bool false))) 8 rfl rfl (hon 8 (by kernel_rfl)) rfl
         replace ha := Aside0.mk ha
         have HB2 := Aside0.mk Q_HB2
         refine value_ (w1 := w') (v := (.int .i64 ((i : Int) + 1))) (wanted_on rfl rfl rfl (e41.trans (by first | rfl | (simp [*]; done)))) rfl ?_ ?_
         ·go_simp
          (try simp only [i64_w])
          try (first | rfl | assumption)
         refine hK.out _ _ ⟨(by rw [ha.out]; exact putSel_upk 9 hb_ rfl rfl rfl), Q_HB2⟩
        refine steps_cons ?_ ?_
        ·rintro b a w' ⟨ha, Q_HB2⟩ hb_ hon hoff
         refine ⟨_, rfl, fun K hK => ?_⟩
         have e42 : a.tmps[42]? = some ((.int .i64 ((i : Int) + 1))) := by rw [ha]; exact putSel_on (e := (9, 42, (.int .i64 ((i : Int) + 1)))) 9 rfl rfl (hon 9 (by kernel_rfl)) rfl
         have e41 : a.tmps[41]? = some ((.bool false)) := by rw [ha]; exact putSel_on (e := (8, 41, (.bool false))) 8 rfl rfl (hon 8 (by kernel_rfl)) rfl
         replace ha := Aside0.mk ha
         have HB2 := Aside0.mk Q_HB2
         refine value_ (w1 := w') (v := (.bool true)) (wanted_on rfl rfl rfl (e41.trans (by first | rfl | (simp [*]; done)))) rfl ?_ ?_
         ·go_simp
          (try simp only [i64_w])
          try (first | rfl | assumption)
         refine hK.out _ _ ⟨(by rw [ha.out]; exact putSel_upk 10 hb_ rfl rfl rfl), Q_HB2⟩
        refine steps_cons ?_ ?_
        ·rintro b a w' ⟨ha, Q_HB2⟩ hb_ hon hoff
         refine ⟨_, rfl, fun K hK => ?_⟩
         have e43 : a.tmps[43]? = some ((.bool true)) := by rw [ha]; exact putSel_on (e := (10, 43, (.bool true))) 10 rfl rfl (hon 10 (by kernel_rfl)) rfl
         have e41 : a.tmps[41]? = some ((.bool false)) := by rw [ha]; exact putSel_on (e := (8, 41, (.bool false))) 8 rfl rfl (hon 8 (by kernel_rfl)) rfl
         replace ha := Aside0.mk ha
         have HB2 := Aside0.mk Q_HB2
         refine value_ (w1 := w') (v := (.bool true)) (wanted_on rfl rfl rfl (e41.trans (by first | rfl | (simp [*]; done)))) rfl ?_ ?_
         ·go_simp
          (try simp only [i64_w])
          try (first | rfl | assumption)
         refine hK.out _ _ ⟨(by rw [ha.out]; exact putSel_upk 11 hb_ rfl rfl rfl), Q_HB2⟩
        refine steps_cons ?_ ?_
        ·rintro b a w' ⟨ha, Q_HB2⟩ hb_ hon hoff
         refine ⟨_, rfl, fun K hK => ?_⟩
         have e0 : a.tmps[0]? = some ((.slice (some ad) l.length c)) := by rw [ha]; exact (putSel_off rfl).trans rfl
         have e44 : a.tmps[44]? = some ((.bool true)) := by rw [ha]; exact putSel_on (e := (11, 44, (.bool true))) 11 rfl rfl (hon 11 (by kernel_rfl)) rfl
         replace ha := Aside0.mk ha
         have HB2 := Aside0.mk Q_HB2
         refine value_ (w1 := w') (v := (.slice (some ad) l.length c)) (wanted_on rfl rfl rfl (e44.trans (by first | rfl | (simp [*]; done)))) rfl ?_ ?_
         ·go_simp
          (try simp only [i64_w])
          try (first | rfl | assumption)
         refine hK.out _ _ ⟨(by rw [ha.out]; exact putSel_upk 12 hb_ rfl rfl rfl), Q_HB2⟩
        refine steps_cons ?_ ?_
        ·rintro b a w' ⟨ha, Q_HB2⟩ hb_ hon hoff
         refine ⟨_, rfl, fun K hK => ?_⟩
         have e3 : a.tmps[3]? = some ((.int .i64 ((i : Int) + 1))) := by rw [ha]; exact (putSel_off rfl).trans rfl
         have e44 : a.tmps[44]? = some ((.bool true)) := by rw [ha]; exact putSel_on (e := (11, 44, (.bool true))) 11 rfl rfl (hon 11 (by kernel_rfl)) rfl
         replace ha := Aside0.mk ha
         have HB2 := Aside0.mk Q_HB2
         refine value_ (w1 := w') (v := (.int .i64 ((i : Int) + 1))) (wanted_on rfl rfl rfl (e44.trans (by first | rfl | (simp [*]; done)))) rfl ?_ ?_
         ·go_simp
          (try simp only [i64_w])
          try (first | rfl | assumption)
         refine hK.out _ _ ⟨(by rw [ha.out]; exact putSel_upk 13 hb_ rfl rfl rfl), Q_HB2⟩
        refine steps_cons ?_ ?_
        ·rintro b a w' ⟨ha, Q_HB2⟩ hb_ hon hoff
         refine ⟨_, rfl, fun K hK => ?_⟩
         have e46 : a.tmps[46]? = some ((.int .i64 ((i : Int) + 1))) := by rw [ha]; exact putSel_on (e := (13, 46, (.int .i64 ((i : Int) + 1)))) 13 rfl rfl (hon 13 (by kernel_rfl)) rfl
         have e44 : a.tmps[44]? = some ((.bool true)) := by rw [ha]; exact putSel_on (e := (11, 44, (.bool true))) 11 rfl rfl (hon 11 (by kernel_rfl)) rfl
         replace ha := Aside0.mk ha
         have HB2 := Aside0.mk Q_HB2
         refine value_ (w1 := w') (v := (.int .i64 (i : Int))) (wanted_on rfl rfl rfl (e44.trans (by first | rfl | (simp [*]; done)))) rfl ?_ ?_
         ·go_simp
          (try simp only [i64_w])
          try (first | rfl | assumption)
         refine hK.out _ _ ⟨(by rw [ha.out]; exact putSel_upk 14 hb_ rfl rfl rfl), Q_HB2⟩
        refine steps_cons ?_ ?_
        ·rintro b a w' ⟨ha, Q_HB2⟩ hb_ hon hoff
         refine ⟨_, rfl, fun K hK => ?_⟩
         have e45 : a.tmps[45]? = some ((.slice (some ad) l.length c)) := by rw [ha]; exact putSel_on (e := (12, 45, (.slice (some ad) l.length c))) 12 rfl rfl (hon 12 (by kernel_rfl)) rfl
         have e47 : a.tmps[47]? = some ((.int .i64 (i : Int))) := by rw [ha]; exact putSel_on (e := (14, 47, (.int .i64 (i : Int)))) 14 rfl rfl (hon 14 (by kernel_rfl)) rfl
         have e44 : a.tmps[44]? = some ((.bool true)) := by rw [ha]; exact putSel_on (e := (11, 44, (.bool true))) 11 rfl rfl (hon 11 (by kernel_rfl)) rfl
         replace ha := Aside0.mk ha
         have HB2 := Aside0.mk Q_HB2
         refine value_ (w1 := w') (v := (.pointer (some P))) (wanted_on rfl rfl rfl (e44.trans (by first | rfl | (simp [*]; done)))) rfl ?_ ?_
         ·go_simp
          (try simp only [i64_w])
          try (first | rfl | assumption)
         refine hK.out _ _ ⟨(by rw [ha.out]; exact putSel_upk 15 hb_ rfl rfl rfl), Q_HB2⟩
        refine steps_cons ?_ ?_
        ·rintro b a w' ⟨ha, Q_HB2⟩ hb_ hon hoff
         refine ⟨_, rfl, fun K hK => ?_⟩
         have e48 : a.tmps[48]? = some ((.pointer (some P))) := by rw [ha]; exact putSel_on (e := (15, 48, (.pointer (some P)))) 15 rfl rfl (hon 15 (by kernel_rfl)) rfl
         have e44 : a.tmps[44]? = some ((.bool true)) := by rw [ha]; exact putSel_on (e := (11, 44, (.bool true))) 11 rfl rfl (hon 11 (by kernel_rfl)) rfl
         replace ha := Aside0.mk ha
         have HB2 := Aside0.mk Q_HB2
         obtain ⟨x0_, x1_, x2_⟩ := HPRE.out _ HB2.out
         refine value_ (w1 := w') (v := (.agg #[.int .i64 y.f0.f0, .int .i64 y.f0.f1, .int .i64 y.f1])) (wanted_on rfl rfl rfl (e44.trans (by first | rfl | (simp [*]; done)))) rfl ?_ ?_
         ·go_simp
          (try simp only [i64_w])
          try (first | rfl | assumption)
         refine hK.out _ _ ⟨(by rw [ha.out]; exact putSel_upk 16 hb_ rfl rfl rfl), Q_HB2⟩
        refine steps_cons ?_ ?_
        ·rintro b a w' ⟨ha, Q_HB2⟩ hb_ hon hoff
         refine ⟨_, rfl, fun K hK => ?_⟩
         have e4 : a.tmps[4]? = some ((.pointer (some ⟨g, 0, none⟩))) := by rw [ha]; exact (putSel_off rfl).trans rfl
         have e44 : a.tmps[44]? = some ((.bool true)) := by rw [ha]; exact putSel_on (e := (11, 44, (.bool true))) 11 rfl rfl (hon 11 (by kernel_rfl)) rfl
         replace ha := Aside0.mk ha
         have HB2 := Aside0.mk Q_HB2
         obtain ⟨x0_, x1_, x2_⟩ := HALL.out _ HB2.out
         refine value_ (w1 := w') (v := (.agg #[.int .i64 x.f0.f0, .int .i64 x.f0.f1, .int .i64 x.f1])) (wanted_on rfl rfl rfl (e44.trans (by first | rfl | (simp [*]; done)))) rfl ?_ ?_
         ·go_simp
          (try simp only [i64_w])
          try (first | rfl | assumption)
         refine hK.out _ _ ⟨(by rw [ha.out]; exact putSel_upk 17 hb_ rfl rfl rfl), Q_HB2⟩
        refine steps_cons ?_ ?_
        ·rintro b a w' ⟨ha, Q_HB2⟩ hb_ hon hoff
         refine ⟨_, rfl, fun K hK => ?_⟩
         have e49 : a.tmps[49]? = some ((.agg #[.int .i64 y.f0.f0, .int .i64 y.f0.f1, .int .i64 y.f1])) := by rw [ha]; exact putSel_on (e := (16, 49, (.agg #[.int .i64 y.f0.f0, .int .i64 y.f0.f1, .int .i64 y.f1]))) 16 rfl rfl (hon 16 (by kernel_rfl)) rfl
         have e50 : a.tmps[50]? = some ((.agg #[.int .i64 x.f0.f0, .int .i64 x.f0.f1, .int .i64 x.f1])) := by rw [ha]; exact putSel_on (e := (17, 50, (.agg #[.int .i64 x.f0.f0, .int .i64 x.f0.f1, .int .i64 x.f1]))) 17 rfl rfl (hon 17 (by kernel_rfl)) rfl
         have e44 : a.tmps[44]? = some ((.bool true)) := by rw [ha]; exact putSel_on (e := (11, 44, (.bool true))) 11 rfl rfl (hon 11 (by kernel_rfl)) rfl
         replace ha := Aside0.mk ha
         have HB2 := Aside0.mk Q_HB2
         refine goes_ Try.func55 (by kernel_rfl) rfl #[.agg #[.int .i64 y.f0.f0, .int .i64 y.f0.f1, .int .i64 y.f1], .agg #[.int .i64 x.f0.f0, .int .i64 x.f0.f1, .int .i64 x.f1]] (wanted_on rfl rfl rfl (e44.trans (by first | rfl | (simp [*]; done)))) rfl rfl (by first | (simp only [List.map_toArray, List.map_cons, List.map_nil, Act.eval, Array.getD_eq_getD_getElem?, Option.getD_some, e49, e50, e44]; done) | (simp only [List.map_toArray, List.map_cons, List.map_nil, Act.eval, Array.getD_eq_getD_getElem?, Option.getD_some, e49, e50, e44]; rfl)) ?_
         refine (HLE.out _).mono ?_
         rintro e w1_ ⟨rfl, hb⟩
         refine ⟨_, rfl, ?_⟩
         refine hK.out _ _ ⟨(by rw [ha.out]; exact putSel_upk 18 hb_ rfl rfl rfl), below_step HB2.out hb⟩
        refine steps_cons ?_ ?_
        ·rintro b a w' ⟨ha, Q_HB2⟩ hb_ hon hoff
         refine ⟨_, rfl, fun K hK => ?_⟩
         have e51 : a.tmps[51]? = some ((.bool bq)) := by rw [ha]; exact putSel_on (e := (18, 51, (.bool bq))) 18 rfl rfl (hon 18 (by kernel_rfl)) rfl
         have e44 : a.tmps[44]? = some ((.bool true)) := by rw [ha]; exact putSel_on (e := (11, 44, (.bool true))) 11 rfl rfl (hon 11 (by kernel_rfl)) rfl
         replace ha := Aside0.mk ha
         have HB2 := Aside0.mk Q_HB2
         refine value_ (w1 := w') (v := (.bool (!bq))) (wanted_on rfl rfl rfl (e44.trans (by first | rfl | (simp [*]; done)))) rfl ?_ ?_
         ·go_simp
          (try simp only [i64_w])
          try (first | rfl | assumption)
         refine hK.out _ _ ⟨(by rw [ha.out]; exact putSel_upk 19 hb_ rfl rfl rfl), Q_HB2⟩
        refine steps_cons ?_ ?_
        ·rintro b a w' ⟨ha, Q_HB2⟩ hb_ hon hoff
         refine ⟨_, rfl, fun K hK => ?_⟩
         have e44 : a.tmps[44]? = some ((.bool true)) := by rw [ha]; exact putSel_on (e := (11, 44, (.bool true))) 11 rfl rfl (hon 11 (by kernel_rfl)) rfl
         have e52 : a.tmps[52]? = some ((.bool (!bq))) := by rw [ha]; exact putSel_on (e := (19, 52, (.bool (!bq)))) 19 rfl rfl (hon 19 (by kernel_rfl)) rfl
         have e41 : a.tmps[41]? = some ((.bool false)) := by rw [ha]; exact putSel_on (e := (8, 41, (.bool false))) 8 rfl rfl (hon 8 (by kernel_rfl)) rfl
         replace ha := Aside0.mk ha
         have HB2 := Aside0.mk Q_HB2
         refine value_ (w1 := w') (v := (.bool (!bq))) (wanted_on rfl rfl rfl (e41.trans (by first | rfl | (simp [*]; done)))) rfl ?_ ?_
         ·go_simp
          (try simp only [i64_w])
          try (first | rfl | assumption)
         refine hK.out _ _ ⟨(by rw [ha.out]; exact putSel_upk 20 hb_ rfl rfl rfl), Q_HB2⟩
        refine steps_cons ?_ ?_
        ·rintro b a w' ⟨ha, Q_HB2⟩ hb_ hon hoff
         refine ⟨_, rfl, fun K hK => ?_⟩
         have e41 : a.tmps[41]? = some ((.bool false)) := by rw [ha]; exact putSel_on (e := (8, 41, (.bool false))) 8 rfl rfl (hon 8 (by kernel_rfl)) rfl
         have e53 : a.tmps[53]? = some ((.bool (!bq))) := by rw [ha]; exact putSel_on (e := (20, 53, (.bool (!bq)))) 20 rfl rfl (hon 20 (by kernel_rfl)) rfl
         replace ha := Aside0.mk ha
         have HB2 := Aside0.mk Q_HB2
         refine value_ (w1 := w') (v := (.bool (!bq))) (by rfl) rfl ?_ ?_
         ·go_simp
          (try simp only [i64_w])
          try (first | rfl | assumption)
         refine hK.out _ _ ⟨(by rw [ha.out]; exact putSel_upk 21 hb_ rfl rfl rfl), Q_HB2⟩
        refine steps_cons ?_ ?_
        ·rintro b a w' ⟨ha, Q_HB2⟩ hb_ hon hoff
         refine ⟨_, rfl, fun K hK => ?_⟩
         have e54 : a.tmps[54]? = some ((.bool (!bq))) := by rw [ha]; exact putSel_on (e := (21, 54, (.bool (!bq)))) 21 rfl rfl (hon 21 (by kernel_rfl)) rfl
         replace ha := Aside0.mk ha
         have HB2 := Aside0.mk Q_HB2
         refine value_ (w1 := w') (v := (.bool (!bq))) (by rfl) rfl ?_ ?_
         ·go_simp
          (try simp only [i64_w])
          try (first | rfl | assumption)
         refine hK.out _ _ ⟨(by rw [ha.out]; exact putSel_upk 22 hb_ rfl rfl rfl), Q_HB2⟩
        exact steps_nil
       rintro b a we hall ⟨ha, Q_HB2⟩
       clear HB2
       have hb0_ := hall 0 (by kernel_rfl)
       have hb1_ := hall 1 (by kernel_rfl)
       have hb2_ := hall 2 (by kernel_rfl)
       have hb3_ := hall 3 (by kernel_rfl)
       have hb4_ := hall 4 (by kernel_rfl)
       have hb5_ := hall 5 (by kernel_rfl)
       have hb6_ := hall 6 (by kernel_rfl)
       have hb7_ := hall 7 (by kernel_rfl)
       have hb8_ := hall 8 (by kernel_rfl)
       have hb9_ := hall 9 (by kernel_rfl)
       have hb10_ := hall 10 (by kernel_rfl)
       have hb11_ := hall 11 (by kernel_rfl)
       have hb12_ := hall 12 (by kernel_rfl)
       have hb13_ := hall 13 (by kernel_rfl)
       have hb14_ := hall 14 (by kernel_rfl)
       have hb15_ := hall 15 (by kernel_rfl)
       have hb16_ := hall 16 (by kernel_rfl)
       have hb17_ := hall 17 (by kernel_rfl)
       have hb18_ := hall 18 (by kernel_rfl)
       have hb19_ := hall 19 (by kernel_rfl)
       have hb20_ := hall 20 (by kernel_rfl)
       have hb21_ := hall 21 (by kernel_rfl)
       have hb22_ := hall 22 (by kernel_rfl)
       subst ha
       simp only [putSel, hb0_, hb1_, hb2_, hb3_, hb4_, hb5_, hb6_, hb7_, hb8_, hb9_, hb10_, hb11_, hb12_, hb13_, hb14_, hb15_, hb16_, hb17_, hb18_, hb19_, hb20_, hb21_, hb22_, if_true, Act.put, List.setIfInBounds_toArray, List.set_cons_zero, List.set_cons_succ]
       have HB2 := Aside0.mk Q_HB2
       clear Q_HB2
       clear hall hb0_ hb1_ hb2_ hb3_ hb4_ hb5_ hb6_ hb7_ hb8_ hb9_ hb10_ hb11_ hb12_ hb13_ hb14_ hb15_ hb16_ hb17_ hb18_ hb19_ hb20_ hb21_ hb22_
       cases bq with
       | false =>
        have HF := Aside0.mk (show fineL l = false by unfold fineL; rw [← HO.out, HST.out, HOK.out, HPV.out]; show ((true && lessN y x) && _ && _) = false; rw [← HBB.out]; rfl)
        have FIN := Aside0.mk (fun W (hW : Below w2.heap.size w2 W) => (show (Ending.returned (.bool false) = Ending.returned (.bool (fineL l)) ∧ Below w.heap.size w W) from ⟨by rw [HF.out], below_step HBO.out hW⟩))
        clear HF
        go_wp2_with fail
        go_ret
        exact FIN.out _ HB2.out
       | true =>
        have HST2 := Aside0.mk (show fineR (prevO l (i + 1 + 1)) (l.drop (i + 1 + 1)) = fineR none l by rw [← HO.out, HST.out, HOK.out, HPV.out]; show _ = ((true && lessN y x) && _); rw [← HBB.out]; rfl)
        go_wp2_with fail
        go_roundw
        case rel => exact ⟨i + 1 + 1, by have := HLT.out; omega, by go_num, HST2.out, below_step HBO.out HB2.out⟩
        case measure => simp [intOf]; have := HLT.out; omega
     ·have d2 : 65536 < x.f1 := by omega
      have HF := Aside0.mk (show fineL l = false by unfold fineL; rw [← HO.out, HST.out, okX_code (fun h => c2 h.2)]; rfl)
      have FIN := Aside0.mk (fun W (hW : Below w2.heap.size w2 W) => (show (Ending.returned (.bool false) = Ending.returned (.bool (fineL l)) ∧ Below w.heap.size w W) from ⟨by rw [HF.out], below_step HBO.out hW⟩))
      clear HF c2
      refine start_ (n := 23) (S := fun w' => True) (ds := []) #[false, false, false, false, false, false, false, false, false, false, false, false, false, false, false, false, false, false, false, false, false, false, false] (by kernel_rfl) rfl rfl trivial (fun hHeld => ?_); refine with_tabW MsgF.tab5 MsgF.bits5 (fun HT_ HW_ => ?_)
      refine inv_at [0, 1, 2, 3, 4, 5, 6, 7, 8, 9, 10, 11, 12, 13, 14, 15, 16, 17, 18, 19, 20, 21, 22] (fun a0_ b a w' => a = putSel a0_ b [(0, 33, (.pointer (some ⟨g, 2, none⟩))), (1, 34, (.int .i64 x.f1)), (2, 35, (.bool false)), (3, 36, (.bool false)), (4, 37, (.pointer (some ⟨g, 2, none⟩))), (5, 38, (.int .i64 x.f1)), (6, 39, (.bool true)), (7, 40, (.bool true)), (8, 41, (.bool true)), (9, 42, undef), (10, 43, undef), (11, 44, undef), (12, 45, undef), (13, 46, undef), (14, 47, undef), (15, 48, undef), (16, 49, undef), (17, 50, undef), (18, 51, undef), (19, 52, undef), (20, 53, undef), (21, 54, (.bool true)), (22, 32, (.bool true))] ∧ (Below w2.heap.size w2 w')) HT_.out HW_.out (by kernel_rfl) (by kernel_rfl) ?_ ?_ ?_
      ·exact ⟨by simp only [putSel, Bool.false_eq_true, if_false], below_drew1 HB2.out⟩
      ·skip
       clear HB2
       refine steps_cons ?_ ?_
       ·rintro b a w' ⟨ha, Q_HB2⟩ hb_ hon hoff
        refine ⟨_, rfl, fun K hK => ?_⟩
        have e4 : a.tmps[4]? = some ((.pointer (some ⟨g, 0, none⟩))) := by rw [ha]; exact (putSel_off rfl).trans rfl
        replace ha := Aside0.mk ha
        have HB2 := Aside0.mk Q_HB2
        refine value_ (w1 := w') (v := (.pointer (some ⟨g, 2, none⟩))) (by rfl) rfl ?_ ?_
        ·go_simp
         (try simp only [i64_w])
         try (first | rfl | assumption)
        refine hK.out _ _ ⟨(by rw [ha.out]; exact putSel_upk 0 hb_ rfl rfl rfl), Q_HB2⟩
       refine steps_cons ?_ ?_
       ·rintro b a w' ⟨ha, Q_HB2⟩ hb_ hon hoff
        refine ⟨_, rfl, fun K hK => ?_⟩
        have e33 : a.tmps[33]? = some ((.pointer (some ⟨g, 2, none⟩))) := by rw [ha]; exact putSel_on (e := (0, 33, (.pointer (some ⟨g, 2, none⟩)))) 0 rfl rfl (hon 0 (by kernel_rfl)) rfl
        replace ha := Aside0.mk ha
        have HB2 := Aside0.mk Q_HB2
        obtain ⟨x0_, x1_, x2_⟩ := HALL.out _ HB2.out
        refine value_ (w1 := w') (v := (.int .i64 x.f1)) (by rfl) rfl ?_ ?_
        ·go_simp
         (try simp only [i64_w])
         try (first | rfl | assumption)
        refine hK.out _ _ ⟨(by rw [ha.out]; exact putSel_upk 1 hb_ rfl rfl rfl), Q_HB2⟩
       refine steps_cons ?_ ?_
       ·rintro b a w' ⟨ha, Q_HB2⟩ hb_ hon hoff
        refine ⟨_, rfl, fun K hK => ?_⟩
        have e34 : a.tmps[34]? = some ((.int .i64 x.f1)) := by rw [ha]; exact putSel_on (e := (1, 34, (.int .i64 x.f1))) 1 rfl rfl (hon 1 (by kernel_rfl)) rfl
        replace ha := Aside0.mk ha
        have HB2 := Aside0.mk Q_HB2
        refine value_ (w1 := w') (v := (.bool false)) (by rfl) rfl ?_ ?_
        ·go_simp
         (try simp only [i64_w])
         try (first | rfl | assumption)
        refine hK.out _ _ ⟨(by rw [ha.out]; exact putSel_upk 2 hb_ rfl rfl rfl), Q_HB2⟩
       refine steps_cons ?_ ?_
       ·rintro b a w' ⟨ha, Q_HB2⟩ hb_ hon hoff
        refine ⟨_, rfl, fun K hK => ?_⟩
        have e35 : a.tmps[35]? = some ((.bool false)) := by rw [ha]; exact putSel_on (e := (2, 35, (.bool false))) 2 rfl rfl (hon 2 (by kernel_rfl)) rfl
        replace ha := Aside0.mk ha
        have HB2 := Aside0.mk Q_HB2
        refine value_ (w1 := w') (v := (.bool false)) (by rfl) rfl ?_ ?_
        ·go_simp
         (try simp only [i64_w])
         try (first | rfl | assumption)
        refine hK.out _ _ ⟨(by rw [ha.out]; exact putSel_upk 3 hb_ rfl rfl rfl), Q_HB2⟩
       refine steps_cons ?_ ?_
       ·rintro b a w' ⟨ha, Q_HB2⟩ hb_ hon hoff
        refine ⟨_, rfl, fun K hK => ?_⟩
        have e4 : a.tmps[4]? = some ((.pointer (some ⟨g, 0, none⟩))) := by rw [ha]; exact (putSel_off rfl).trans rfl
        have e36 : a.tmps[36]? = some ((.bool false)) := by rw [ha]; exact putSel_on (e := (3, 36, (.bool false))) 3 rfl rfl (hon 3 (by kernel_rfl)) rfl
        replace ha := Aside0.mk ha
        have HB2 := Aside0.mk Q_HB2
        refine value_ (w1 := w') (v := (.pointer (some ⟨g, 2, none⟩))) (wanted_on rfl rfl rfl (e36.trans (by first | rfl | (simp [*]; done)))) rfl ?_ ?_
        ·go_simp
         (try simp only [i64_w])
         try (first | rfl | assumption)
        refine hK.out _ _ ⟨(by rw [ha.out]; exact putSel_upk 4 hb_ rfl rfl rfl), Q_HB2⟩
       refine steps_cons ?_ ?_
       ·rintro b a w' ⟨ha, Q_HB2⟩ hb_ hon hoff
        refine ⟨_, rfl, fun K hK => ?_⟩
        have e37 : a.tmps[37]? = some ((.pointer (some ⟨g, 2, none⟩))) := by rw [ha]; exact putSel_on (e := (4, 37, (.pointer (some ⟨g, 2, none⟩)))) 4 rfl rfl (hon 4 (by kernel_rfl)) rfl
        have e36 : a.tmps[36]? = some ((.bool false)) := by rw [ha]; exact putSel_on (e := (3, 36, (.bool false))) 3 rfl rfl (hon 3 (by kernel_rfl)) rfl
        replace ha := Aside0.mk ha
        have HB2 := Aside0.mk Q_HB2
        obtain ⟨x0_, x1_, x2_⟩ := HALL.out _ HB2.out
        refine value_ (w1 := w') (v := (.int .i64 x.f1)) (wanted_on rfl rfl rfl (e36.trans (by first | rfl | (simp [*]; done)))) rfl ?_ ?_
        ·go_simp
         (try simp only [i64_w])
         try (first | rfl | assumption)
        refine hK.out _ _ ⟨(by rw [ha.out]; exact putSel_upk 5 hb_ rfl rfl rfl), Q_HB2⟩
       refine steps_cons ?_ ?_
       ·rintro b a w' ⟨ha, Q_HB2⟩ hb_ hon hoff
        refine ⟨_, rfl, fun K hK => ?_⟩
        have e38 : a.tmps[38]? = some ((.int .i64 x.f1)) := by rw [ha]; exact putSel_on (e := (5, 38, (.int .i64 x.f1))) 5 rfl rfl (hon 5 (by kernel_rfl)) rfl
        have e36 : a.tmps[36]? = some ((.bool false)) := by rw [ha]; exact putSel_on (e := (3, 36, (.bool false))) 3 rfl rfl (hon 3 (by kernel_rfl)) rfl
        replace ha := Aside0.mk ha
        have HB2 := Aside0.mk Q_HB2
        refine value_ (w1 := w') (v := (.bool true)) (wanted_on rfl rfl rfl (e36.trans (by first | rfl | (simp [*]; done)))) rfl ?_ ?_
        ·go_simp
         (try simp only [i64_w])
         try (first | rfl | assumption)
        refine hK.out _ _ ⟨(by rw [ha.out]; exact putSel_upk 6 hb_ rfl rfl rfl), Q_HB2⟩
       refine steps_cons ?_ ?_
       ·rintro b a w' ⟨ha, Q_HB2⟩ hb_ hon hoff
        refine ⟨_, rfl, fun K hK => ?_⟩
        have e36 : a.tmps[36]? = some ((.bool false)) := by rw [ha]; exact putSel_on (e := (3, 36, (.bool false))) 3 rfl rfl (hon 3 (by kernel_rfl)) rfl
        have e39 : a.tmps[39]? = some ((.bool true)) := by rw [ha]; exact putSel_on (e := (6, 39, (.bool true))) 6 rfl rfl (hon 6 (by kernel_rfl)) rfl
        replace ha := Aside0.mk ha
        have HB2 := Aside0.mk Q_HB2
        refine value_ (w1 := w') (v := (.bool true)) (by rfl) rfl ?_ ?_
        ·go_simp
         (try simp only [i64_w])
         try (first | rfl | assumption)
        refine hK.out _ _ ⟨(by rw [ha.out]; exact putSel_upk 7 hb_ rfl rfl rfl), Q_HB2⟩
       refine steps_cons ?_ ?_
       ·rintro b a w' ⟨ha, Q_HB2⟩ hb_ hon hoff
        refine ⟨_, rfl, fun K hK => ?_⟩
        have e40 : a.tmps[40]? = some ((.bool true)) := by rw [ha]; exact putSel_on (e := (7, 40, (.bool true))) 7 rfl rfl (hon 7 (by kernel_rfl)) rfl
        replace ha := Aside0.mk ha
        have HB2 := Aside0.mk Q_HB2
        refine value_ (w1 := w') (v := (.bool true)) (by rfl) rfl ?_ ?_
        ·go_simp
         (try simp only [i64_w])
         try (first | rfl | assumption)
        refine hK.out _ _ ⟨(by rw [ha.out]; exact putSel_upk 8 hb_ rfl rfl rfl), Q_HB2⟩
       refine steps_cons ?_ ?_
       ·rintro b a w' ⟨ha, Q_HB2⟩ hb_ hon hoff
        refine ⟨_, rfl, fun K hK => ?_⟩
        have e41 : a.tmps[41]? = some ((.bool true)) := by rw [ha]; exact putSel_on (e := (8, 41, (.bool true))) 8 rfl rfl (hon 8 (by kernel_rfl)) rfl
        replace ha := Aside0.mk ha
        have HB2 := Aside0.mk Q_HB2
        refine off_ (wanted_off rfl rfl rfl (e41.trans (by first | rfl | (simp [*]; done)))) ?_
        refine hK.out _ _ ⟨(by rw [ha.out]; exact putSel_upk 9 hb_ rfl rfl rfl), Q_HB2⟩
       refine steps_cons ?_ ?_
       ·rintro b a w' ⟨ha, Q_HB2⟩ hb_ hon hoff
        refine ⟨_, rfl, fun K hK => ?_⟩
        have e41 : a.tmps[41]? = some ((.bool true)) := by rw [ha]; exact putSel_on (e := (8, 41, (.bool true))) 8 rfl rfl (hon 8 (by kernel_rfl)) rfl
        replace ha := Aside0.mk ha
        have HB2 := Aside0.mk Q_HB2
        refine off_ (wanted_off rfl rfl rfl (e41.trans (by first | rfl | (simp [*]; done)))) ?_
        refine hK.out _ _ ⟨(by rw [ha.out]; exact putSel_upk 10 hb_ rfl rfl rfl), Q_HB2⟩
       refine steps_cons ?_ ?_
       ·rintro b a w' ⟨ha, Q_HB2⟩ hb_ hon hoff
        refine ⟨_, rfl, fun K hK => ?_⟩
        have e41 : a.tmps[41]? = some ((.bool true)) := by rw [ha]; exact putSel_on (e := (8, 41, (.bool true))) 8 rfl rfl (hon 8 (by kernel_rfl)) rfl
        replace ha := Aside0.mk ha
        have HB2 := Aside0.mk Q_HB2
        refine off_ (wanted_off rfl rfl rfl (e41.trans (by first | rfl | (simp [*]; done)))) ?_
        refine hK.out _ _ ⟨(by rw [ha.out]; exact putSel_upk 11 hb_ rfl rfl rfl), Q_HB2⟩
       refine steps_cons ?_ ?_
       ·rintro b a w' ⟨ha, Q_HB2⟩ hb_ hon hoff
        refine ⟨_, rfl, fun K hK => ?_⟩
        have e44 : a.tmps[44]? = some (undef) := by rw [ha]; exact putSel_on (e := (11, 44, undef)) 11 rfl rfl (hon 11 (by kernel_rfl)) rfl
        replace ha := Aside0.mk ha
        have HB2 := Aside0.mk Q_HB2
        refine off_ (wanted_un rfl rfl rfl e44) ?_
        refine hK.out _ _ ⟨(by rw [ha.out]; exact putSel_upk 12 hb_ rfl rfl rfl), Q_HB2⟩
       refine steps_cons ?_ ?_
       ·rintro b a w' ⟨ha, Q_HB2⟩ hb_ hon hoff
        refine ⟨_, rfl, fun K hK => ?_⟩
        have e44 : a.tmps[44]? = some (undef) := by rw [ha]; exact putSel_on (e := (11, 44, undef)) 11 rfl rfl (hon 11 (by kernel_rfl)) rfl
        replace ha := Aside0.mk ha
        have HB2 := Aside0.mk Q_HB2
        refine off_ (wanted_un rfl rfl rfl e44) ?_
        refine hK.out _ _ ⟨(by rw [ha.out]; exact putSel_upk 13 hb_ rfl rfl rfl), Q_HB2⟩
       refine steps_cons ?_ ?_
       ·rintro b a w' ⟨ha, Q_HB2⟩ hb_ hon hoff
        refine ⟨_, rfl, fun K hK => ?_⟩
        have e44 : a.tmps[44]? = some (undef) := by rw [ha]; exact putSel_on (e := (11, 44, undef)) 11 rfl rfl (hon 11 (by kernel_rfl)) rfl
        replace ha := Aside0.mk ha
        have HB2 := Aside0.mk Q_HB2
        refine off_ (wanted_un rfl rfl rfl e44) ?_
        refine hK.out _ _ ⟨(by rw [ha.out]; exact putSel_upk 14 hb_ rfl rfl rfl), Q_HB2⟩
       refine steps_cons ?_ ?_
       ·rintro b a w' ⟨ha, Q_HB2⟩ hb_ hon hoff
        refine ⟨_, rfl, fun K hK => ?_⟩
        have e44 : a.tmps[44]? = some (undef) := by rw [ha]; exact putSel_on (e := (11, 44, undef)) 11 rfl rfl (hon 11 (by kernel_rfl)) rfl
        replace ha := Aside0.mk ha
        have HB2 := Aside0.mk Q_HB2
        refine off_ (wanted_un rfl rfl rfl e44) ?_
        refine hK.out _ _ ⟨(by rw [ha.out]; exact putSel_upk 15 hb_ rfl rfl rfl), Q_HB2⟩
       refine steps_cons ?_ ?_
       ·rintro b a w' ⟨ha, Q_HB2⟩ hb_ hon hoff
        refine ⟨_, rfl, fun K hK => ?_⟩
        have e44 : a.tmps[44]? = some (undef) := by rw [ha]; exact putSel_on (e := (11, 44, undef)) 11 rfl rfl (hon 11 (by kernel_rfl)) rfl
        replace ha := Aside0.mk ha
        have HB2 := Aside0.mk Q_HB2
        refine off_ (wanted_un rfl rfl rfl e44) ?_
        refine hK.out _ _ ⟨(by rw [ha.out]; exact putSel_upk 16 hb_ rfl rfl rfl), Q_HB2⟩
       refine steps_cons ?_ ?_
       ·rintro b a w' ⟨ha, Q_HB2⟩ hb_ hon hoff
        refine ⟨_, rfl, fun K hK => ?_⟩
        have e44 : a.tmps[44]? = some (undef) := by rw [ha]; exact putSel_on (e := (11, 44, undef)) 11 rfl rfl (hon 11 (by kernel_rfl)) rfl
        replace ha := Aside0.mk ha
        have HB2 := Aside0.mk Q_HB2
        refine off_ (wanted_un rfl rfl rfl e44) ?_
        refine hK.out _ _ ⟨(by rw [ha.out]; exact putSel_upk 17 hb_ rfl rfl rfl), Q_HB2⟩
       refine steps_cons ?_ ?_
       ·rintro b a w' ⟨ha, Q_HB2⟩ hb_ hon hoff
        refine ⟨_, rfl, fun K hK => ?_⟩
        have e44 : a.tmps[44]? = some (undef) := by rw [ha]; exact putSel_on (e := (11, 44, undef)) 11 rfl rfl (hon 11 (by kernel_rfl)) rfl
        replace ha := Aside0.mk ha
        have HB2 := Aside0.mk Q_HB2
        refine off_ (wanted_un rfl rfl rfl e44) ?_
        refine hK.out _ _ ⟨(by rw [ha.out]; exact putSel_upk 18 hb_ rfl rfl rfl), Q_HB2⟩
       refine steps_cons ?_ ?_
       ·rintro b a w' ⟨ha, Q_HB2⟩ hb_ hon hoff
        refine ⟨_, rfl, fun K hK => ?_⟩
        have e44 : a.tmps[44]? = some (undef) := by rw [ha]; exact putSel_on (e := (11, 44, undef)) 11 rfl rfl (hon 11 (by kernel_rfl)) rfl
        replace ha := Aside0.mk ha
        have HB2 := Aside0.mk Q_HB2
        refine off_ (wanted_un rfl rfl rfl e44) ?_
        refine hK.out _ _ ⟨(by rw [ha.out]; exact putSel_upk 19 hb_ rfl rfl rfl), Q_HB2⟩
       refine steps_cons ?_ ?_
       ·rintro b a w' ⟨ha, Q_HB2⟩ hb_ hon hoff
        refine ⟨_, rfl, fun K hK => ?_⟩
        have e41 : a.tmps[41]? = some ((.bool true)) := by rw [ha]; exact putSel_on (e := (8, 41, (.bool true))) 8 rfl rfl (hon 8 (by kernel_rfl)) rfl
        replace ha := Aside0.mk ha
        have HB2 := Aside0.mk Q_HB2
        refine off_ (wanted_off rfl rfl rfl (e41.trans (by first | rfl | (simp [*]; done)))) ?_
        refine hK.out _ _ ⟨(by rw [ha.out]; exact putSel_upk 20 hb_ rfl rfl rfl), Q_HB2⟩
       refine steps_cons ?_ ?_
       ·rintro b a w' ⟨ha, Q_HB2⟩ hb_ hon hoff
        refine ⟨_, rfl, fun K hK => ?_⟩
        have e41 : a.tmps[41]? = some ((.bool true)) := by rw [ha]; exact putSel_on (e := (8, 41, (.bool true))) 8 rfl rfl (hon 8 (by kernel_rfl)) rfl
        have e53 : a.tmps[53]? = some (undef) := by rw [ha]; exact putSel_on (e := (20, 53, undef)) 20 rfl rfl (hon 20 (by kernel_rfl)) rfl
        replace ha := Aside0.mk ha
        have HB2 := Aside0.mk Q_HB2
        refine value_ (w1 := w') (v := (.bool true)) (by rfl) rfl ?_ ?_
        ·go_simp
         (try simp only [i64_w])
         try (first | rfl | assumption)
        refine hK.out _ _ ⟨(by rw [ha.out]; exact putSel_upk 21 hb_ rfl rfl rfl), Q_HB2⟩
       refine steps_cons ?_ ?_
       ·rintro b a w' ⟨ha, Q_HB2⟩ hb_ hon hoff
        refine ⟨_, rfl, fun K hK => ?_⟩
        have e54 : a.tmps[54]? = some ((.bool true)) := by rw [ha]; exact putSel_on (e := (21, 54, (.bool true))) 21 rfl rfl (hon 21 (by kernel_rfl)) rfl
        replace ha := Aside0.mk ha
        have HB2 := Aside0.mk Q_HB2
        refine value_ (w1 := w') (v := (.bool true)) (by rfl) rfl ?_ ?_
        ·go_simp
         (try simp only [i64_w])
         try (first | rfl | assumption)
        refine hK.out _ _ ⟨(by rw [ha.out]; exact putSel_upk 22 hb_ rfl rfl rfl), Q_HB2⟩
       exact steps_nil
      rintro b a we hall ⟨ha, Q_HB2⟩
      clear HB2
      have hb0_ := hall 0 (by kernel_rfl)
      have hb1_ := hall 1 (by kernel_rfl)
      have hb2_ := hall 2 (by kernel_rfl)
      have hb3_ := hall 3 (by kernel_rfl)
      have hb4_ := hall 4 (by kernel_rfl)
      have hb5_ := hall 5 (by kernel_rfl)
      have hb6_ := hall 6 (by kernel_rfl)
      have hb7_ := hall 7 (by kernel_rfl)
      have hb8_ := hall 8 (by kernel_rfl)
      have hb9_ := hall 9 (by kernel_rfl)
      have hb10_ := hall 10 (by kernel_rfl)
      have hb11_ := hall 11 (by kernel_rfl)
      have hb12_ := hall 12 (by kernel_rfl)
      have hb13_ := hall 13 (by kernel_rfl)
      have hb14_ := hall 14 (by kernel_rfl)
      have hb15_ := hall 15 (by kernel_rfl)
      have hb16_ := hall 16 (by kernel_rfl)
      have hb17_ := hall 17 (by kernel_rfl)
      have hb18_ := hall 18 (by kernel_rfl)
      have hb19_ := hall 19 (by kernel_rfl)
      have hb20_ := hall 20 (by kernel_rfl)
      have hb21_ := hall 21 (by kernel_rfl)
      have hb22_ := hall 22 (by kernel_rfl)
      subst ha
      simp only [putSel, hb0_, hb1_, hb2_, hb3_, hb4_, hb5_, hb6_, hb7_, hb8_, hb9_, hb10_, hb11_, hb12_, hb13_, hb14_, hb15_, hb16_, hb17_, hb18_, hb19_, hb20_, hb21_, hb22_, if_true, Act.put, List.setIfInBounds_toArray, List.set_cons_zero, List.set_cons_succ]
      have HB2 := Aside0.mk Q_HB2
      clear Q_HB2
      clear hall hb0_ hb1_ hb2_ hb3_ hb4_ hb5_ hb6_ hb7_ hb8_ hb9_ hb10_ hb11_ hb12_ hb13_ hb14_ hb15_ hb16_ hb17_ hb18_ hb19_ hb20_ hb21_ hb22_
      go_wp2_with fail
      go_ret
      exact FIN.out _ HB2.out
    ·have d1 : x.f1 < 0 := by omega
     have HF := Aside0.mk (show fineL l = false by unfold fineL; rw [← HO.out, HST.out, okX_code (fun h => c1 h.1)]; rfl)
     have FIN := Aside0.mk (fun W (hW : Below w2.heap.size w2 W) => (show (Ending.returned (.bool false) = Ending.returned (.bool (fineL l)) ∧ Below w.heap.size w W) from ⟨by rw [HF.out], below_step HBO.out hW⟩))
     clear HF c1
     refine start_ (n := 23) (S := fun w' => True) (ds := []) #[false, false, false, false, false, false, false, false, false, false, false, false, false, false, false, false, false, false, false, false, false, false, false] (by kernel_rfl) rfl rfl trivial (fun hHeld => ?_); refine with_tabW MsgF.tab5 MsgF.bits5 (fun HT_ HW_ => ?_)
     refine inv_at [0, 1, 2, 3, 4, 5, 6, 7, 8, 9, 10, 11, 12, 13, 14, 15, 16, 17, 18, 19, 20, 21, 22] (fun a0_ b a w' => a = putSel a0_ b [(0, 33, (.pointer (some ⟨g, 2, none⟩))), (1, 34, (.int .i64 x.f1)), (2, 35, (.bool true)), (3, 36, (.bool true)), (4, 37, undef), (5, 38, undef), (6, 39, undef), (7, 40, (.bool true)), (8, 41, (.bool true)), (9, 42, undef), (10, 43, undef), (11, 44, undef), (12, 45, undef), (13, 46, undef), (14, 47, undef), (15, 48, undef), (16, 49, undef), (17, 50, undef), (18, 51, undef), (19, 52, undef), (20, 53, undef), (21, 54, (.bool true)), (22, 32, (.bool true))] ∧ (Below w2.heap.size w2 w')) HT_.out HW_.out (by kernel_rfl) (by kernel_rfl) ?_ ?_ ?_
     ·exact ⟨by simp only [putSel, Bool.false_eq_true, if_false], below_drew1 HB2.out⟩
     ·skip
      clear HB2
      refine steps_cons ?_ ?_
      ·rintro b a w' ⟨ha, Q_HB2⟩ hb_ hon hoff
       refine ⟨_, rfl, fun K hK => ?_⟩
       have e4 : a.tmps[4]? = some ((.pointer (some ⟨g, 0, none⟩))) := by rw [ha]; exact (putSel_off rfl).trans rfl
       replace ha := Aside0.mk ha
       have HB2 := Aside0.mk Q_HB2
       refine value_ (w1 := w') (v := (.pointer (some ⟨g, 2, none⟩))) (by rfl) rfl ?_ ?_
       ·go_simp
        (try simp only [i64_w])
        try (first | rfl | assumption)
       refine hK.out _ _ ⟨(by rw [ha.out]; exact putSel_upk 0 hb_ rfl rfl rfl), Q_HB2⟩
      refine steps_cons ?_ ?_
      ·rintro b a w' ⟨ha, Q_HB2⟩ hb_ hon hoff
       refine ⟨_, rfl, fun K hK => ?_⟩
       have e33 : a.tmps[33]? = some ((.pointer (some ⟨g, 2, none⟩))) := by rw [ha]; exact putSel_on (e := (0, 33, (.pointer (some ⟨g, 2, none⟩)))) 0 rfl rfl (hon 0 (by kernel_rfl)) rfl
       replace ha := Aside0.mk ha
       have HB2 := Aside0.mk Q_HB2
       obtain ⟨x0_, x1_, x2_⟩ := HALL.out _ HB2.out
       refine value_ (w1 := w') (v := (.int .i64 x.f1)) (by rfl) rfl ?_ ?_
       ·go_simp
        (try simp only [i64_w])
        try (first | rfl | assumption)
       refine hK.out _ _ ⟨(by rw [ha.out]; exact putSel_upk 1 hb_ rfl rfl rfl), Q_HB2⟩
      refine steps_cons ?_ ?_
      ·rintro b a w' ⟨ha, Q_HB2⟩ hb_ hon hoff
       refine ⟨_, rfl, fun K hK => ?_⟩
       have e34 : a.tmps[34]? = some ((.int .i64 x.f1)) := by rw [ha]; exact putSel_on (e := (1, 34, (.int .i64 x.f1))) 1 rfl rfl (hon 1 (by kernel_rfl)) rfl
       replace ha := Aside0.mk ha
       have HB2 := Aside0.mk Q_HB2
       refine value_ (w1 := w') (v := (.bool true)) (by rfl) rfl ?_ ?_
       ·go_simp
        (try simp only [i64_w])
        try (first | rfl | assumption)
       refine hK.out _ _ ⟨(by rw [ha.out]; exact putSel_upk 2 hb_ rfl rfl rfl), Q_HB2⟩
      refine steps_cons ?_ ?_
      ·rintro b a w' ⟨ha, Q_HB2⟩ hb_ hon hoff
       refine ⟨_, rfl, fun K hK => ?_⟩
       have e35 : a.tmps[35]? = some ((.bool true)) := by rw [ha]; exact putSel_on (e := (2, 35, (.bool true))) 2 rfl rfl (hon 2 (by kernel_rfl)) rfl
       replace ha := Aside0.mk ha
       have HB2 := Aside0.mk Q_HB2
       refine value_ (w1 := w') (v := (.bool true)) (by rfl) rfl ?_ ?_
       ·go_simp
        (try simp only [i64_w])
        try (first | rfl | assumption)
       refine hK.out _ _ ⟨(by rw [ha.out]; exact putSel_upk 3 hb_ rfl rfl rfl), Q_HB2⟩
      refine steps_cons ?_ ?_
      ·rintro b a w' ⟨ha, Q_HB2⟩ hb_ hon hoff
       refine ⟨_, rfl, fun K hK => ?_⟩
       have e36 : a.tmps[36]? = some ((.bool true)) := by rw [ha]; exact putSel_on (e := (3, 36, (.bool true))) 3 rfl rfl (hon 3 (by kernel_rfl)) rfl
       replace ha := Aside0.mk ha
       have HB2 := Aside0.mk Q_HB2
       refine off_ (wanted_off rfl rfl rfl (e36.trans (by first | rfl | (simp [*]; done)))) ?_
       refine hK.out _ _ ⟨(by rw [ha.out]; exact putSel_upk 4 hb_ rfl rfl rfl), Q_HB2⟩
      refine steps_cons ?_ ?_
      ·rintro b a w' ⟨ha, Q_HB2⟩ hb_ hon hoff
       refine ⟨_, rfl, fun K hK => ?_⟩
       have e36 : a.tmps[36]? = some ((.bool true)) := by rw [ha]; exact putSel_on (e := (3, 36, (.bool true))) 3 rfl rfl (hon 3 (by kernel_rfl)) rfl
       replace ha := Aside0.mk ha
       have HB2 := Aside0.mk Q_HB2
       refine off_ (wanted_off rfl rfl rfl (e36.trans (by first | rfl | (simp [*]; done)))) ?_
       refine hK.out _ _ ⟨(by rw [ha.out]; exact putSel_upk 5 hb_ rfl rfl rfl), Q_HB2⟩
      refine steps_cons ?_ ?_
      ·rintro b a w' ⟨ha, Q_HB2⟩ hb_ hon hoff
       refine ⟨_, rfl, fun K hK => ?_⟩
       have e36 : a.tmps[36]? = some ((.bool true)) := by rw [ha]; exact putSel_on (e := (3, 36, (.bool true))) 3 rfl rfl (hon 3 (by kernel_rfl)) rfl
       replace ha := Aside0.mk ha
       have HB2 := Aside0.mk Q_HB2
       refine off_ (wanted_off rfl rfl rfl (e36.trans (by first | rfl | (simp [*]; done)))) ?_
       refine hK.out _ _ ⟨(by rw [ha.out]; exact putSel_upk 6 hb_ rfl rfl rfl), Q_HB2⟩
      refine steps_cons ?_ ?_
      ·rintro b a w' ⟨ha, Q_HB2⟩ hb_ hon hoff
       refine ⟨_, rfl, fun K hK => ?_⟩
       have e36 : a.tmps[36]? = some ((.bool true)) := by rw [ha]; exact putSel_on (e := (3, 36, (.bool true))) 3 rfl rfl (hon 3 (by kernel_rfl)) rfl
       have e39 : a.tmps[39]? = some (undef) := by rw [ha]; exact putSel_on (e := (6, 39, undef)) 6 rfl rfl (hon 6 (by kernel_rfl)) rfl
       replace ha := Aside0.mk ha
       have HB2 := Aside0.mk Q_HB2
       refine value_ (w1 := w') (v := (.bool true)) (by rfl) rfl ?_ ?_
       ·go_simp
        (try simp only [i64_w])
        try (first | rfl | assumption)
       refine hK.out _ _ ⟨(by rw [ha.out]; exact putSel_upk 7 hb_ rfl rfl rfl), Q_HB2⟩
      refine steps_cons ?_ ?_
      ·rintro b a w' ⟨ha, Q_HB2⟩ hb_ hon hoff
       refine ⟨_, rfl, fun K hK => ?_⟩
       have e40 : a.tmps[40]? = some ((.bool true)) := by rw [ha]; exact putSel_on (e := (7, 40, (.bool true))) 7 rfl rfl (hon 7 (by kernel_rfl)) rfl
       replace ha := Aside0.mk ha
       have HB2 := Aside0.mk Q_HB2
       refine value_ (w1 := w') (v := (.bool true)) (by rfl) rfl ?_ ?_
       ·go_simp
        (try simp only [i64_w])
        try (first | rfl | assumption)
       refine hK.out _ _ ⟨(by rw [ha.out]; exact putSel_upk 8 hb_ rfl rfl rfl), Q_HB2⟩
      refine steps_cons ?_ ?_
      ·rintro b a w' ⟨ha, Q_HB2⟩ hb_ hon hoff
       refine ⟨_, rfl, fun K hK => ?_⟩
       have e41 : a.tmps[41]? = some ((.bool true)) := by rw [ha]; exact putSel_on (e := (8, 41, (.bool true))) 8 rfl rfl (hon 8 (by kernel_rfl)) rfl
       replace ha := Aside0.mk ha
       have HB2 := Aside0.mk Q_HB2
       refine off_ (wanted_off rfl rfl rfl (e41.trans (by first | rfl | (simp [*]; done)))) ?_
       refine hK.out _ _ ⟨(by rw [ha.out]; exact putSel_upk 9 hb_ rfl rfl rfl), Q_HB2⟩
      refine steps_cons ?_ ?_
      ·rintro b a w' ⟨ha, Q_HB2⟩ hb_ hon hoff
       refine ⟨_, rfl, fun K hK => ?_⟩
       have e41 : a.tmps[41]? = some ((.bool true)) := by rw [ha]; exact putSel_on (e := (8, 41, (.bool true))) 8 rfl rfl (hon 8 (by kernel_rfl)) rfl
       replace ha := Aside0.mk ha
       have HB2 := Aside0.mk Q_HB2
       refine off_ (wanted_off rfl rfl rfl (e41.trans (by first | rfl | (simp [*]; done)))) ?_
       refine hK.out _ _ ⟨(by rw [ha.out]; exact putSel_upk 10 hb_ rfl rfl rfl), Q_HB2⟩
      refine steps_cons ?_ ?_
      ·rintro b a w' ⟨ha, Q_HB2⟩ hb_ hon hoff
       refine ⟨_, rfl, fun K hK => ?_⟩
       have e41 : a.tmps[41]? = some ((.bool true)) := by rw [ha]; exact putSel_on (e := (8, 41, (.bool true))) 8 rfl rfl (hon 8 (by kernel_rfl)) rfl
       replace ha := Aside0.mk ha
       have HB2 := Aside0.mk Q_HB2
       refine off_ (wanted_off rfl rfl rfl (e41.trans (by first | rfl | (simp [*]; done)))) ?_
       refine hK.out _ _ ⟨(by rw [ha.out]; exact putSel_upk 11 hb_ rfl rfl rfl), Q_HB2⟩
      refine steps_cons ?_ ?_
      ·rintro b a w' ⟨ha, Q_HB2⟩ hb_ hon hoff
       refine ⟨_, rfl, fun K hK => ?_⟩
       have e44 : a.tmps[44]? = some (undef) := by rw [ha]; exact putSel_on (e := (11, 44, undef)) 11 rfl rfl (hon 11 (by kernel_rfl)) rfl
       replace ha := Aside0.mk ha
       have HB2 := Aside0.mk Q_HB2
       refine off_ (wanted_un rfl rfl rfl e44) ?_
       refine hK.out _ _ ⟨(by rw [ha.out]; exact putSel_upk 12 hb_ rfl rfl rfl), Q_HB2⟩
      refine steps_cons ?_ ?_
      ·rintro b a w' ⟨ha, Q_HB2⟩ hb_ hon hoff
       refine ⟨_, rfl, fun K hK => ?_⟩
       have e44 : a.tmps[44]? = some (undef) := by rw [ha]; exact putSel_on (e := (11, 44, undef)) 11 rfl rfl (hon 11 (by kernel_rfl)) rfl
       replace ha := Aside0.mk ha
       have HB2 := Aside0.mk Q_HB2
       refine off_ (wanted_un rfl rfl rfl e44) ?_
       refine hK.out _ _ ⟨(by rw [ha.out]; exact putSel_upk 13 hb_ rfl rfl rfl), Q_HB2⟩
      refine steps_cons ?_ ?_
      ·rintro b a w' ⟨ha, Q_HB2⟩ hb_ hon hoff
       refine ⟨_, rfl, fun K hK => ?_⟩
       have e44 : a.tmps[44]? = some (undef) := by rw [ha]; exact putSel_on (e := (11, 44, undef)) 11 rfl rfl (hon 11 (by kernel_rfl)) rfl
       replace ha := Aside0.mk ha
       have HB2 := Aside0.mk Q_HB2
       refine off_ (wanted_un rfl rfl rfl e44) ?_
       refine hK.out _ _ ⟨(by rw [ha.out]; exact putSel_upk 14 hb_ rfl rfl rfl), Q_HB2⟩
      refine steps_cons ?_ ?_
      ·rintro b a w' ⟨ha, Q_HB2⟩ hb_ hon hoff
       refine ⟨_, rfl, fun K hK => ?_⟩
       have e44 : a.tmps[44]? = some (undef) := by rw [ha]; exact putSel_on (e := (11, 44, undef)) 11 rfl rfl (hon 11 (by kernel_rfl)) rfl
       replace ha := Aside0.mk ha
       have HB2 := Aside0.mk Q_HB2
       refine off_ (wanted_un rfl rfl rfl e44) ?_
       refine hK.out _ _ ⟨(by rw [ha.out]; exact putSel_upk 15 hb_ rfl rfl rfl), Q_HB2⟩
      refine steps_cons ?_ ?_
      ·rintro b a w' ⟨ha, Q_HB2⟩ hb_ hon hoff
       refine ⟨_, rfl, fun K hK => ?_⟩
       have e44 : a.tmps[44]? = some (undef) := by rw [ha]; exact putSel_on (e := (11, 44, undef)) 11 rfl rfl (hon 11 (by kernel_rfl)) rfl
       replace ha := Aside0.mk ha
       have HB2 := Aside0.mk Q_HB2
       refine off_ (wanted_un rfl rfl rfl e44) ?_
       refine hK.out _ _ ⟨(by rw [ha.out]; exact putSel_upk 16 hb_ rfl rfl rfl), Q_HB2⟩
      refine steps_cons ?_ ?_
      ·rintro b a w' ⟨ha, Q_HB2⟩ hb_ hon hoff
       refine ⟨_, rfl, fun K hK => ?_⟩
       have e44 : a.tmps[44]? = some (undef) := by rw [ha]; exact putSel_on (e := (11, 44, undef)) 11 rfl rfl (hon 11 (by kernel_rfl)) rfl
       replace ha := Aside0.mk ha
       have HB2 := Aside0.mk Q_HB2
       refine off_ (wanted_un rfl rfl rfl e44) ?_
       refine hK.out _ _ ⟨(by rw [ha.out]; exact putSel_upk 17 hb_ rfl rfl rfl), Q_HB2⟩
      refine steps_cons ?_ ?_
      ·rintro b a w' ⟨ha, Q_HB2⟩ hb_ hon hoff
       refine ⟨_, rfl, fun K hK => ?_⟩
       have e44 : a.tmps[44]? = some (undef) := by rw [ha]; exact putSel_on (e := (11, 44, undef)) 11 rfl rfl (hon 11 (by kernel_rfl)) rfl
       replace ha := Aside0.mk ha
       have HB2 := Aside0.mk Q_HB2
       refine off_ (wanted_un rfl rfl rfl e44) ?_
       refine hK.out _ _ ⟨(by rw [ha.out]; exact putSel_upk 18 hb_ rfl rfl rfl), Q_HB2⟩
      refine steps_cons ?_ ?_
      ·rintro b a w' ⟨ha, Q_HB2⟩ hb_ hon hoff
       refine ⟨_, rfl, fun K hK => ?_⟩
       have e44 : a.tmps[44]? = some (undef) := by rw [ha]; exact putSel_on (e := (11, 44, undef)) 11 rfl rfl (hon 11 (by kernel_rfl)) rfl
       replace ha := Aside0.mk ha
       have HB2 := Aside0.mk Q_HB2
       refine off_ (wanted_un rfl rfl rfl e44) ?_
       refine hK.out _ _ ⟨(by rw [ha.out]; exact putSel_upk 19 hb_ rfl rfl rfl), Q_HB2⟩
      refine steps_cons ?_ ?_
      ·rintro b a w' ⟨ha, Q_HB2⟩ hb_ hon hoff
       refine ⟨_, rfl, fun K hK => ?_⟩
       have e41 : a.tmps[41]? = some ((.bool true)) := by rw [ha]; exact putSel_on (e := (8, 41, (.bool true))) 8 rfl rfl (hon 8 (by kernel_rfl)) rfl
       replace ha := Aside0.mk ha
       have HB2 := Aside0.mk Q_HB2
       refine off_ (wanted_off rfl rfl rfl (e41.trans (by first | rfl | (simp [*]; done)))) ?_
       refine hK.out _ _ ⟨(by rw [ha.out]; exact putSel_upk 20 hb_ rfl rfl rfl), Q_HB2⟩
      refine steps_cons ?_ ?_
      ·rintro b a w' ⟨ha, Q_HB2⟩ hb_ hon hoff
       refine ⟨_, rfl, fun K hK => ?_⟩
       have e41 : a.tmps[41]? = some ((.bool true)) := by rw [ha]; exact putSel_on (e := (8, 41, (.bool true))) 8 rfl rfl (hon 8 (by kernel_rfl)) rfl
       have e53 : a.tmps[53]? = some (undef) := by rw [ha]; exact putSel_on (e := (20, 53, undef)) 20 rfl rfl (hon 20 (by kernel_rfl)) rfl
       replace ha := Aside0.mk ha
       have HB2 := Aside0.mk Q_HB2
       refine value_ (w1 := w') (v := (.bool true)) (by rfl) rfl ?_ ?_
       ·go_simp
        (try simp only [i64_w])
        try (first | rfl | assumption)
       refine hK.out _ _ ⟨(by rw [ha.out]; exact putSel_upk 21 hb_ rfl rfl rfl), Q_HB2⟩
      refine steps_cons ?_ ?_
      ·rintro b a w' ⟨ha, Q_HB2⟩ hb_ hon hoff
       refine ⟨_, rfl, fun K hK => ?_⟩
       have e54 : a.tmps[54]? = some ((.bool true)) := by rw [ha]; exact putSel_on (e := (21, 54, (.bool true))) 21 rfl rfl (hon 21 (by kernel_rfl)) rfl
       replace ha := Aside0.mk ha
       have HB2 := Aside0.mk Q_HB2
       refine value_ (w1 := w') (v := (.bool true)) (by rfl) rfl ?_ ?_
       ·go_simp
        (try simp only [i64_w])
        try (first | rfl | assumption)
       refine hK.out _ _ ⟨(by rw [ha.out]; exact putSel_upk 22 hb_ rfl rfl rfl), Q_HB2⟩
      exact steps_nil
     rintro b a we hall ⟨ha, Q_HB2⟩
     clear HB2
     have hb0_ := hall 0 (by kernel_rfl)
     have hb1_ := hall 1 (by kernel_rfl)
     have hb2_ := hall 2 (by kernel_rfl)
     have hb3_ := hall 3 (by kernel_rfl)
     have hb4_ := hall 4 (by kernel_rfl)
     have hb5_ := hall 5 (by kernel_rfl)
     have hb6_ := hall 6 (by kernel_rfl)
     have hb7_ := hall 7 (by kernel_rfl)
     have hb8_ := hall 8 (by kernel_rfl)
     have hb9_ := hall 9 (by kernel_rfl)
     have hb10_ := hall 10 (by kernel_rfl)
     have hb11_ := hall 11 (by kernel_rfl)
     have hb12_ := hall 12 (by kernel_rfl)
     have hb13_ := hall 13 (by kernel_rfl)
     have hb14_ := hall 14 (by kernel_rfl)
     have hb15_ := hall 15 (by kernel_rfl)
     have hb16_ := hall 16 (by kernel_rfl)
     have hb17_ := hall 17 (by kernel_rfl)
     have hb18_ := hall 18 (by kernel_rfl)
     have hb19_ := hall 19 (by kernel_rfl)
     have hb20_ := hall 20 (by kernel_rfl)
     have hb21_ := hall 21 (by kernel_rfl)
     have hb22_ := hall 22 (by kernel_rfl)
     subst ha
     simp only [putSel, hb0_, hb1_, hb2_, hb3_, hb4_, hb5_, hb6_, hb7_, hb8_, hb9_, hb10_, hb11_, hb12_, hb13_, hb14_, hb15_, hb16_, hb17_, hb18_, hb19_, hb20_, hb21_, hb22_, if_true, Act.put, List.setIfInBounds_toArray, List.set_cons_zero, List.set_cons_succ]
     have HB2 := Aside0.mk Q_HB2
     clear Q_HB2
     clear hall hb0_ hb1_ hb2_ hb3_ hb4_ hb5_ hb6_ hb7_ hb8_ hb9_ hb10_ hb11_ hb12_ hb13_ hb14_ hb15_ hb16_ hb17_ hb18_ hb19_ hb20_ hb21_ hb22_
     go_wp2_with fail
     go_ret
     exact FIN.out _ HB2.out
   ·have HF := Aside0.mk (show fineL l = false by unfold fineL; rw [← HO.out, HST.out, okX_spot hs]; rfl)
    have fin : ∀ W, Below w.heap.size w W → (Ending.returned (.bool false) = Ending.returned (.bool (fineL l)) ∧ Below w.heap.size w W) := fun W hW => ⟨by rw [HF.out], hW⟩
    have FIN := Aside0.mk fin
    by_cases h1 : 0 ≤ x.f0.f0
    ·by_cases h2 : x.f0.f0 ≤ x.f0.f1
     ·have h3 : ¬ x.f0.f1 ≤ 16777216 := fun h3 => hs ⟨h1, h2, h3⟩
      clear hs fin
      go_wp2_with (first | rw [← HG1.out, ← HW1.out] | rw [← HW2.out])
      go_ret
      exact FIN.out _ HB2.out
     ·clear hs fin
      go_wp2_with (first | rw [← HG1.out, ← HW1.out] | rw [← HW2.out])
      go_ret
      exact FIN.out _ HB2.out
    ·clear hs fin
     go_wp2_with (first | rw [← HG1.out, ← HW1.out] | rw [← HW2.out])
     go_ret
     exact FIN.out _ HB2.out
  ·obtain rfl : j = l.length := by omega
   have HF := Aside0.mk (show fineL l = decide ((l.length : Int) ≤ 4096) by
    have h := HO.out
    rw [List.drop_eq_nil_of_le (Nat.le_refl _)] at h
    unfold fineL
    rw [← h]
    show (true && decide (l.length ≤ 4096)) = _
    rw [Bool.true_and]
    exact decide_eq_decide.2 (by omega))
   have hlt' : ¬ ((l.length : Int) < (l.length : Int)) := by omega
   go_wp2_with fail
   go_ret
   exact ⟨by rw [HF.out]; rfl, HB.out⟩
end Go.Proofs.Ytjbnffadfohofaa.MsgF
end

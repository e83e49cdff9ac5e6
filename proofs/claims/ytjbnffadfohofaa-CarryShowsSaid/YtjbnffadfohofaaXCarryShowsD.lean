/- Shaken: what the claim's theorem needs of our texts, of the printed ones and of the print's words. -/
import Derived.Test.YtjbnffadfohofaaXCarryShowsC
import Derived.Lib.Bytes
import Derived.Laws.BitsLemmas
import Derived.RowKit
import GoSem.Claim
import Derived.Outline
import Derived.Lib.SliceRun
-- MERGED YtjbnffadfohofaaPvariorumref10Span
section
namespace Go.Proofs.Ytjbnffadfohofaa.P
open Go.RowKit Go.Proofs.YtjbnffadfohofaaW.PrintWords Go.Proofs.YtjbnffadfohofaaW.PrintLast Go.Proofs.YtjbnffadfohofaaW.PrintMore
attribute [local go_sem] max2_int min2_int max_two min_two max_three min_three max_four min_four   -- for this text's walks alone
set_option linter.unusedVariables false
set_option linter.unusedSimpArgs false
mutual
def variorumref10_Span.j0 : Nat → List (S49) → Bool → Int → Int → Option (Int × Int × Bool)
 | 0, _, _, _, _ => none
 | k + 1, x0, x33, x247000, x247001 => if x33 = true then (some (0, 0, false)) else ((variorumref09_Drops.f k x0).bind fun t250 => (variorumref10_Span.l0 k x0 t250 (-1) (-1) x247000 x247000 x247001))
def variorumref10_Span.l0 : Nat → List (S49) → List Bool → Int → Int → Int → Int → Int → Option (Int × Int × Bool)
 | 0, _, _, _, _, _, _, _ => none
 | k + 1, x0, x6, x7, x8, x9, x247000, x247001 => if x9 < x247001 then (if 0 ≤ x9 then (if x9 < (x6.length : Int) then (if rdOf false x6 x9 = true then (variorumref10_Span.l0 k x0 x6 x7 x8 (wrap64 (x9 + 1)) x247000 x247001) else ((variorumref10_Move.f k x0 x9 true).bind fun bt256 => (if x7 < 0 then (variorumref10_Span.l0 k x0 x6 bt256.1 (wrap64 (bt256.1 + 1)) (wrap64 (x9 + 1)) x247000 x247001) else (variorumref10_Span.l0 k x0 x6 x7 (wrap64 (bt256.1 + 1)) (wrap64 (x9 + 1)) x247000 x247001)))) else (none)) else (none)) else (if x7 < 0 then ((variorumref10_Move.f k x0 x247000 false).bind fun bt253 => (some (bt253.1, bt253.1, true))) else (some (x7, x8, true)))
end
def variorumref10_Span.f (k : Nat) (l0 : List (S49)) (a1_0 : Int) (a1_1 : Int) : Option (Int × Int × Bool) := (variorumref06_Good.f l0).bind fun t248 => (if t248 = true then (if a1_0 < 0 then (variorumref10_Span.j0 k l0 true a1_0 a1_1) else (if a1_0 > a1_1 then (variorumref10_Span.j0 k l0 true a1_0 a1_1) else ((variorumref06_In.f k l0).bind fun t249 => (variorumref10_Span.j0 k l0 (decide (a1_1 > t249)) a1_0 a1_1)))) else (variorumref10_Span.j0 k l0 true a1_0 a1_1))
def variorumref10_Span.T1 : Bool × List (List Nat × List Nat) := (true, [([], []), ([0], [0]), ([1], [1]), ([2, 1], [2]), ([3], [3]), ([4, 3], [3, 4]), ([5, 3], [3, 5]), ([3, 6], [3, 6]), ([7, 3], [7]), ([8], [8]), ([9, 8], [8, 9]), ([8], [8]), ([11, 8], [8, 11]), ([10, 12, 8], [8, 10, 12]), ([8, 13], [8, 13]), ([14, 8], [14]), ([15], [15]), ([16, 15], [15, 16]), ([15], [15]), ([18, 15, 15], [15, 18]), ([17, 19, 15], [15, 17, 19]), ([15, 20], [15, 20])])
def variorumref10_Span.B1 : List Nat := [0, 1, 3, 7, 15, 31, 63, 127, 255, 511, 1023, 511, 2559, 8191, 16383, 32767, 65535, 131071, 65535, 327679, 1048575, 2097151]
theorem variorumref10_Span.tab1 : rtab .any (opsOf Try.f36 1) = variorumref10_Span.T1 := by kernel_rfl
theorem variorumref10_Span.bits1 : waitsOk variorumref10_Span.T1.2 variorumref10_Span.B1 = true := by kernel_rfl
set_option maxHeartbeats 8000000 in
set_option maxRecDepth 100000 in
theorem variorumref10_Span.calls (k : Nat) (A0 : Option Addr) (c0 : Nat) (l0 : List (S49)) (a1_0 : Int) (a1_1 : Int) (r1 : Int) (r2 : Int) (r3 : Bool) (w : World) (hr0 : Kd.C k49 w A0 l0.length l0) (hc0 : l0.length ≤ c0) (h : variorumref10_Span.f k l0 a1_0 a1_1 = some (r1, r2, r3)) :
  Calls Try.prog 36 #[.slice A0 l0.length c0, .agg #[.int .i64 a1_0, .int .i64 a1_1]] w fun e w' => e = .returned (.tuple #[.agg #[.int .i64 r1, .int .i64 r2], .bool r3]) ∧ Below w.heap.size w w' := by
 have hu42 := Try.underlying42
 have HR0 := Aside0.mk hr0
 have HC0 := Aside0.mk hc0
 clear hr0 hc0
 have HB := Aside0.mk (Below.refl w.heap.size w)
 have H : ((variorumref06_Good.f l0).bind fun t248 => (if t248 = true then (if a1_0 < 0 then (variorumref10_Span.j0 k l0 true a1_0 a1_1) else (if a1_0 > a1_1 then (variorumref10_Span.j0 k l0 true a1_0 a1_1) else ((variorumref06_In.f k l0).bind fun t249 => (variorumref10_Span.j0 k l0 (decide (a1_1 > t249)) a1_0 a1_1)))) else (variorumref10_Span.j0 k l0 true a1_0 a1_1))) = some (r1, r2, r3) := h
 clear h
 have HC3 := Aside0.mk H
 clear H
 go_enter Try.func36, Try.ntmps36
 go_upto_region 1 with (first | ((with_reducible refine gate_dst (N := 3) rfl ?_); refine box_event ?hg (N := 3) ?hd (cs := #[.int .i64 a1_0, .int .i64 a1_1]) (t := 42) ?hr ?_; (case hd => rfl); (case hg => rfl); (case hr => (go_simp; done)); intro gb246 hg w4 hbox hb; have n0_ := Aside0.mk (below_step (by repeat ((with_reducible (exact HB.out)))) hb); have n1_ := Aside0.mk (hbox); have n2_ := Aside0.mk ((by rw [hg]; exact (below_size (by repeat ((with_reducible (exact HB.out))))) : w.heap.size ≤ gb246)); have n3_ := Aside0.mk ((by rw [hg]; exact (below_size (by repeat ((with_reducible (exact HB.out))))) : w.heap.size ≤ gb246)); clear HB; have HB := n0_; have BK246 := n1_; have GW246 := n2_; have GE246 := n3_; clear n0_ n1_ n2_ n3_; clear hb hbox hg) | ((with_reducible refine gate_dst (N := 4) rfl ?_); refine box_event ?hg (N := 4) ?hd (cs := #[.int .i64 0, .int .i64 0]) (t := 42) ?hr ?_; (case hd => rfl); (case hg => rfl); (case hr => (go_simp; done)); intro gb247 hg w5 hbox hb; have n0_ := Aside0.mk (blk_below (g := gb246) (o := .cells #[.int .i64 a1_0, .int .i64 a1_1] 42 (0, 0)) (by (with_reducible repeat ((refine blk_drew ?_))); exact BK246.out) hb); have n1_ := Aside0.mk (below_step (by repeat ((with_reducible (exact HB.out)))) hb); have n2_ := Aside0.mk (hbox); have n3_ := Aside0.mk ((by rw [hg]; exact (below_size (by repeat ((with_reducible (exact HB.out))))) : w.heap.size ≤ gb247)); have n4_ := Aside0.mk ((by rw [hg]; exact (below_size (by repeat ((with_reducible (exact HB.out))))) : w.heap.size ≤ gb247)); have n5_ := Aside0.mk ((by rw [hg]; exact Nat.ne_of_lt (blk_lt (g := gb246) (o := .cells #[.int .i64 a1_0, .int .i64 a1_1] 42 (0, 0)) (by (with_reducible repeat ((refine blk_drew ?_))); exact BK246.out)) : gb246 ≠ gb247)); have n6_ := Aside0.mk ((by rw [hg]; exact Nat.ne_of_gt (blk_lt (g := gb246) (o := .cells #[.int .i64 a1_0, .int .i64 a1_1] 42 (0, 0)) (by (with_reducible repeat ((refine blk_drew ?_))); exact BK246.out)) : gb247 ≠ gb246)); clear BK246; clear HB; have BK246 := n0_; have HB := n1_; have BK247 := n2_; have GW247 := n3_; have GE247 := n4_; have NB246_247 := n5_; have NB247_246 := n6_; clear n0_ n1_ n2_ n3_ n4_ n5_ n6_; clear hb hbox hg))
 (try simp only [Act.put, List.setIfInBounds_toArray, List.set_cons_zero, List.set_cons_succ])
 go_cut [33] (fun v33 wc => ∃ (kq : Nat) (x33_2 : Bool), v33 = .bool x33_2 ∧ Aside0 (variorumref10_Span.j0 kq l0 x33_2 a1_0 a1_1 = some (r1, r2, r3)) ∧ Aside0 (kq ≤ k) ∧ Aside0 (wc.heap[gb246]? = some (.cells #[.int .i64 a1_0, .int .i64 a1_1] 42 (0, 0))) ∧ Aside0 (wc.heap[gb247]? = some (.cells #[.int .i64 0, .int .i64 0] 42 (0, 0))) ∧ Aside0 (Below w.heap.size w wc))
 case first =>
  have H := HC3.out
  clear HC3
  replace H := Option.bind_eq_some_iff.mp H
  obtain ⟨t248, A60, H⟩ := H
  replace H : (if t248 = true then (if a1_0 < 0 then (variorumref10_Span.j0 k l0 true a1_0 a1_1) else (if a1_0 > a1_1 then (variorumref10_Span.j0 k l0 true a1_0 a1_1) else ((variorumref06_In.f k l0).bind fun t249 => (variorumref10_Span.j0 k l0 (decide (a1_1 > t249)) a1_0 a1_1)))) else (variorumref10_Span.j0 k l0 true a1_0 a1_1)) = some (r1, r2, r3) := H
  have A6 := Aside0.mk A60
  clear A60
  by_cases c7 : t248 = true
  ·subst c7
   have H1 : (if a1_0 < 0 then (variorumref10_Span.j0 k l0 true a1_0 a1_1) else (if a1_0 > a1_1 then (variorumref10_Span.j0 k l0 true a1_0 a1_1) else ((variorumref06_In.f k l0).bind fun t249 => (variorumref10_Span.j0 k l0 (decide (a1_1 > t249)) a1_0 a1_1)))) = some (r1, r2, r3) := by rw [if_pos rfl] at H; exact H
   clear H
   have H := H1
   clear H1
   by_cases c8 : a1_0 < 0
   ·rw [if_pos c8] at H
    have c8b0 : decide (a1_0 < 0) = true := decide_eq_true c8
    clear c8
    ((skip))
    have H' := Aside0.mk H
    clear H
    try go_wp2
    have n0_ := Aside0.mk (blk_drew BK246.out)
    have n1_ := Aside0.mk (blk_drew BK247.out)
    have n2_ := Aside0.mk (below_drew1 HB.out)
    clear BK246
    clear BK247
    clear HB
    have BK246 := n0_
    have BK247 := n1_
    have HB := n2_
    clear n0_ n1_ n2_
    refine start_ (n := 22) (S := fun w' => w'.cell? ⟨gb246, 0, none⟩ = some (.int .i64 a1_0) ∧ w'.cell? ⟨gb246, 1, none⟩ = some (.int .i64 a1_1)) (ds := []) #[false, false, false, false, false, false, false, false, false, false, false, false, false, false, false, false, false, false, false, false, false, false] (by kernel_rfl) rfl rfl ⟨(blk_cell BK246.out 0).trans rfl, (blk_cell BK246.out 1).trans rfl⟩ (fun hHeld => ?_); refine with_tabW variorumref10_Span.tab1 variorumref10_Span.bits1 (fun HT_ HW_ => ?_)
    generalize w5.drew = w9 at BK246 BK247 HB hHeld ⊢
    refine pure_ (i := 0) (N := some 12) (v := ?_) (a' := ?_) #[true, false, false, false, false, false, false, false, false, false, false, false, false, false, false, false, false, false, false, false, false, false] rfl rfl (any_of HT_.out (by kernel_rfl)) (fun _ _ _ h => h) (Or.inl ⟨by rfl, ?_⟩) ?_ ?_
    rotate_left
    ·intro w'
     go_simp
     with_reducible rfl
    rotate_left
    ·simp only [Act.put, List.setIfInBounds_toArray, List.set_cons_zero, List.set_cons_succ, i64_w, i32_w]
     rfl
    refine one_ (i := 1) (N := some 13) #[true, true, false, false, false, false, false, false, false, false, false, false, false, false, false, false, false, false, false, false, false, false] rfl rfl (one_of HT_.out (by kernel_rfl)) (by decide) (fun K hK => ?_)
    refine goes_ Try.func14 (by kernel_rfl) rfl #[.slice A0 l0.length c0] (by rfl) rfl rfl (by (try simp only [List.map_toArray, List.map_cons, List.map_nil]); (rfl)) ?_
    with_reducible refine (variorumref06_Good.calls _ _ l0 true _ ?side1 ?side2 A6.out).mono ?_
    (case side1 => repeat ((exact (Kd.C_below HR0.out HB.out))))
    (case side2 => exact HC0.out)
    rintro e w10 ⟨rfl, hb⟩
    refine ⟨_, rfl, ?_⟩
    have n0_ := Aside0.mk (blk_below (g := gb246) (o := .cells #[.int .i64 a1_0, .int .i64 a1_1] 42 (0, 0)) (by (with_reducible repeat ((refine blk_drew ?_))); exact BK246.out) hb)
    have n1_ := Aside0.mk (blk_below (g := gb247) (o := .cells #[.int .i64 0, .int .i64 0] 42 (0, 0)) (by (with_reducible repeat ((refine blk_drew ?_))); exact BK247.out) hb)
    have n2_ := Aside0.mk (below_step (by repeat ((with_reducible (exact HB.out)))) hb)
    clear BK246
    clear BK247
    clear HB
    have BK246 := n0_
    have BK247 := n1_
    have HB := n2_
    clear n0_ n1_ n2_
    (try clear hb)
    (try clear hb2)
    (try clear hk)
    (try clear hi)
    refine hK.out _ _ ⟨(blk_cell BK246.out 0).trans rfl, (blk_cell BK246.out 1).trans rfl⟩ (fun hHeld => ?_)
    clear hK K
    refine norm_ (a' := ?_) ?_ ?_
    rotate_left
    ·show Act.put _ (some 13) _ = _
     simp only [Act.put, List.setIfInBounds_toArray, List.set_cons_zero, List.set_cons_succ, i64_w, i32_w]
     rfl
    refine pure_ (i := 2) (N := some 14) (v := ?_) (a' := ?_) #[true, true, true, false, false, false, false, false, false, false, false, false, false, false, false, false, false, false, false, false, false, false] rfl rfl (any_of HT_.out (by kernel_rfl)) (fun _ _ _ h => h) (Or.inl ⟨by rfl, ?_⟩) ?_ ?_
    rotate_left
    ·intro w'
     go_simp
     with_reducible rfl
    rotate_left
    ·simp only [Act.put, List.setIfInBounds_toArray, List.set_cons_zero, List.set_cons_succ, i64_w, i32_w]
     rfl
    refine pure_ (i := 3) (N := some 15) (v := ?_) (a' := ?_) #[true, true, true, true, false, false, false, false, false, false, false, false, false, false, false, false, false, false, false, false, false, false] rfl rfl (any_of HT_.out (by kernel_rfl)) (fun _ _ _ h => h) (Or.inl ⟨by rfl, ?_⟩) ?_ ?_
    rotate_left
    ·intro w'
     go_simp
     with_reducible rfl
    rotate_left
    ·simp only [Act.put, List.setIfInBounds_toArray, List.set_cons_zero, List.set_cons_succ, i64_w, i32_w]
     rfl
    refine pure_ (i := 4) (N := some 16) (v := ?_) (a' := ?_) #[true, true, true, true, true, false, false, false, false, false, false, false, false, false, false, false, false, false, false, false, false, false] rfl rfl (any_of HT_.out (by kernel_rfl)) (fun _ _ _ h => h) (Or.inl ⟨by rfl, ?_⟩) ?_ ?_
    rotate_left
    ·intro w'
     go_simp
     with_reducible rfl
    rotate_left
    ·simp only [Act.put, List.setIfInBounds_toArray, List.set_cons_zero, List.set_cons_succ, i64_w, i32_w]
     rfl
    refine take_ (i := 5) (N := some 17) (v := ?_) (a' := ?_) #[true, true, true, true, true, true, false, false, false, false, false, false, false, false, false, false, false, false, false, false, false, false] rfl rfl (take_ofW HT_.out HW_.out (by kernel_rfl)) (fun _ _ _ h => h) (Or.inl ⟨by rfl, ?_⟩) hHeld ?_ ?_
    rotate_left
    ·rintro w' ⟨s0, s1⟩
     go_simp
     with_reducible rfl
    rotate_left
    ·simp only [Act.put, List.setIfInBounds_toArray, List.set_cons_zero, List.set_cons_succ, i64_w, i32_w]
     rfl
    refine pure_ (i := 6) (N := some 18) (v := ?_) (a' := ?_) #[true, true, true, true, true, true, true, false, false, false, false, false, false, false, false, false, false, false, false, false, false, false] rfl rfl (any_of HT_.out (by kernel_rfl)) (fun _ _ _ h => h) (Or.inl ⟨by rfl, ?_⟩) ?_ ?_
    rotate_left
    ·intro w'
     go_simp
     with_reducible rfl
    rotate_left
    ·simp only [Act.put, List.setIfInBounds_toArray, List.set_cons_zero, List.set_cons_succ, i64_w, i32_w]
     rfl
    refine pure_ (i := 7) (N := some 19) (v := ?_) (a' := ?_) #[true, true, true, true, true, true, true, true, false, false, false, false, false, false, false, false, false, false, false, false, false, false] rfl rfl (any_of HT_.out (by kernel_rfl)) (fun _ _ _ h => h) (Or.inl ⟨by rfl, ?_⟩) ?_ ?_
    rotate_left
    ·intro w'
     go_simp
     with_reducible rfl
    rotate_left
    ·simp only [Act.put, List.setIfInBounds_toArray, List.set_cons_zero, List.set_cons_succ, i64_w, i32_w]
     rfl
    refine pure_ (i := 8) (N := some 20) (v := ?_) (a' := ?_) #[true, true, true, true, true, true, true, true, true, false, false, false, false, false, false, false, false, false, false, false, false, false] rfl rfl (any_of HT_.out (by kernel_rfl)) (fun _ _ _ h => h) (Or.inl ⟨by rfl, ?_⟩) ?_ ?_
    rotate_left
    ·intro w'
     go_simp
     with_reducible rfl
    rotate_left
    ·simp only [Act.put, List.setIfInBounds_toArray, List.set_cons_zero, List.set_cons_succ, i64_w, i32_w]
     rfl
    refine pure_ (i := 9) (N := some 21) (v := undef) (a' := ?_) #[true, true, true, true, true, true, true, true, true, true, false, false, false, false, false, false, false, false, false, false, false, false] rfl rfl (any_of HT_.out (by kernel_rfl)) (fun _ _ _ h => h) (Or.inr ⟨by rfl, rfl⟩) ?_ ?_
    rotate_left
    ·simp only [Act.put, List.setIfInBounds_toArray, List.set_cons_zero, List.set_cons_succ, i64_w, i32_w]
     rfl
    refine pure_ (i := 10) (N := some 22) (v := undef) (a' := ?_) #[true, true, true, true, true, true, true, true, true, true, true, false, false, false, false, false, false, false, false, false, false, false] rfl rfl (any_of HT_.out (by kernel_rfl)) (fun _ _ _ h => h) (Or.inr ⟨by rfl, rfl⟩) ?_ ?_
    rotate_left
    ·simp only [Act.put, List.setIfInBounds_toArray, List.set_cons_zero, List.set_cons_succ, i64_w, i32_w]
     rfl
    refine pure_ (i := 11) (N := some 23) (v := undef) (a' := ?_) #[true, true, true, true, true, true, true, true, true, true, true, true, false, false, false, false, false, false, false, false, false, false] rfl rfl (any_of HT_.out (by kernel_rfl)) (fun _ _ _ h => h) (Or.inr ⟨by rfl, rfl⟩) ?_ ?_
    rotate_left
    ·simp only [Act.put, List.setIfInBounds_toArray, List.set_cons_zero, List.set_cons_succ, i64_w, i32_w]
     rfl
    refine pure_ (i := 12) (N := some 24) (v := undef) (a' := ?_) #[true, true, true, true, true, true, true, true, true, true, true, true, true, false, false, false, false, false, false, false, false, false] rfl rfl (any_of HT_.out (by kernel_rfl)) (fun _ _ _ h => h) (Or.inr ⟨by rfl, rfl⟩) ?_ ?_
    rotate_left
    ·simp only [Act.put, List.setIfInBounds_toArray, List.set_cons_zero, List.set_cons_succ, i64_w, i32_w]
     rfl
    refine pure_ (i := 13) (N := some 25) (v := undef) (a' := ?_) #[true, true, true, true, true, true, true, true, true, true, true, true, true, true, false, false, false, false, false, false, false, false] rfl rfl (any_of HT_.out (by kernel_rfl)) (fun _ _ _ h => h) (Or.inr ⟨by rfl, rfl⟩) ?_ ?_
    rotate_left
    ·simp only [Act.put, List.setIfInBounds_toArray, List.set_cons_zero, List.set_cons_succ, i64_w, i32_w]
     rfl
    refine pure_ (i := 14) (N := some 26) (v := ?_) (a' := ?_) #[true, true, true, true, true, true, true, true, true, true, true, true, true, true, true, false, false, false, false, false, false, false] rfl rfl (any_of HT_.out (by kernel_rfl)) (fun _ _ _ h => h) (Or.inl ⟨by rfl, ?_⟩) ?_ ?_
    rotate_left
    ·intro w'
     go_simp
     with_reducible rfl
    rotate_left
    ·simp only [Act.put, List.setIfInBounds_toArray, List.set_cons_zero, List.set_cons_succ, i64_w, i32_w]
     rfl
    refine pure_ (i := 15) (N := some 27) (v := ?_) (a' := ?_) #[true, true, true, true, true, true, true, true, true, true, true, true, true, true, true, true, false, false, false, false, false, false] rfl rfl (any_of HT_.out (by kernel_rfl)) (fun _ _ _ h => h) (Or.inl ⟨by rfl, ?_⟩) ?_ ?_
    rotate_left
    ·intro w'
     go_simp
     with_reducible rfl
    rotate_left
    ·simp only [Act.put, List.setIfInBounds_toArray, List.set_cons_zero, List.set_cons_succ, i64_w, i32_w]
     rfl
    refine pure_ (i := 16) (N := some 28) (v := undef) (a' := ?_) #[true, true, true, true, true, true, true, true, true, true, true, true, true, true, true, true, true, false, false, false, false, false] rfl rfl (any_of HT_.out (by kernel_rfl)) (fun _ _ _ h => h) (Or.inr ⟨by rfl, rfl⟩) ?_ ?_
    rotate_left
    ·simp only [Act.put, List.setIfInBounds_toArray, List.set_cons_zero, List.set_cons_succ, i64_w, i32_w]
     rfl
    refine pure_ (i := 17) (N := some 29) (v := undef) (a' := ?_) #[true, true, true, true, true, true, true, true, true, true, true, true, true, true, true, true, true, true, false, false, false, false] rfl rfl (any_of HT_.out (by kernel_rfl)) (fun _ _ _ h => h) (Or.inr ⟨by rfl, rfl⟩) ?_ ?_
    rotate_left
    ·simp only [Act.put, List.setIfInBounds_toArray, List.set_cons_zero, List.set_cons_succ, i64_w, i32_w]
     rfl
    refine pure_ (i := 18) (N := some 30) (v := undef) (a' := ?_) #[true, true, true, true, true, true, true, true, true, true, true, true, true, true, true, true, true, true, true, false, false, false] rfl rfl (any_of HT_.out (by kernel_rfl)) (fun _ _ _ h => h) (Or.inr ⟨by rfl, rfl⟩) ?_ ?_
    rotate_left
    ·simp only [Act.put, List.setIfInBounds_toArray, List.set_cons_zero, List.set_cons_succ, i64_w, i32_w]
     rfl
    refine pure_ (i := 19) (N := some 31) (v := undef) (a' := ?_) #[true, true, true, true, true, true, true, true, true, true, true, true, true, true, true, true, true, true, true, true, false, false] rfl rfl (any_of HT_.out (by kernel_rfl)) (fun _ _ _ h => h) (Or.inr ⟨by rfl, rfl⟩) ?_ ?_
    rotate_left
    ·simp only [Act.put, List.setIfInBounds_toArray, List.set_cons_zero, List.set_cons_succ, i64_w, i32_w]
     rfl
    refine pure_ (i := 20) (N := some 32) (v := undef) (a' := ?_) #[true, true, true, true, true, true, true, true, true, true, true, true, true, true, true, true, true, true, true, true, true, false] rfl rfl (any_of HT_.out (by kernel_rfl)) (fun _ _ _ h => h) (Or.inr ⟨by rfl, rfl⟩) ?_ ?_
    rotate_left
    ·simp only [Act.put, List.setIfInBounds_toArray, List.set_cons_zero, List.set_cons_succ, i64_w, i32_w]
     rfl
    refine pure_ (i := 21) (N := some 33) (v := ?_) (a' := ?_) #[true, true, true, true, true, true, true, true, true, true, true, true, true, true, true, true, true, true, true, true, true, true] rfl rfl (any_of HT_.out (by kernel_rfl)) (fun _ _ _ h => h) (Or.inl ⟨by rfl, ?_⟩) ?_ ?_
    rotate_left
    ·intro w'
     go_simp
     with_reducible rfl
    rotate_left
    ·simp only [Act.put, List.setIfInBounds_toArray, List.set_cons_zero, List.set_cons_succ, i64_w, i32_w]
     rfl
    refine done_ (done_of HT_.out (by kernel_rfl)) ?_
    try go_wp2
    go_meet
    case rel => exact ⟨_, (true), (by (rfl)), H', ⟨by (omega)⟩, ⟨by (with_reducible repeat ((refine blk_drew ?_))); exact BK246.out⟩, ⟨by (with_reducible repeat ((refine blk_drew ?_))); exact BK247.out⟩, ⟨by repeat ((with_reducible (exact HB.out)))⟩⟩
   ·rw [if_neg c8] at H
    have c8b0 : decide (a1_0 < 0) = false := decide_eq_false c8
    clear c8
    ((skip))
    by_cases c11 : a1_0 > a1_1
    ·rw [if_pos c11] at H
     have c11b0 : decide (a1_1 < a1_0) = true := decide_eq_true c11
     clear c11
     have H' := Aside0.mk H
     clear H
     try go_wp2
     have n0_ := Aside0.mk (blk_drew BK246.out)
     have n1_ := Aside0.mk (blk_drew BK247.out)
     have n2_ := Aside0.mk (below_drew1 HB.out)
     clear BK246
     clear BK247
     clear HB
     have BK246 := n0_
     have BK247 := n1_
     have HB := n2_
     clear n0_ n1_ n2_
     refine start_ (n := 22) (S := fun w' => w'.cell? ⟨gb246, 0, none⟩ = some (.int .i64 a1_0) ∧ w'.cell? ⟨gb246, 1, none⟩ = some (.int .i64 a1_1)) (ds := []) #[false, false, false, false, false, false, false, false, false, false, false, false, false, false, false, false, false, false, false, false, false, false] (by kernel_rfl) rfl rfl ⟨(blk_cell BK246.out 0).trans rfl, (blk_cell BK246.out 1).trans rfl⟩ (fun hHeld => ?_); refine with_tabW variorumref10_Span.tab1 variorumref10_Span.bits1 (fun HT_ HW_ => ?_)
     generalize w5.drew = w12 at BK246 BK247 HB hHeld ⊢
     refine pure_ (i := 0) (N := some 12) (v := ?_) (a' := ?_) #[true, false, false, false, false, false, false, false, false, false, false, false, false, false, false, false, false, false, false, false, false, false] rfl rfl (any_of HT_.out (by kernel_rfl)) (fun _ _ _ h => h) (Or.inl ⟨by rfl, ?_⟩) ?_ ?_
     rotate_left
     ·intro w'
      go_simp
      with_reducible rfl
     rotate_left
     ·simp only [Act.put, List.setIfInBounds_toArray, List.set_cons_zero, List.set_cons_succ, i64_w, i32_w]
      rfl
     refine one_ (i := 1) (N := some 13) #[true, true, false, false, false, false, false, false, false, false, false, false, false, false, false, false, false, false, false, false, false, false] rfl rfl (one_of HT_.out (by kernel_rfl)) (by decide) (fun K hK => ?_)
     refine goes_ Try.func14 (by kernel_rfl) rfl #[.slice A0 l0.length c0] (by rfl) rfl rfl (by (try simp only [List.map_toArray, List.map_cons, List.map_nil]); (rfl)) ?_
     with_reducible refine (variorumref06_Good.calls _ _ l0 true _ ?side1 ?side2 A6.out).mono ?_
     (case side1 => repeat ((exact (Kd.C_below HR0.out HB.out))))
     (case side2 => exact HC0.out)
     rintro e w13 ⟨rfl, hb⟩
     refine ⟨_, rfl, ?_⟩
     have n0_ := Aside0.mk (blk_below (g := gb246) (o := .cells #[.int .i64 a1_0, .int .i64 a1_1] 42 (0, 0)) (by (with_reducible repeat ((refine blk_drew ?_))); exact BK246.out) hb)
     have n1_ := Aside0.mk (blk_below (g := gb247) (o := .cells #[.int .i64 0, .int .i64 0] 42 (0, 0)) (by (with_reducible repeat ((refine blk_drew ?_))); exact BK247.out) hb)
     have n2_ := Aside0.mk (below_step (by repeat ((with_reducible (exact HB.out)))) hb)
     clear BK246
     clear BK247
     clear HB
     have BK246 := n0_
     have BK247 := n1_
     have HB := n2_
     clear n0_ n1_ n2_
     (try clear hb)
     (try clear hb2)
     (try clear hk)
     (try clear hi)
     refine hK.out _ _ ⟨(blk_cell BK246.out 0).trans rfl, (blk_cell BK246.out 1).trans rfl⟩ (fun hHeld => ?_)
     clear hK K
     refine norm_ (a' := ?_) ?_ ?_
     rotate_left
     ·show Act.put _ (some 13) _ = _
      simp only [Act.put, List.setIfInBounds_toArray, List.set_cons_zero, List.set_cons_succ, i64_w, i32_w]
      rfl
     refine pure_ (i := 2) (N := some 14) (v := ?_) (a' := ?_) #[true, true, true, false, false, false, false, false, false, false, false, false, false, false, false, false, false, false, false, false, false, false] rfl rfl (any_of HT_.out (by kernel_rfl)) (fun _ _ _ h => h) (Or.inl ⟨by rfl, ?_⟩) ?_ ?_
     rotate_left
     ·intro w'
      go_simp
      with_reducible rfl
     rotate_left
     ·simp only [Act.put, List.setIfInBounds_toArray, List.set_cons_zero, List.set_cons_succ, i64_w, i32_w]
      rfl
     refine pure_ (i := 3) (N := some 15) (v := ?_) (a' := ?_) #[true, true, true, true, false, false, false, false, false, false, false, false, false, false, false, false, false, false, false, false, false, false] rfl rfl (any_of HT_.out (by kernel_rfl)) (fun _ _ _ h => h) (Or.inl ⟨by rfl, ?_⟩) ?_ ?_
     rotate_left
     ·intro w'
      go_simp
      with_reducible rfl
     rotate_left
     ·simp only [Act.put, List.setIfInBounds_toArray, List.set_cons_zero, List.set_cons_succ, i64_w, i32_w]
      rfl
     refine pure_ (i := 4) (N := some 16) (v := ?_) (a' := ?_) #[true, true, true, true, true, false, false, false, false, false, false, false, false, false, false, false, false, false, false, false, false, false] rfl rfl (any_of HT_.out (by kernel_rfl)) (fun _ _ _ h => h) (Or.inl ⟨by rfl, ?_⟩) ?_ ?_
     rotate_left
     ·intro w'
      go_simp
      with_reducible rfl
     rotate_left
     ·simp only [Act.put, List.setIfInBounds_toArray, List.set_cons_zero, List.set_cons_succ, i64_w, i32_w]
      rfl
     refine take_ (i := 5) (N := some 17) (v := ?_) (a' := ?_) #[true, true, true, true, true, true, false, false, false, false, false, false, false, false, false, false, false, false, false, false, false, false] rfl rfl (take_ofW HT_.out HW_.out (by kernel_rfl)) (fun _ _ _ h => h) (Or.inl ⟨by rfl, ?_⟩) hHeld ?_ ?_
     rotate_left
     ·rintro w' ⟨s0, s1⟩
      go_simp
      with_reducible rfl
     rotate_left
     ·simp only [Act.put, List.setIfInBounds_toArray, List.set_cons_zero, List.set_cons_succ, i64_w, i32_w]
      rfl
     refine pure_ (i := 6) (N := some 18) (v := ?_) (a' := ?_) #[true, true, true, true, true, true, true, false, false, false, false, false, false, false, false, false, false, false, false, false, false, false] rfl rfl (any_of HT_.out (by kernel_rfl)) (fun _ _ _ h => h) (Or.inl ⟨by rfl, ?_⟩) ?_ ?_
     rotate_left
     ·intro w'
      go_simp
      with_reducible rfl
     rotate_left
     ·simp only [Act.put, List.setIfInBounds_toArray, List.set_cons_zero, List.set_cons_succ, i64_w, i32_w]
      rfl
     refine pure_ (i := 7) (N := some 19) (v := ?_) (a' := ?_) #[true, true, true, true, true, true, true, true, false, false, false, false, false, false, false, false, false, false, false, false, false, false] rfl rfl (any_of HT_.out (by kernel_rfl)) (fun _ _ _ h => h) (Or.inl ⟨by rfl, ?_⟩) ?_ ?_
     rotate_left
     ·intro w'
      go_simp
      with_reducible rfl
     rotate_left
     ·simp only [Act.put, List.setIfInBounds_toArray, List.set_cons_zero, List.set_cons_succ, i64_w, i32_w]
      rfl
     refine pure_ (i := 8) (N := some 20) (v := ?_) (a' := ?_) #[true, true, true, true, true, true, true, true, true, false, false, false, false, false, false, false, false, false, false, false, false, false] rfl rfl (any_of HT_.out (by kernel_rfl)) (fun _ _ _ h => h) (Or.inl ⟨by rfl, ?_⟩) ?_ ?_
     rotate_left
     ·intro w'
      go_simp
      with_reducible rfl
     rotate_left
     ·simp only [Act.put, List.setIfInBounds_toArray, List.set_cons_zero, List.set_cons_succ, i64_w, i32_w]
      rfl
     refine pure_ (i := 9) (N := some 21) (v := ?_) (a' := ?_) #[true, true, true, true, true, true, true, true, true, true, false, false, false, false, false, false, false, false, false, false, false, false] rfl rfl (any_of HT_.out (by kernel_rfl)) (fun _ _ _ h => h) (Or.inl ⟨by rfl, ?_⟩) ?_ ?_
     rotate_left
     ·intro w'
      go_simp
      with_reducible rfl
     rotate_left
     ·simp only [Act.put, List.setIfInBounds_toArray, List.set_cons_zero, List.set_cons_succ, i64_w, i32_w]
      rfl
     refine pure_ (i := 11) (N := some 23) (v := ?_) (a' := ?_) #[true, true, true, true, true, true, true, true, true, true, false, true, false, false, false, false, false, false, false, false, false, false] rfl rfl (any_of HT_.out (by kernel_rfl)) (fun _ _ _ h => h) (Or.inl ⟨by rfl, ?_⟩) ?_ ?_
     rotate_left
     ·intro w'
      go_simp
      with_reducible rfl
     rotate_left
     ·simp only [Act.put, List.setIfInBounds_toArray, List.set_cons_zero, List.set_cons_succ, i64_w, i32_w]
      rfl
     refine take_ (i := 10) (N := some 22) (v := ?_) (a' := ?_) #[true, true, true, true, true, true, true, true, true, true, true, true, false, false, false, false, false, false, false, false, false, false] rfl rfl (take_ofW HT_.out HW_.out (by kernel_rfl)) (fun _ _ _ h => h) (Or.inl ⟨by rfl, ?_⟩) hHeld ?_ ?_
     rotate_left
     ·rintro w' ⟨s0, s1⟩
      go_simp
      with_reducible rfl
     rotate_left
     ·simp only [Act.put, List.setIfInBounds_toArray, List.set_cons_zero, List.set_cons_succ, i64_w, i32_w]
      rfl
     refine take_ (i := 12) (N := some 24) (v := ?_) (a' := ?_) #[true, true, true, true, true, true, true, true, true, true, true, true, true, false, false, false, false, false, false, false, false, false] rfl rfl (take_ofW HT_.out HW_.out (by kernel_rfl)) (fun _ _ _ h => h) (Or.inl ⟨by rfl, ?_⟩) hHeld ?_ ?_
     rotate_left
     ·rintro w' ⟨s0, s1⟩
      go_simp
      with_reducible rfl
     rotate_left
     ·simp only [Act.put, List.setIfInBounds_toArray, List.set_cons_zero, List.set_cons_succ, i64_w, i32_w]
      rfl
     refine pure_ (i := 13) (N := some 25) (v := ?_) (a' := ?_) #[true, true, true, true, true, true, true, true, true, true, true, true, true, true, false, false, false, false, false, false, false, false] rfl rfl (any_of HT_.out (by kernel_rfl)) (fun _ _ _ h => h) (Or.inl ⟨by rfl, ?_⟩) ?_ ?_
     rotate_left
     ·intro w'
      go_simp
      with_reducible rfl
     rotate_left
     ·simp only [Act.put, List.setIfInBounds_toArray, List.set_cons_zero, List.set_cons_succ, i64_w, i32_w]
      rfl
     refine pure_ (i := 14) (N := some 26) (v := ?_) (a' := ?_) #[true, true, true, true, true, true, true, true, true, true, true, true, true, true, true, false, false, false, false, false, false, false] rfl rfl (any_of HT_.out (by kernel_rfl)) (fun _ _ _ h => h) (Or.inl ⟨by rfl, ?_⟩) ?_ ?_
     rotate_left
     ·intro w'
      go_simp
      with_reducible rfl
     rotate_left
     ·simp only [Act.put, List.setIfInBounds_toArray, List.set_cons_zero, List.set_cons_succ, i64_w, i32_w]
      rfl
     refine pure_ (i := 15) (N := some 27) (v := ?_) (a' := ?_) #[true, true, true, true, true, true, true, true, true, true, true, true, true, true, true, true, false, false, false, false, false, false] rfl rfl (any_of HT_.out (by kernel_rfl)) (fun _ _ _ h => h) (Or.inl ⟨by rfl, ?_⟩) ?_ ?_
     rotate_left
     ·intro w'
      go_simp
      with_reducible rfl
     rotate_left
     ·simp only [Act.put, List.setIfInBounds_toArray, List.set_cons_zero, List.set_cons_succ, i64_w, i32_w]
      rfl
     refine pure_ (i := 16) (N := some 28) (v := undef) (a' := ?_) #[true, true, true, true, true, true, true, true, true, true, true, true, true, true, true, true, true, false, false, false, false, false] rfl rfl (any_of HT_.out (by kernel_rfl)) (fun _ _ _ h => h) (Or.inr ⟨by rfl, rfl⟩) ?_ ?_
     rotate_left
     ·simp only [Act.put, List.setIfInBounds_toArray, List.set_cons_zero, List.set_cons_succ, i64_w, i32_w]
      rfl
     refine pure_ (i := 17) (N := some 29) (v := undef) (a' := ?_) #[true, true, true, true, true, true, true, true, true, true, true, true, true, true, true, true, true, true, false, false, false, false] rfl rfl (any_of HT_.out (by kernel_rfl)) (fun _ _ _ h => h) (Or.inr ⟨by rfl, rfl⟩) ?_ ?_
     rotate_left
     ·simp only [Act.put, List.setIfInBounds_toArray, List.set_cons_zero, List.set_cons_succ, i64_w, i32_w]
      rfl
     refine pure_ (i := 18) (N := some 30) (v := undef) (a' := ?_) #[true, true, true, true, true, true, true, true, true, true, true, true, true, true, true, true, true, true, true, false, false, false] rfl rfl (any_of HT_.out (by kernel_rfl)) (fun _ _ _ h => h) (Or.inr ⟨by rfl, rfl⟩) ?_ ?_
     rotate_left
     ·simp only [Act.put, List.setIfInBounds_toArray, List.set_cons_zero, List.set_cons_succ, i64_w, i32_w]
      rfl
     refine pure_ (i := 19) (N := some 31) (v := undef) (a' := ?_) #[true, true, true, true, true, true, true, true, true, true, true, true, true, true, true, true, true, true, true, true, false, false] rfl rfl (any_of HT_.out (by kernel_rfl)) (fun _ _ _ h => h) (Or.inr ⟨by rfl, rfl⟩) ?_ ?_
     rotate_left
     ·simp only [Act.put, List.setIfInBounds_toArray, List.set_cons_zero, List.set_cons_succ, i64_w, i32_w]
      rfl
     refine pure_ (i := 20) (N := some 32) (v := undef) (a' := ?_) #[true, true, true, true, true, true, true, true, true, true, true, true, true, true, true, true, true, true, true, true, true, false] rfl rfl (any_of HT_.out (by kernel_rfl)) (fun _ _ _ h => h) (Or.inr ⟨by rfl, rfl⟩) ?_ ?_
     rotate_left
     ·simp only [Act.put, List.setIfInBounds_toArray, List.set_cons_zero, List.set_cons_succ, i64_w, i32_w]
      rfl
     refine pure_ (i := 21) (N := some 33) (v := ?_) (a' := ?_) #[true, true, true, true, true, true, true, true, true, true, true, true, true, true, true, true, true, true, true, true, true, true] rfl rfl (any_of HT_.out (by kernel_rfl)) (fun _ _ _ h => h) (Or.inl ⟨by rfl, ?_⟩) ?_ ?_
     rotate_left
     ·intro w'
      go_simp
      with_reducible rfl
     rotate_left
     ·simp only [Act.put, List.setIfInBounds_toArray, List.set_cons_zero, List.set_cons_succ, i64_w, i32_w]
      rfl
     refine done_ (done_of HT_.out (by kernel_rfl)) ?_
     try go_wp2
     go_meet
     case rel => exact ⟨_, (true), (by (rfl)), H', ⟨by (omega)⟩, ⟨by (with_reducible repeat ((refine blk_drew ?_))); exact BK246.out⟩, ⟨by (with_reducible repeat ((refine blk_drew ?_))); exact BK247.out⟩, ⟨by repeat ((with_reducible (exact HB.out)))⟩⟩
    ·rw [if_neg c11] at H
     have c11b0 : decide (a1_1 < a1_0) = false := decide_eq_false c11
     clear c11
     replace H := Option.bind_eq_some_iff.mp H
     obtain ⟨t249, A140, H⟩ := H
     replace H : (variorumref10_Span.j0 k l0 (decide (a1_1 > t249)) a1_0 a1_1) = some (r1, r2, r3) := H
     have A14 := Aside0.mk A140
     clear A140
     have H' := Aside0.mk H
     clear H
     try go_wp2
     have n0_ := Aside0.mk (blk_drew BK246.out)
     have n1_ := Aside0.mk (blk_drew BK247.out)
     have n2_ := Aside0.mk (below_drew1 HB.out)
     clear BK246
     clear BK247
     clear HB
     have BK246 := n0_
     have BK247 := n1_
     have HB := n2_
     clear n0_ n1_ n2_
     refine start_ (n := 22) (S := fun w' => w'.cell? ⟨gb246, 0, none⟩ = some (.int .i64 a1_0) ∧ w'.cell? ⟨gb246, 1, none⟩ = some (.int .i64 a1_1)) (ds := []) #[false, false, false, false, false, false, false, false, false, false, false, false, false, false, false, false, false, false, false, false, false, false] (by kernel_rfl) rfl rfl ⟨(blk_cell BK246.out 0).trans rfl, (blk_cell BK246.out 1).trans rfl⟩ (fun hHeld => ?_); refine with_tabW variorumref10_Span.tab1 variorumref10_Span.bits1 (fun HT_ HW_ => ?_)
     generalize w5.drew = w15 at BK246 BK247 HB hHeld ⊢
     refine pure_ (i := 0) (N := some 12) (v := ?_) (a' := ?_) #[true, false, false, false, false, false, false, false, false, false, false, false, false, false, false, false, false, false, false, false, false, false] rfl rfl (any_of HT_.out (by kernel_rfl)) (fun _ _ _ h => h) (Or.inl ⟨by rfl, ?_⟩) ?_ ?_
     rotate_left
     ·intro w'
      go_simp
      with_reducible rfl
     rotate_left
     ·simp only [Act.put, List.setIfInBounds_toArray, List.set_cons_zero, List.set_cons_succ, i64_w, i32_w]
      rfl
     refine one_ (i := 1) (N := some 13) #[true, true, false, false, false, false, false, false, false, false, false, false, false, false, false, false, false, false, false, false, false, false] rfl rfl (one_of HT_.out (by kernel_rfl)) (by decide) (fun K hK => ?_)
     refine goes_ Try.func14 (by kernel_rfl) rfl #[.slice A0 l0.length c0] (by rfl) rfl rfl (by (try simp only [List.map_toArray, List.map_cons, List.map_nil]); (rfl)) ?_
     with_reducible refine (variorumref06_Good.calls _ _ l0 true _ ?side1 ?side2 A6.out).mono ?_
     (case side1 => repeat ((exact (Kd.C_below HR0.out HB.out))))
     (case side2 => exact HC0.out)
     rintro e w16 ⟨rfl, hb⟩
     refine ⟨_, rfl, ?_⟩
     have n0_ := Aside0.mk (blk_below (g := gb246) (o := .cells #[.int .i64 a1_0, .int .i64 a1_1] 42 (0, 0)) (by (with_reducible repeat ((refine blk_drew ?_))); exact BK246.out) hb)
     have n1_ := Aside0.mk (blk_below (g := gb247) (o := .cells #[.int .i64 0, .int .i64 0] 42 (0, 0)) (by (with_reducible repeat ((refine blk_drew ?_))); exact BK247.out) hb)
     have n2_ := Aside0.mk (below_step (by repeat ((with_reducible (exact HB.out)))) hb)
     clear BK246
     clear BK247
     clear HB
     have BK246 := n0_
     have BK247 := n1_
     have HB := n2_
     clear n0_ n1_ n2_
     (try clear hb)
     (try clear hb2)
     (try clear hk)
     (try clear hi)
     refine hK.out _ _ ⟨(blk_cell BK246.out 0).trans rfl, (blk_cell BK246.out 1).trans rfl⟩ (fun hHeld => ?_)
     clear hK K
     refine norm_ (a' := ?_) ?_ ?_
     rotate_left
     ·show Act.put _ (some 13) _ = _
      simp only [Act.put, List.setIfInBounds_toArray, List.set_cons_zero, List.set_cons_succ, i64_w, i32_w]
      rfl
     refine pure_ (i := 2) (N := some 14) (v := ?_) (a' := ?_) #[true, true, true, false, false, false, false, false, false, false, false, false, false, false, false, false, false, false, false, false, false, false] rfl rfl (any_of HT_.out (by kernel_rfl)) (fun _ _ _ h => h) (Or.inl ⟨by rfl, ?_⟩) ?_ ?_
     rotate_left
     ·intro w'
      go_simp
      with_reducible rfl
     rotate_left
     ·simp only [Act.put, List.setIfInBounds_toArray, List.set_cons_zero, List.set_cons_succ, i64_w, i32_w]
      rfl
     refine pure_ (i := 3) (N := some 15) (v := ?_) (a' := ?_) #[true, true, true, true, false, false, false, false, false, false, false, false, false, false, false, false, false, false, false, false, false, false] rfl rfl (any_of HT_.out (by kernel_rfl)) (fun _ _ _ h => h) (Or.inl ⟨by rfl, ?_⟩) ?_ ?_
     rotate_left
     ·intro w'
      go_simp
      with_reducible rfl
     rotate_left
     ·simp only [Act.put, List.setIfInBounds_toArray, List.set_cons_zero, List.set_cons_succ, i64_w, i32_w]
      rfl
     refine pure_ (i := 4) (N := some 16) (v := ?_) (a' := ?_) #[true, true, true, true, true, false, false, false, false, false, false, false, false, false, false, false, false, false, false, false, false, false] rfl rfl (any_of HT_.out (by kernel_rfl)) (fun _ _ _ h => h) (Or.inl ⟨by rfl, ?_⟩) ?_ ?_
     rotate_left
     ·intro w'
      go_simp
      with_reducible rfl
     rotate_left
     ·simp only [Act.put, List.setIfInBounds_toArray, List.set_cons_zero, List.set_cons_succ, i64_w, i32_w]
      rfl
     refine take_ (i := 5) (N := some 17) (v := ?_) (a' := ?_) #[true, true, true, true, true, true, false, false, false, false, false, false, false, false, false, false, false, false, false, false, false, false] rfl rfl (take_ofW HT_.out HW_.out (by kernel_rfl)) (fun _ _ _ h => h) (Or.inl ⟨by rfl, ?_⟩) hHeld ?_ ?_
     rotate_left
     ·rintro w' ⟨s0, s1⟩
      go_simp
      with_reducible rfl
     rotate_left
     ·simp only [Act.put, List.setIfInBounds_toArray, List.set_cons_zero, List.set_cons_succ, i64_w, i32_w]
      rfl
     refine pure_ (i := 6) (N := some 18) (v := ?_) (a' := ?_) #[true, true, true, true, true, true, true, false, false, false, false, false, false, false, false, false, false, false, false, false, false, false] rfl rfl (any_of HT_.out (by kernel_rfl)) (fun _ _ _ h => h) (Or.inl ⟨by rfl, ?_⟩) ?_ ?_
     rotate_left
     ·intro w'
      go_simp
      with_reducible rfl
     rotate_left
     ·simp only [Act.put, List.setIfInBounds_toArray, List.set_cons_zero, List.set_cons_succ, i64_w, i32_w]
      rfl
     refine pure_ (i := 7) (N := some 19) (v := ?_) (a' := ?_) #[true, true, true, true, true, true, true, true, false, false, false, false, false, false, false, false, false, false, false, false, false, false] rfl rfl (any_of HT_.out (by kernel_rfl)) (fun _ _ _ h => h) (Or.inl ⟨by rfl, ?_⟩) ?_ ?_
     rotate_left
     ·intro w'
      go_simp
      with_reducible rfl
     rotate_left
     ·simp only [Act.put, List.setIfInBounds_toArray, List.set_cons_zero, List.set_cons_succ, i64_w, i32_w]
      rfl
     refine pure_ (i := 8) (N := some 20) (v := ?_) (a' := ?_) #[true, true, true, true, true, true, true, true, true, false, false, false, false, false, false, false, false, false, false, false, false, false] rfl rfl (any_of HT_.out (by kernel_rfl)) (fun _ _ _ h => h) (Or.inl ⟨by rfl, ?_⟩) ?_ ?_
     rotate_left
     ·intro w'
      go_simp
      with_reducible rfl
     rotate_left
     ·simp only [Act.put, List.setIfInBounds_toArray, List.set_cons_zero, List.set_cons_succ, i64_w, i32_w]
      rfl
     refine pure_ (i := 9) (N := some 21) (v := ?_) (a' := ?_) #[true, true, true, true, true, true, true, true, true, true, false, false, false, false, false, false, false, false, false, false, false, false] rfl rfl (any_of HT_.out (by kernel_rfl)) (fun _ _ _ h => h) (Or.inl ⟨by rfl, ?_⟩) ?_ ?_
     rotate_left
     ·intro w'
      go_simp
      with_reducible rfl
     rotate_left
     ·simp only [Act.put, List.setIfInBounds_toArray, List.set_cons_zero, List.set_cons_succ, i64_w, i32_w]
      rfl
     refine pure_ (i := 11) (N := some 23) (v := ?_) (a' := ?_) #[true, true, true, true, true, true, true, true, true, true, false, true, false, false, false, false, false, false, false, false, false, false] rfl rfl (any_of HT_.out (by kernel_rfl)) (fun _ _ _ h => h) (Or.inl ⟨by rfl, ?_⟩) ?_ ?_
     rotate_left
     ·intro w'
      go_simp
      with_reducible rfl
     rotate_left
     ·simp only [Act.put, List.setIfInBounds_toArray, List.set_cons_zero, List.set_cons_succ, i64_w, i32_w]
      rfl
     refine take_ (i := 10) (N := some 22) (v := ?_) (a' := ?_) #[true, true, true, true, true, true, true, true, true, true, true, true, false, false, false, false, false, false, false, false, false, false] rfl rfl (take_ofW HT_.out HW_.out (by kernel_rfl)) (fun _ _ _ h => h) (Or.inl ⟨by rfl, ?_⟩) hHeld ?_ ?_
     rotate_left
     ·rintro w' ⟨s0, s1⟩
      go_simp
      with_reducible rfl
     rotate_left
     ·simp only [Act.put, List.setIfInBounds_toArray, List.set_cons_zero, List.set_cons_succ, i64_w, i32_w]
      rfl
     refine take_ (i := 12) (N := some 24) (v := ?_) (a' := ?_) #[true, true, true, true, true, true, true, true, true, true, true, true, true, false, false, false, false, false, false, false, false, false] rfl rfl (take_ofW HT_.out HW_.out (by kernel_rfl)) (fun _ _ _ h => h) (Or.inl ⟨by rfl, ?_⟩) hHeld ?_ ?_
     rotate_left
     ·rintro w' ⟨s0, s1⟩
      go_simp
      with_reducible rfl
     rotate_left
     ·simp only [Act.put, List.setIfInBounds_toArray, List.set_cons_zero, List.set_cons_succ, i64_w, i32_w]
      rfl
     refine pure_ (i := 13) (N := some 25) (v := ?_) (a' := ?_) #[true, true, true, true, true, true, true, true, true, true, true, true, true, true, false, false, false, false, false, false, false, false] rfl rfl (any_of HT_.out (by kernel_rfl)) (fun _ _ _ h => h) (Or.inl ⟨by rfl, ?_⟩) ?_ ?_
     rotate_left
     ·intro w'
      go_simp
      with_reducible rfl
     rotate_left
     ·simp only [Act.put, List.setIfInBounds_toArray, List.set_cons_zero, List.set_cons_succ, i64_w, i32_w]
      rfl
     refine pure_ (i := 14) (N := some 26) (v := ?_) (a' := ?_) #[true, true, true, true, true, true, true, true, true, true, true, true, true, true, true, false, false, false, false, false, false, false] rfl rfl (any_of HT_.out (by kernel_rfl)) (fun _ _ _ h => h) (Or.inl ⟨by rfl, ?_⟩) ?_ ?_
     rotate_left
     ·intro w'
      go_simp
      with_reducible rfl
     rotate_left
     ·simp only [Act.put, List.setIfInBounds_toArray, List.set_cons_zero, List.set_cons_succ, i64_w, i32_w]
      rfl
     refine pure_ (i := 15) (N := some 27) (v := ?_) (a' := ?_) #[true, true, true, true, true, true, true, true, true, true, true, true, true, true, true, true, false, false, false, false, false, false] rfl rfl (any_of HT_.out (by kernel_rfl)) (fun _ _ _ h => h) (Or.inl ⟨by rfl, ?_⟩) ?_ ?_
     rotate_left
     ·intro w'
      go_simp
      with_reducible rfl
     rotate_left
     ·simp only [Act.put, List.setIfInBounds_toArray, List.set_cons_zero, List.set_cons_succ, i64_w, i32_w]
      rfl
     refine pure_ (i := 16) (N := some 28) (v := ?_) (a' := ?_) #[true, true, true, true, true, true, true, true, true, true, true, true, true, true, true, true, true, false, false, false, false, false] rfl rfl (any_of HT_.out (by kernel_rfl)) (fun _ _ _ h => h) (Or.inl ⟨by rfl, ?_⟩) ?_ ?_
     rotate_left
     ·intro w'
      go_simp
      with_reducible rfl
     rotate_left
     ·simp only [Act.put, List.setIfInBounds_toArray, List.set_cons_zero, List.set_cons_succ, i64_w, i32_w]
      rfl
     refine pure_ (i := 18) (N := some 30) (v := ?_) (a' := ?_) #[true, true, true, true, true, true, true, true, true, true, true, true, true, true, true, true, true, false, true, false, false, false] rfl rfl (any_of HT_.out (by kernel_rfl)) (fun _ _ _ h => h) (Or.inl ⟨by rfl, ?_⟩) ?_ ?_
     rotate_left
     ·intro w'
      go_simp
      with_reducible rfl
     rotate_left
     ·simp only [Act.put, List.setIfInBounds_toArray, List.set_cons_zero, List.set_cons_succ, i64_w, i32_w]
      rfl
     refine take_ (i := 17) (N := some 29) (v := ?_) (a' := ?_) #[true, true, true, true, true, true, true, true, true, true, true, true, true, true, true, true, true, true, true, false, false, false] rfl rfl (take_ofW HT_.out HW_.out (by kernel_rfl)) (fun _ _ _ h => h) (Or.inl ⟨by rfl, ?_⟩) hHeld ?_ ?_
     rotate_left
     ·rintro w' ⟨s0, s1⟩
      go_simp
      with_reducible rfl
     rotate_left
     ·simp only [Act.put, List.setIfInBounds_toArray, List.set_cons_zero, List.set_cons_succ, i64_w, i32_w]
      rfl
     refine one_ (i := 19) (N := some 31) #[true, true, true, true, true, true, true, true, true, true, true, true, true, true, true, true, true, true, true, true, false, false] rfl rfl (one_of HT_.out (by kernel_rfl)) (by decide) (fun K hK => ?_)
     refine goes_ Try.func32 (by kernel_rfl) rfl #[.slice A0 l0.length c0] (by rfl) rfl rfl (by (try simp only [List.map_toArray, List.map_cons, List.map_nil]); (rfl)) ?_
     with_reducible refine (variorumref06_In.calls k _ _ l0 t249 _ ?side1 ?side2 A14.out).mono ?_
     (case side1 => repeat ((exact (Kd.C_below HR0.out HB.out))))
     (case side2 => exact HC0.out)
     rintro e w17 ⟨rfl, hb⟩
     refine ⟨_, rfl, ?_⟩
     have n0_ := Aside0.mk (blk_below (g := gb246) (o := .cells #[.int .i64 a1_0, .int .i64 a1_1] 42 (0, 0)) (by (with_reducible repeat ((refine blk_drew ?_))); exact BK246.out) hb)
     have n1_ := Aside0.mk (blk_below (g := gb247) (o := .cells #[.int .i64 0, .int .i64 0] 42 (0, 0)) (by (with_reducible repeat ((refine blk_drew ?_))); exact BK247.out) hb)
     have n2_ := Aside0.mk (below_step (by repeat ((with_reducible (exact HB.out)))) hb)
     clear BK246
     clear BK247
     clear HB
     have BK246 := n0_
     have BK247 := n1_
     have HB := n2_
     clear n0_ n1_ n2_
     (try clear hb)
     (try clear hb2)
     (try clear hk)
     (try clear hi)
     refine hK.out _ _ ⟨(blk_cell BK246.out 0).trans rfl, (blk_cell BK246.out 1).trans rfl⟩ (fun hHeld => ?_)
     clear hK K
     refine norm_ (a' := ?_) ?_ ?_
     rotate_left
     ·show Act.put _ (some 31) _ = _
      simp only [Act.put, List.setIfInBounds_toArray, List.set_cons_zero, List.set_cons_succ, i64_w, i32_w]
      rfl
     refine pure_ (i := 20) (N := some 32) (v := ?_) (a' := ?_) #[true, true, true, true, true, true, true, true, true, true, true, true, true, true, true, true, true, true, true, true, true, false] rfl rfl (any_of HT_.out (by kernel_rfl)) (fun _ _ _ h => h) (Or.inl ⟨by rfl, ?_⟩) ?_ ?_
     rotate_left
     ·intro w'
      go_simp
      with_reducible rfl
     rotate_left
     ·simp only [Act.put, List.setIfInBounds_toArray, List.set_cons_zero, List.set_cons_succ, i64_w, i32_w]
      rfl
     refine pure_ (i := 21) (N := some 33) (v := ?_) (a' := ?_) #[true, true, true, true, true, true, true, true, true, true, true, true, true, true, true, true, true, true, true, true, true, true] rfl rfl (any_of HT_.out (by kernel_rfl)) (fun _ _ _ h => h) (Or.inl ⟨by rfl, ?_⟩) ?_ ?_
     rotate_left
     ·intro w'
      go_simp
      with_reducible rfl
     rotate_left
     ·simp only [Act.put, List.setIfInBounds_toArray, List.set_cons_zero, List.set_cons_succ, i64_w, i32_w]
      rfl
     refine done_ (done_of HT_.out (by kernel_rfl)) ?_
     try go_wp2
     go_meet
     case rel => exact ⟨_, (decide (a1_1 > t249)), (by (rfl)), H', ⟨by (omega)⟩, ⟨by (with_reducible repeat ((refine blk_drew ?_))); exact BK246.out⟩, ⟨by (with_reducible repeat ((refine blk_drew ?_))); exact BK247.out⟩, ⟨by repeat ((with_reducible (exact HB.out)))⟩⟩
  ·replace c7 := Bool.eq_false_iff.mpr c7
   subst c7
   have H1 : (variorumref10_Span.j0 k l0 true a1_0 a1_1) = some (r1, r2, r3) := by rw [if_neg (show ¬ (false = true) by decide)] at H; exact H
   clear H
   have H := H1
   clear H1
   have H' := Aside0.mk H
   clear H
   try go_wp2
   have n0_ := Aside0.mk (blk_drew BK246.out)
   have n1_ := Aside0.mk (blk_drew BK247.out)
   have n2_ := Aside0.mk (below_drew1 HB.out)
   clear BK246
   clear BK247
   clear HB
   have BK246 := n0_
   have BK247 := n1_
   have HB := n2_
   clear n0_ n1_ n2_
   refine start_ (n := 22) (S := fun w' => True) (ds := []) #[false, false, false, false, false, false, false, false, false, false, false, false, false, false, false, false, false, false, false, false, false, false] (by kernel_rfl) rfl rfl trivial (fun hHeld => ?_); refine with_tabW variorumref10_Span.tab1 variorumref10_Span.bits1 (fun HT_ HW_ => ?_)
   generalize w5.drew = w18 at BK246 BK247 HB hHeld ⊢
   refine pure_ (i := 0) (N := some 12) (v := ?_) (a' := ?_) #[true, false, false, false, false, false, false, false, false, false, false, false, false, false, false, false, false, false, false, false, false, false] rfl rfl (any_of HT_.out (by kernel_rfl)) (fun _ _ _ h => h) (Or.inl ⟨by rfl, ?_⟩) ?_ ?_
   rotate_left
   ·intro w'
    go_simp
    with_reducible rfl
   rotate_left
   ·simp only [Act.put, List.setIfInBounds_toArray, List.set_cons_zero, List.set_cons_succ, i64_w, i32_w]
    rfl
   refine one_ (i := 1) (N := some 13) #[true, true, false, false, false, false, false, false, false, false, false, false, false, false, false, false, false, false, false, false, false, false] rfl rfl (one_of HT_.out (by kernel_rfl)) (by decide) (fun K hK => ?_)
   refine goes_ Try.func14 (by kernel_rfl) rfl #[.slice A0 l0.length c0] (by rfl) rfl rfl (by (try simp only [List.map_toArray, List.map_cons, List.map_nil]); (rfl)) ?_
   with_reducible refine (variorumref06_Good.calls _ _ l0 false _ ?side1 ?side2 A6.out).mono ?_
   (case side1 => repeat ((exact (Kd.C_below HR0.out HB.out))))
   (case side2 => exact HC0.out)
   rintro e w19 ⟨rfl, hb⟩
   refine ⟨_, rfl, ?_⟩
   have n0_ := Aside0.mk (blk_below (g := gb246) (o := .cells #[.int .i64 a1_0, .int .i64 a1_1] 42 (0, 0)) (by (with_reducible repeat ((refine blk_drew ?_))); exact BK246.out) hb)
   have n1_ := Aside0.mk (blk_below (g := gb247) (o := .cells #[.int .i64 0, .int .i64 0] 42 (0, 0)) (by (with_reducible repeat ((refine blk_drew ?_))); exact BK247.out) hb)
   have n2_ := Aside0.mk (below_step (by repeat ((with_reducible (exact HB.out)))) hb)
   clear BK246
   clear BK247
   clear HB
   have BK246 := n0_
   have BK247 := n1_
   have HB := n2_
   clear n0_ n1_ n2_
   (try clear hb)
   (try clear hb2)
   (try clear hk)
   (try clear hi)
   refine hK.out _ _ trivial (fun hHeld => ?_)
   clear hK K
   refine norm_ (a' := ?_) ?_ ?_
   rotate_left
   ·show Act.put _ (some 13) _ = _
    simp only [Act.put, List.setIfInBounds_toArray, List.set_cons_zero, List.set_cons_succ, i64_w, i32_w]
    rfl
   refine pure_ (i := 2) (N := some 14) (v := ?_) (a' := ?_) #[true, true, true, false, false, false, false, false, false, false, false, false, false, false, false, false, false, false, false, false, false, false] rfl rfl (any_of HT_.out (by kernel_rfl)) (fun _ _ _ h => h) (Or.inl ⟨by rfl, ?_⟩) ?_ ?_
   rotate_left
   ·intro w'
    go_simp
    with_reducible rfl
   rotate_left
   ·simp only [Act.put, List.setIfInBounds_toArray, List.set_cons_zero, List.set_cons_succ, i64_w, i32_w]
    rfl
   refine pure_ (i := 3) (N := some 15) (v := ?_) (a' := ?_) #[true, true, true, true, false, false, false, false, false, false, false, false, false, false, false, false, false, false, false, false, false, false] rfl rfl (any_of HT_.out (by kernel_rfl)) (fun _ _ _ h => h) (Or.inl ⟨by rfl, ?_⟩) ?_ ?_
   rotate_left
   ·intro w'
    go_simp
    with_reducible rfl
   rotate_left
   ·simp only [Act.put, List.setIfInBounds_toArray, List.set_cons_zero, List.set_cons_succ, i64_w, i32_w]
    rfl
   refine pure_ (i := 4) (N := some 16) (v := undef) (a' := ?_) #[true, true, true, true, true, false, false, false, false, false, false, false, false, false, false, false, false, false, false, false, false, false] rfl rfl (any_of HT_.out (by kernel_rfl)) (fun _ _ _ h => h) (Or.inr ⟨by rfl, rfl⟩) ?_ ?_
   rotate_left
   ·simp only [Act.put, List.setIfInBounds_toArray, List.set_cons_zero, List.set_cons_succ, i64_w, i32_w]
    rfl
   refine pure_ (i := 5) (N := some 17) (v := undef) (a' := ?_) #[true, true, true, true, true, true, false, false, false, false, false, false, false, false, false, false, false, false, false, false, false, false] rfl rfl (any_of HT_.out (by kernel_rfl)) (fun _ _ _ h => h) (Or.inr ⟨by rfl, rfl⟩) ?_ ?_
   rotate_left
   ·simp only [Act.put, List.setIfInBounds_toArray, List.set_cons_zero, List.set_cons_succ, i64_w, i32_w]
    rfl
   refine pure_ (i := 6) (N := some 18) (v := undef) (a' := ?_) #[true, true, true, true, true, true, true, false, false, false, false, false, false, false, false, false, false, false, false, false, false, false] rfl rfl (any_of HT_.out (by kernel_rfl)) (fun _ _ _ h => h) (Or.inr ⟨by rfl, rfl⟩) ?_ ?_
   rotate_left
   ·simp only [Act.put, List.setIfInBounds_toArray, List.set_cons_zero, List.set_cons_succ, i64_w, i32_w]
    rfl
   refine pure_ (i := 7) (N := some 19) (v := ?_) (a' := ?_) #[true, true, true, true, true, true, true, true, false, false, false, false, false, false, false, false, false, false, false, false, false, false] rfl rfl (any_of HT_.out (by kernel_rfl)) (fun _ _ _ h => h) (Or.inl ⟨by rfl, ?_⟩) ?_ ?_
   rotate_left
   ·intro w'
    go_simp
    with_reducible rfl
   rotate_left
   ·simp only [Act.put, List.setIfInBounds_toArray, List.set_cons_zero, List.set_cons_succ, i64_w, i32_w]
    rfl
   refine pure_ (i := 8) (N := some 20) (v := ?_) (a' := ?_) #[true, true, true, true, true, true, true, true, true, false, false, false, false, false, false, false, false, false, false, false, false, false] rfl rfl (any_of HT_.out (by kernel_rfl)) (fun _ _ _ h => h) (Or.inl ⟨by rfl, ?_⟩) ?_ ?_
   rotate_left
   ·intro w'
    go_simp
    with_reducible rfl
   rotate_left
   ·simp only [Act.put, List.setIfInBounds_toArray, List.set_cons_zero, List.set_cons_succ, i64_w, i32_w]
    rfl
   refine pure_ (i := 9) (N := some 21) (v := undef) (a' := ?_) #[true, true, true, true, true, true, true, true, true, true, false, false, false, false, false, false, false, false, false, false, false, false] rfl rfl (any_of HT_.out (by kernel_rfl)) (fun _ _ _ h => h) (Or.inr ⟨by rfl, rfl⟩) ?_ ?_
   rotate_left
   ·simp only [Act.put, List.setIfInBounds_toArray, List.set_cons_zero, List.set_cons_succ, i64_w, i32_w]
    rfl
   refine pure_ (i := 10) (N := some 22) (v := undef) (a' := ?_) #[true, true, true, true, true, true, true, true, true, true, true, false, false, false, false, false, false, false, false, false, false, false] rfl rfl (any_of HT_.out (by kernel_rfl)) (fun _ _ _ h => h) (Or.inr ⟨by rfl, rfl⟩) ?_ ?_
   rotate_left
   ·simp only [Act.put, List.setIfInBounds_toArray, List.set_cons_zero, List.set_cons_succ, i64_w, i32_w]
    rfl
   refine pure_ (i := 11) (N := some 23) (v := undef) (a' := ?_) #[true, true, true, true, true, true, true, true, true, true, true, true, false, false, false, false, false, false, false, false, false, false] rfl rfl (any_of HT_.out (by kernel_rfl)) (fun _ _ _ h => h) (Or.inr ⟨by rfl, rfl⟩) ?_ ?_
   rotate_left
   ·simp only [Act.put, List.setIfInBounds_toArray, List.set_cons_zero, List.set_cons_succ, i64_w, i32_w]
    rfl
   refine pure_ (i := 12) (N := some 24) (v := undef) (a' := ?_) #[true, true, true, true, true, true, true, true, true, true, true, true, true, false, false, false, false, false, false, false, false, false] rfl rfl (any_of HT_.out (by kernel_rfl)) (fun _ _ _ h => h) (Or.inr ⟨by rfl, rfl⟩) ?_ ?_
   rotate_left
   ·simp only [Act.put, List.setIfInBounds_toArray, List.set_cons_zero, List.set_cons_succ, i64_w, i32_w]
    rfl
   refine pure_ (i := 13) (N := some 25) (v := undef) (a' := ?_) #[true, true, true, true, true, true, true, true, true, true, true, true, true, true, false, false, false, false, false, false, false, false] rfl rfl (any_of HT_.out (by kernel_rfl)) (fun _ _ _ h => h) (Or.inr ⟨by rfl, rfl⟩) ?_ ?_
   rotate_left
   ·simp only [Act.put, List.setIfInBounds_toArray, List.set_cons_zero, List.set_cons_succ, i64_w, i32_w]
    rfl
   refine pure_ (i := 14) (N := some 26) (v := ?_) (a' := ?_) #[true, true, true, true, true, true, true, true, true, true, true, true, true, true, true, false, false, false, false, false, false, false] rfl rfl (any_of HT_.out (by kernel_rfl)) (fun _ _ _ h => h) (Or.inl ⟨by rfl, ?_⟩) ?_ ?_
   rotate_left
   ·intro w'
    go_simp
    with_reducible rfl
   rotate_left
   ·simp only [Act.put, List.setIfInBounds_toArray, List.set_cons_zero, List.set_cons_succ, i64_w, i32_w]
    rfl
   refine pure_ (i := 15) (N := some 27) (v := ?_) (a' := ?_) #[true, true, true, true, true, true, true, true, true, true, true, true, true, true, true, true, false, false, false, false, false, false] rfl rfl (any_of HT_.out (by kernel_rfl)) (fun _ _ _ h => h) (Or.inl ⟨by rfl, ?_⟩) ?_ ?_
   rotate_left
   ·intro w'
    go_simp
    with_reducible rfl
   rotate_left
   ·simp only [Act.put, List.setIfInBounds_toArray, List.set_cons_zero, List.set_cons_succ, i64_w, i32_w]
    rfl
   refine pure_ (i := 16) (N := some 28) (v := undef) (a' := ?_) #[true, true, true, true, true, true, true, true, true, true, true, true, true, true, true, true, true, false, false, false, false, false] rfl rfl (any_of HT_.out (by kernel_rfl)) (fun _ _ _ h => h) (Or.inr ⟨by rfl, rfl⟩) ?_ ?_
   rotate_left
   ·simp only [Act.put, List.setIfInBounds_toArray, List.set_cons_zero, List.set_cons_succ, i64_w, i32_w]
    rfl
   refine pure_ (i := 17) (N := some 29) (v := undef) (a' := ?_) #[true, true, true, true, true, true, true, true, true, true, true, true, true, true, true, true, true, true, false, false, false, false] rfl rfl (any_of HT_.out (by kernel_rfl)) (fun _ _ _ h => h) (Or.inr ⟨by rfl, rfl⟩) ?_ ?_
   rotate_left
   ·simp only [Act.put, List.setIfInBounds_toArray, List.set_cons_zero, List.set_cons_succ, i64_w, i32_w]
    rfl
   refine pure_ (i := 18) (N := some 30) (v := undef) (a' := ?_) #[true, true, true, true, true, true, true, true, true, true, true, true, true, true, true, true, true, true, true, false, false, false] rfl rfl (any_of HT_.out (by kernel_rfl)) (fun _ _ _ h => h) (Or.inr ⟨by rfl, rfl⟩) ?_ ?_
   rotate_left
   ·simp only [Act.put, List.setIfInBounds_toArray, List.set_cons_zero, List.set_cons_succ, i64_w, i32_w]
    rfl
   refine pure_ (i := 19) (N := some 31) (v := undef) (a' := ?_) #[true, true, true, true, true, true, true, true, true, true, true, true, true, true, true, true, true, true, true, true, false, false] rfl rfl (any_of HT_.out (by kernel_rfl)) (fun _ _ _ h => h) (Or.inr ⟨by rfl, rfl⟩) ?_ ?_
   rotate_left
   ·simp only [Act.put, List.setIfInBounds_toArray, List.set_cons_zero, List.set_cons_succ, i64_w, i32_w]
    rfl
   refine pure_ (i := 20) (N := some 32) (v := undef) (a' := ?_) #[true, true, true, true, true, true, true, true, true, true, true, true, true, true, true, true, true, true, true, true, true, false] rfl rfl (any_of HT_.out (by kernel_rfl)) (fun _ _ _ h => h) (Or.inr ⟨by rfl, rfl⟩) ?_ ?_
   rotate_left
   ·simp only [Act.put, List.setIfInBounds_toArray, List.set_cons_zero, List.set_cons_succ, i64_w, i32_w]
    rfl
   refine pure_ (i := 21) (N := some 33) (v := ?_) (a' := ?_) #[true, true, true, true, true, true, true, true, true, true, true, true, true, true, true, true, true, true, true, true, true, true] rfl rfl (any_of HT_.out (by kernel_rfl)) (fun _ _ _ h => h) (Or.inl ⟨by rfl, ?_⟩) ?_ ?_
   rotate_left
   ·intro w'
    go_simp
    with_reducible rfl
   rotate_left
   ·simp only [Act.put, List.setIfInBounds_toArray, List.set_cons_zero, List.set_cons_succ, i64_w, i32_w]
    rfl
   refine done_ (done_of HT_.out (by kernel_rfl)) ?_
   try go_wp2
   go_meet
   case rel => exact ⟨_, (true), (by (rfl)), H', ⟨by (omega)⟩, ⟨by (with_reducible repeat ((refine blk_drew ?_))); exact BK246.out⟩, ⟨by (with_reducible repeat ((refine blk_drew ?_))); exact BK247.out⟩, ⟨by repeat ((with_reducible (exact HB.out)))⟩⟩
 case rest =>
  clear HC3
  try clear c1
  try clear p2
  try clear c3
  try clear c7
  try clear c11
  try clear c11b0
  try clear c14
  obtain ⟨kq, x33_2, rfl, HA, HJ2, BK246, BK247, HB⟩ := hcut
  cases kq with
  | zero => exact absurd HA.out (by simp [variorumref10_Span.j0])
  | succ kj2 =>
   have H := HA.out
   clear HA
   simp only [variorumref10_Span.j0] at H
   by_cases c20 : x33_2 = true
   ·subst c20
    have H1 : (some (0, 0, false)) = some (r1, r2, r3) := by rw [if_pos rfl] at H; exact H
    clear H
    have H := H1
    clear H1
    simp only [Option.some.injEq, Prod.mk.injEq] at H
    obtain ⟨rfl, rfl, rfl⟩ := H
    have hnb21 := NB247_246.out
    have hnc21 := NB246_247.out
    have hcz22_0 : wc.cell? ⟨gb247, 0, none⟩ = some (.int .i64 0) := (blk_cell BK247.out 0).trans rfl
    have hcz22_1 : wc.cell? ⟨gb247, 1, none⟩ = some (.int .i64 0) := (blk_cell BK247.out 1).trans rfl
    have hfz22_0 := blk_frozen BK247.out 0
    have hfz22_1 := blk_frozen BK247.out 1
    go_wp2
    refine bodyPost_ret (results_ct rfl _ _ gb247 42 #[.int .i64 0, .int .i64 0] (0, 0) _ rfl (by (with_reducible repeat ((refine blk_drew ?_))); refine blk_put (cs := #[.int .i64 0, .int .i64 0]) ?_ 1 _ rfl; (with_reducible repeat ((refine blk_drew ?_))); refine blk_put (cs := #[.int .i64 0, .int .i64 0]) ?_ 0 _ rfl; (with_reducible repeat ((refine blk_drew ?_))); exact BK247.out) Try.underlying42 rfl (by kernel_rfl)) rfl ?_
    exact ⟨by (rfl), by repeat ((with_reducible first | exact HB.out | refine below_set ?_ GE247.out))⟩
   ·replace c20 := Bool.eq_false_iff.mpr c20
    subst c20
    have H1 : ((variorumref09_Drops.f kj2 l0).bind fun t250 => (variorumref10_Span.l0 kj2 l0 t250 (-1) (-1) a1_0 a1_0 a1_1)) = some (r1, r2, r3) := by rw [if_neg (show ¬ (false = true) by decide)] at H; exact H
    clear H
    have H := H1
    clear H1
    replace H := Option.bind_eq_some_iff.mp H
    obtain ⟨t250, A230, H⟩ := H
    replace H : (variorumref10_Span.l0 kj2 l0 t250 (-1) (-1) a1_0 a1_0 a1_1) = some (r1, r2, r3) := H
    have A23 := Aside0.mk A230
    clear A230
    have H' := Aside0.mk H
    clear H
    go_wp2_with (first | ((with_reducible refine gate_callee (f := 46) rfl ?_); refine goesL_ (some 36) rfl rfl Try.func46 (by kernel_rfl) rfl #[.slice A0 l0.length c0] rfl (by (try simp only [List.map_toArray, List.map_cons, List.map_nil]); (rfl)) ?_; (with_reducible refine (variorumref09_Drops.calls kj2 _ _ l0 t250 _ ?side1 ?side2 A23.out).mono ?_); (case side1 => repeat ((exact (Kd.C_below HR0.out HB.out)))); (case side2 => exact HC0.out); rintro e w24 ⟨v251, rfl, ho0, hb⟩; refine ⟨_, rfl, ?_⟩; have n0_ := Aside0.mk (Kd.R_lower ho0 (below_size (by repeat ((with_reducible (exact HB.out)))))); have n1_ := Aside0.mk (blk_below (g := gb246) (o := .cells #[.int .i64 a1_0, .int .i64 a1_1] 42 (0, 0)) (by (with_reducible repeat ((refine blk_drew ?_))); exact BK246.out) hb); have n2_ := Aside0.mk (blk_below (g := gb247) (o := .cells #[.int .i64 0, .int .i64 0] 42 (0, 0)) (by (with_reducible repeat ((refine blk_drew ?_))); exact BK247.out) hb); have n3_ := Aside0.mk (below_step (by repeat ((with_reducible (exact HB.out)))) hb); clear BK246; clear BK247; clear HB; have HO252 := n0_; have BK246 := n1_; have BK247 := n2_; have HB := n3_; clear n0_ n1_ n2_ n3_; (try clear hb); (try clear hb2); (try clear hk); (try clear hi); (try clear ho0); have hnb25 := NB246_247.out; have hnc25 := NB247_246.out; have hcz26_0 : w24.cell? ⟨gb246, 0, none⟩ = some (.int .i64 a1_0) := (blk_cell BK246.out 0).trans rfl; have hcz26_1 : w24.cell? ⟨gb246, 1, none⟩ = some (.int .i64 a1_1) := (blk_cell BK246.out 1).trans rfl; have hfz26_0 := blk_frozen BK246.out 0; have hfz26_1 := blk_frozen BK246.out 1))
    go_loopg [7, 8, 9] kj2 (fun kq v7 v8 v9 w' => ∃ (x7_2 : Int) (x8_2 : Int) (x9_2 : Int), v7 = .int .i64 x7_2 ∧ v8 = .int .i64 x8_2 ∧ v9 = .int .i64 x9_2 ∧ Aside0 (variorumref10_Span.l0 kq l0 t250 x7_2 x8_2 x9_2 a1_0 a1_1 = some (r1, r2, r3)) ∧ Aside0 (kq ≤ kj2) ∧ Aside0 (Kd.R Kd.bool 4 w' w.heap.size (fun _ => True) v251 t250) ∧ Aside0 (w'.heap[gb246]? = some (.cells #[.int .i64 a1_0, .int .i64 a1_1] 42 (0, 0))) ∧ Aside0 (w'.heap[gb247]? = some (.cells #[.int .i64 0, .int .i64 0] 42 (0, 0))) ∧ Aside0 (Below w.heap.size w w'))
    case atStart => exact ⟨((-1)), ((-1)), (a1_0), (by (rfl)), (by (rfl)), (by (rfl)), H', ⟨Nat.le_refl _⟩, ⟨by (with_reducible repeat ((apply Kd.R_drew))); exact HO252.out⟩, ⟨by (with_reducible repeat ((refine blk_drew ?_))); exact BK246.out⟩, ⟨by (with_reducible repeat ((refine blk_drew ?_))); exact BK247.out⟩, ⟨by repeat ((with_reducible (exact HB.out)))⟩⟩
    case round =>
     clear H'
     try clear c1
     try clear c2
     try clear p2
     try clear c3
     try clear c4
     try clear c7
     try clear c11
     try clear c11b0
     try clear c14
     try clear c20
     try clear c21
     try clear c25
     try clear hcz22_0
     try clear hcz22_1
     try clear hcz26_0
     try clear hcz26_1
     try clear hfz22_0
     try clear hfz22_1
     try clear hfz26_0
     try clear hfz26_1
     try clear p2
     obtain ⟨x7_2, x8_2, x9_2, rfl, rfl, rfl, HA, HK2, HO_6, BK246, BK247, HB⟩ := hrel
     cases gk with
     | zero => exact absurd HA.out (by simp [variorumref10_Span.l0])
     | succ k2 =>
      have H := HA.out
      clear HA
      simp only [variorumref10_Span.l0] at H
      by_cases c27 : x9_2 < a1_1
      ·rw [if_pos c27] at H
       have c27b0 : decide (x9_2 < a1_1) = true := decide_eq_true c27
       clear c27
       by_cases c28 : 0 ≤ x9_2
       ·rw [if_pos c28] at H
        have c28b0 : decide (0 ≤ x9_2) = true := decide_eq_true c28
        clear c28
        by_cases c29 : x9_2 < (t250.length : Int)
        ·rw [if_pos c29] at H
         have c29b0 : decide (x9_2 < (t250.length : Int)) = true := decide_eq_true c29
         clear c29
         obtain ⟨bq30, hbq30⟩ : ∃ b_ : Bool, b_ = (rdOf false t250 x9_2) := ⟨_, rfl⟩
         replace H : (if bq30 = true then (variorumref10_Span.l0 k2 l0 t250 x7_2 x8_2 (wrap64 (x9_2 + 1)) a1_0 a1_1) else ((variorumref10_Move.f k2 l0 x9_2 true).bind fun bt256 => (if x7_2 < 0 then (variorumref10_Span.l0 k2 l0 t250 bt256.1 (wrap64 (bt256.1 + 1)) (wrap64 (x9_2 + 1)) a1_0 a1_1) else (variorumref10_Span.l0 k2 l0 t250 x7_2 (wrap64 (bt256.1 + 1)) (wrap64 (x9_2 + 1)) a1_0 a1_1)))) = some (r1, r2, r3) := by rw [← hbq30] at H; exact H
         have Nbq30 := Aside0.mk hbq30
         clear hbq30
         by_cases c31 : bq30 = true
         ·subst c31
          have H1 : (variorumref10_Span.l0 k2 l0 t250 x7_2 x8_2 (wrap64 (x9_2 + 1)) a1_0 a1_1) = some (r1, r2, r3) := by rw [if_pos rfl] at H; exact H
          clear H
          have H := H1
          clear H1
          have H' := Aside0.mk H
          clear H
          have hnb32 := NB246_247.out
          have hnc32 := NB247_246.out
          have hcz33_0 : wr.cell? ⟨gb246, 0, none⟩ = some (.int .i64 a1_0) := (blk_cell BK246.out 0).trans rfl
          have hcz33_1 : wr.cell? ⟨gb246, 1, none⟩ = some (.int .i64 a1_1) := (blk_cell BK246.out 1).trans rfl
          have hfz33_0 := blk_frozen BK246.out 0
          have hfz33_1 := blk_frozen BK246.out 1
          obtain ⟨Ao34, co34, eo34⟩ := Kd.R_slice HO_6.out
          subst eo34
          have p255 : 0 ≤ (x9_2 : Int) := of_decide_eq_true (by (with_reducible assumption))
          have q255 : x9_2 < (t250.length : Int) := of_decide_eq_true (by (with_reducible assumption))
          obtain ⟨ad255, e255, hx255_0⟩ := Kd.at_bool (Kd.R_reads' HO_6.out).2.2 x9_2 p255 q255
          (try rw [← Nbq30.out] at hx255_0)
          cases e255
          replace p255 := eq_true p255
          replace q255 := eq_true q255
          go_wp2
          go_roundg k2
          case measure => have := HJ2.out; have := HK2.out; omega
          case rel => exact ⟨(x7_2), (x8_2), (wrap64 (x9_2 + 1)), (by (rfl)), (by (rfl)), (by (rfl)), H', ⟨by have := HJ2.out; have := HK2.out; omega⟩, ⟨by (with_reducible repeat ((apply Kd.R_drew))); exact HO_6.out⟩, ⟨by (with_reducible repeat ((refine blk_drew ?_))); exact BK246.out⟩, ⟨by (with_reducible repeat ((refine blk_drew ?_))); exact BK247.out⟩, ⟨by repeat ((with_reducible (exact HB.out)))⟩⟩
         ·replace c31 := Bool.eq_false_iff.mpr c31
          subst c31
          have H1 : ((variorumref10_Move.f k2 l0 x9_2 true).bind fun bt256 => (if x7_2 < 0 then (variorumref10_Span.l0 k2 l0 t250 bt256.1 (wrap64 (bt256.1 + 1)) (wrap64 (x9_2 + 1)) a1_0 a1_1) else (variorumref10_Span.l0 k2 l0 t250 x7_2 (wrap64 (bt256.1 + 1)) (wrap64 (x9_2 + 1)) a1_0 a1_1))) = some (r1, r2, r3) := by rw [if_neg (show ¬ (false = true) by decide)] at H; exact H
          clear H
          have H := H1
          clear H1
          replace H := Option.bind_eq_some_iff.mp H
          obtain ⟨⟨t256, t257⟩, A350, H⟩ := H
          replace H : (if x7_2 < 0 then (variorumref10_Span.l0 k2 l0 t250 t256 (wrap64 (t256 + 1)) (wrap64 (x9_2 + 1)) a1_0 a1_1) else (variorumref10_Span.l0 k2 l0 t250 x7_2 (wrap64 (t256 + 1)) (wrap64 (x9_2 + 1)) a1_0 a1_1)) = some (r1, r2, r3) := H
          have A35 := Aside0.mk A350
          clear A350
          by_cases c36 : x7_2 < 0
          ·rw [if_pos c36] at H
           have c36b0 : decide (x7_2 < 0) = true := decide_eq_true c36
           clear c36
           have H' := Aside0.mk H
           clear H
           have hnb37 := NB246_247.out
           have hnc37 := NB247_246.out
           have hcz38_0 : wr.cell? ⟨gb246, 0, none⟩ = some (.int .i64 a1_0) := (blk_cell BK246.out 0).trans rfl
           have hcz38_1 : wr.cell? ⟨gb246, 1, none⟩ = some (.int .i64 a1_1) := (blk_cell BK246.out 1).trans rfl
           have hfz38_0 := blk_frozen BK246.out 0
           have hfz38_1 := blk_frozen BK246.out 1
           obtain ⟨Ao39, co39, eo39⟩ := Kd.R_slice HO_6.out
           subst eo39
           have p255 : 0 ≤ (x9_2 : Int) := of_decide_eq_true (by (with_reducible assumption))
           have q255 : x9_2 < (t250.length : Int) := of_decide_eq_true (by (with_reducible assumption))
           obtain ⟨ad255, e255, hx255_0⟩ := Kd.at_bool (Kd.R_reads' HO_6.out).2.2 x9_2 p255 q255
           (try rw [← Nbq30.out] at hx255_0)
           cases e255
           replace p255 := eq_true p255
           replace q255 := eq_true q255
           go_wp2_with (first | ((with_reducible refine gate_callee (f := 47) rfl ?_); refine goesL_ (some 53) rfl rfl Try.func47 (by kernel_rfl) rfl #[.slice A0 l0.length c0, .int .i64 x9_2, .bool true] rfl (by (try simp only [List.map_toArray, List.map_cons, List.map_nil]); (rfl)) ?_; (with_reducible refine (variorumref10_Move.calls k2 _ _ l0 x9_2 true t256 t257 _ ?side1 ?side2 A35.out).mono ?_); (case side1 => repeat ((exact (Kd.C_below HR0.out HB.out)))); (case side2 => exact HC0.out); rintro e w40 ⟨rfl, hb⟩; refine ⟨_, rfl, ?_⟩; have n0_ := Aside0.mk (Kd.R_below (by (with_reducible repeat ((apply Kd.R_drew))); exact HO_6.out) hb); have n1_ := Aside0.mk (blk_below (g := gb246) (o := .cells #[.int .i64 a1_0, .int .i64 a1_1] 42 (0, 0)) (by (with_reducible repeat ((refine blk_drew ?_))); exact BK246.out) hb); have n2_ := Aside0.mk (blk_below (g := gb247) (o := .cells #[.int .i64 0, .int .i64 0] 42 (0, 0)) (by (with_reducible repeat ((refine blk_drew ?_))); exact BK247.out) hb); have n3_ := Aside0.mk (below_step (by repeat ((with_reducible (exact HB.out)))) hb); clear HO_6; clear BK246; clear BK247; clear HB; have HO_6 := n0_; have BK246 := n1_; have BK247 := n2_; have HB := n3_; clear n0_ n1_ n2_ n3_; (try clear hb); (try clear hb2); (try clear hk); (try clear hi)))
           go_roundg k2
           case measure => have := HJ2.out; have := HK2.out; omega
           case rel => exact ⟨(t256), (wrap64 (t256 + 1)), (wrap64 (x9_2 + 1)), (by (rfl)), (by (rfl)), (by (rfl)), H', ⟨by have := HJ2.out; have := HK2.out; omega⟩, ⟨by (with_reducible repeat ((apply Kd.R_drew))); exact HO_6.out⟩, ⟨by (with_reducible repeat ((refine blk_drew ?_))); exact BK246.out⟩, ⟨by (with_reducible repeat ((refine blk_drew ?_))); exact BK247.out⟩, ⟨by repeat ((with_reducible (exact HB.out)))⟩⟩
          ·rw [if_neg c36] at H
           have c36b0 : decide (x7_2 < 0) = false := decide_eq_false c36
           clear c36
           have H' := Aside0.mk H
           clear H
           have hnb41 := NB246_247.out
           have hnc41 := NB247_246.out
           have hcz42_0 : wr.cell? ⟨gb246, 0, none⟩ = some (.int .i64 a1_0) := (blk_cell BK246.out 0).trans rfl
           have hcz42_1 : wr.cell? ⟨gb246, 1, none⟩ = some (.int .i64 a1_1) := (blk_cell BK246.out 1).trans rfl
           have hfz42_0 := blk_frozen BK246.out 0
           have hfz42_1 := blk_frozen BK246.out 1
           obtain ⟨Ao43, co43, eo43⟩ := Kd.R_slice HO_6.out
           subst eo43
           have p255 : 0 ≤ (x9_2 : Int) := of_decide_eq_true (by (with_reducible assumption))
           have q255 : x9_2 < (t250.length : Int) := of_decide_eq_true (by (with_reducible assumption))
           obtain ⟨ad255, e255, hx255_0⟩ := Kd.at_bool (Kd.R_reads' HO_6.out).2.2 x9_2 p255 q255
           (try rw [← Nbq30.out] at hx255_0)
           cases e255
           replace p255 := eq_true p255
           replace q255 := eq_true q255
           go_wp2_with (first | ((with_reducible refine gate_callee (f := 47) rfl ?_); refine goesL_ (some 53) rfl rfl Try.func47 (by kernel_rfl) rfl #[.slice A0 l0.length c0, .int .i64 x9_2, .bool true] rfl (by (try simp only [List.map_toArray, List.map_cons, List.map_nil]); (rfl)) ?_; (with_reducible refine (variorumref10_Move.calls k2 _ _ l0 x9_2 true t256 t257 _ ?side1 ?side2 A35.out).mono ?_); (case side1 => repeat ((exact (Kd.C_below HR0.out HB.out)))); (case side2 => exact HC0.out); rintro e w44 ⟨rfl, hb⟩; refine ⟨_, rfl, ?_⟩; have n0_ := Aside0.mk (Kd.R_below (by (with_reducible repeat ((apply Kd.R_drew))); exact HO_6.out) hb); have n1_ := Aside0.mk (blk_below (g := gb246) (o := .cells #[.int .i64 a1_0, .int .i64 a1_1] 42 (0, 0)) (by (with_reducible repeat ((refine blk_drew ?_))); exact BK246.out) hb); have n2_ := Aside0.mk (blk_below (g := gb247) (o := .cells #[.int .i64 0, .int .i64 0] 42 (0, 0)) (by (with_reducible repeat ((refine blk_drew ?_))); exact BK247.out) hb); have n3_ := Aside0.mk (below_step (by repeat ((with_reducible (exact HB.out)))) hb); clear HO_6; clear BK246; clear BK247; clear HB; have HO_6 := n0_; have BK246 := n1_; have BK247 := n2_; have HB := n3_; clear n0_ n1_ n2_ n3_; (try clear hb); (try clear hb2); (try clear hk); (try clear hi)))
           go_roundg k2
           case measure => have := HJ2.out; have := HK2.out; omega
           case rel => exact ⟨(x7_2), (wrap64 (t256 + 1)), (wrap64 (x9_2 + 1)), (by (rfl)), (by (rfl)), (by (rfl)), H', ⟨by have := HJ2.out; have := HK2.out; omega⟩, ⟨by (with_reducible repeat ((apply Kd.R_drew))); exact HO_6.out⟩, ⟨by (with_reducible repeat ((refine blk_drew ?_))); exact BK246.out⟩, ⟨by (with_reducible repeat ((refine blk_drew ?_))); exact BK247.out⟩, ⟨by repeat ((with_reducible (exact HB.out)))⟩⟩
        ·rw [if_neg c29] at H
         exact absurd H (by simp)
       ·rw [if_neg c28] at H
        exact absurd H (by simp)
      ·rw [if_neg c27] at H
       have c27b0 : decide (x9_2 < a1_1) = false := decide_eq_false c27
       clear c27
       by_cases c45 : x7_2 < 0
       ·rw [if_pos c45] at H
        have c45b0 : decide (x7_2 < 0) = true := decide_eq_true c45
        clear c45
        replace H := Option.bind_eq_some_iff.mp H
        obtain ⟨⟨t253, t254⟩, A460, H⟩ := H
        replace H : (some (t253, t253, true)) = some (r1, r2, r3) := H
        have A46 := Aside0.mk A460
        clear A460
        simp only [Option.some.injEq, Prod.mk.injEq] at H
        obtain ⟨rfl, rfl, rfl⟩ := H
        have hnb47 := NB246_247.out
        have hnc47 := NB247_246.out
        have hcz48_0 : wr.cell? ⟨gb246, 0, none⟩ = some (.int .i64 a1_0) := (blk_cell BK246.out 0).trans rfl
        have hcz48_1 : wr.cell? ⟨gb246, 1, none⟩ = some (.int .i64 a1_1) := (blk_cell BK246.out 1).trans rfl
        have hfz48_0 := blk_frozen BK246.out 0
        have hfz48_1 := blk_frozen BK246.out 1
        go_wp2_with (first | ((with_reducible refine gate_callee (f := 47) rfl ?_); refine goesL_ (some 67) rfl rfl Try.func47 (by kernel_rfl) rfl #[.slice A0 l0.length c0, .int .i64 a1_0, .bool false] rfl (by (try simp only [List.map_toArray, List.map_cons, List.map_nil]); (rfl)) ?_; (with_reducible refine (variorumref10_Move.calls k2 _ _ l0 a1_0 false t253 t254 _ ?side1 ?side2 A46.out).mono ?_); (case side1 => repeat ((exact (Kd.C_below HR0.out HB.out)))); (case side2 => exact HC0.out); rintro e w49 ⟨rfl, hb⟩; refine ⟨_, rfl, ?_⟩; have n0_ := Aside0.mk (Kd.R_below (by (with_reducible repeat ((apply Kd.R_drew))); exact HO_6.out) hb); have n1_ := Aside0.mk (blk_below (g := gb246) (o := .cells #[.int .i64 a1_0, .int .i64 a1_1] 42 (0, 0)) (by (with_reducible repeat ((refine blk_drew ?_))); exact BK246.out) hb); have n2_ := Aside0.mk (blk_below (g := gb247) (o := .cells #[.int .i64 0, .int .i64 0] 42 (0, 0)) (by (with_reducible repeat ((refine blk_drew ?_))); exact BK247.out) hb); have n3_ := Aside0.mk (below_step (by repeat ((with_reducible (exact HB.out)))) hb); clear HO_6; clear BK246; clear BK247; clear HB; have HO_6 := n0_; have BK246 := n1_; have BK247 := n2_; have HB := n3_; clear n0_ n1_ n2_ n3_; (try clear hb); (try clear hb2); (try clear hk); (try clear hi); have hcz50_0 : w49.cell? ⟨gb247, 0, none⟩ = some (.int .i64 0) := (blk_cell BK247.out 0).trans rfl; have hcz50_1 : w49.cell? ⟨gb247, 1, none⟩ = some (.int .i64 0) := (blk_cell BK247.out 1).trans rfl; have hfz50_0 := blk_frozen BK247.out 0; have hfz50_1 := blk_frozen BK247.out 1))
        refine bodyPost_ret (results_ct rfl _ _ gb247 42 #[.int .i64 t253, .int .i64 t253] (0, 0) _ rfl (by (with_reducible repeat ((refine blk_drew ?_))); refine blk_put (cs := #[.int .i64 t253, .int .i64 0]) ?_ 1 _ rfl; (with_reducible repeat ((refine blk_drew ?_))); refine blk_put (cs := #[.int .i64 0, .int .i64 0]) ?_ 0 _ rfl; (with_reducible repeat ((refine blk_drew ?_))); exact BK247.out) Try.underlying42 rfl (by kernel_rfl)) rfl ?_
        exact ⟨by (rfl), by repeat ((with_reducible first | exact HB.out | refine below_set ?_ GE247.out))⟩
       ·rw [if_neg c45] at H
        have c45b0 : decide (x7_2 < 0) = false := decide_eq_false c45
        clear c45
        simp only [Option.some.injEq, Prod.mk.injEq] at H
        obtain ⟨rfl, rfl, rfl⟩ := H
        have hnb51 := NB246_247.out
        have hnc51 := NB247_246.out
        have hcz52_0 : wr.cell? ⟨gb246, 0, none⟩ = some (.int .i64 a1_0) := (blk_cell BK246.out 0).trans rfl
        have hcz52_1 : wr.cell? ⟨gb246, 1, none⟩ = some (.int .i64 a1_1) := (blk_cell BK246.out 1).trans rfl
        have hfz52_0 := blk_frozen BK246.out 0
        have hfz52_1 := blk_frozen BK246.out 1
        have hcz53_0 : wr.cell? ⟨gb247, 0, none⟩ = some (.int .i64 0) := (blk_cell BK247.out 0).trans rfl
        have hcz53_1 : wr.cell? ⟨gb247, 1, none⟩ = some (.int .i64 0) := (blk_cell BK247.out 1).trans rfl
        have hfz53_0 := blk_frozen BK247.out 0
        have hfz53_1 := blk_frozen BK247.out 1
        go_wp2
        refine bodyPost_ret (results_ct rfl _ _ gb247 42 #[.int .i64 x7_2, .int .i64 x8_2] (0, 0) _ rfl (by (with_reducible repeat ((refine blk_drew ?_))); refine blk_put (cs := #[.int .i64 x7_2, .int .i64 0]) ?_ 1 _ rfl; (with_reducible repeat ((refine blk_drew ?_))); refine blk_put (cs := #[.int .i64 0, .int .i64 0]) ?_ 0 _ rfl; (with_reducible repeat ((refine blk_drew ?_))); exact BK247.out) Try.underlying42 rfl (by kernel_rfl)) rfl ?_
        exact ⟨by (rfl), by repeat ((with_reducible first | exact HB.out | refine below_set ?_ GE247.out))⟩
end Go.Proofs.Ytjbnffadfohofaa.P
end
-- MERGED YtjbnffadfohofaaPlaceG
section
namespace Go.Proofs.Ytjbnffadfohofaa.PlaceG
open Go.RowKit Go.Proofs.Ytjbnffadfohofaa.P Go.Proofs.YtjbnffadfohofaaW.PrintWords Go.Proofs.YtjbnffadfohofaaW.PrintLast Go.Proofs.YtjbnffadfohofaaW.PrintMore Go.Proofs.Ytjbnffadfohofaa.EditL Go.Proofs.Ytjbnffadfohofaa.EditK Go.Proofs.Ytjbnffadfohofaa.EditF Go.Proofs.Ytjbnffadfohofaa.EditG Go.Proofs.Ytjbnffadfohofaa.EditH1 Go.Proofs.Ytjbnffadfohofaa.PlaceI Go.Proofs.Ytjbnffadfohofaa.PlaceM Go.Proofs.Ytjbnffadfohofaa.PlaceC Go.Proofs.Ytjbnffadfohofaa.PlaceS Go.Proofs.Ytjbnffadfohofaa.PlaceL Go.Proofs.Ytjbnffadfohofaa.PlaceF
set_option linter.unusedSimpArgs false
set_option linter.unusedVariables false
theorem drop_at {α : Type} {d : α} {l : List α} {i : Nat} (h : i < l.length) : ∃ s, l.drop i = s :: l.drop (i + 1) ∧ rdOf d l (i : Int) = s := by
 refine ⟨l[i], List.drop_eq_getElem_cons h, ?_⟩
 unfold rdOf
 rw [Int.toNat_natCast, List.getD_eq_getElem?_getD, List.getElem?_eq_getElem h]; rfl
theorem rd_rep (X Y : List Bool) (v : Bool) (n t : Nat) (j : Int) (ht : t < n) (hj : j = ((X.length + t : Nat) : Int)) : rdOf false (X ++ (List.replicate n v ++ Y)) j = v := by
 subst hj
 unfold rdOf
 rw [Int.toNat_natCast, List.getD_eq_getElem?_getD, List.getElem?_append_right (by omega), Nat.add_sub_cancel_left, List.getElem?_append_left (by simpa using ht), List.getElem?_replicate, if_pos ht]; rfl
theorem rd_last (X : List ByteArray) (s : ByteArray) : rdOf ByteArray.empty (X ++ [s]) (X.length : Int) = s := by
 unfold rdOf
 rw [Int.toNat_natCast, List.getD_eq_getElem?_getD, List.getElem?_append_right (Nat.le_refl _), Nat.sub_self]; rfl
theorem set_last (X : List ByteArray) (s t : ByteArray) : (X ++ [s]).set X.length t = X ++ [t] := by
 rw [List.set_append_right _ _ (Nat.le_refl _), Nat.sub_self]; rfl
theorem adds_in (l0 pre suf : List Rn) (r : Rn) (hfe : l0 = pre ++ r :: suf) (hb : l0.length ≤ 65536) (h1 : r.f0 + r.f2 ≤ 16777216) : ∀ (n k : Nat) (X : List ByteArray) (x : Int), 0 ≤ x → x + n = r.f0 + r.f2 → X.length + n ≤ 8000000 →
  variorumref09_Adds.l1 (k + n + 1) l0 X (pre.length : Int) x = variorumref09_Adds.l0 k l0 (X ++ List.replicate n E) ((pre.length : Int) + 1) := by
 obtain ⟨_, _, hlt⟩ := snoc hfe
 intro n
 induction n with
 | zero =>
  intro k X x hx hn hX
  simp only [variorumref09_Adds.l1]
  rw [if_pos (by omega), if_pos hlt, rd_at hfe, w64 (x := r.f0 + r.f2) (by omega) (by omega), if_neg (by omega), w64 (x := (pre.length : Int) + 1) (by omega) (by omega)]
  simp
 | succ n ih =>
  intro k X x hx hn hX
  have hi := ih k (X ++ [E]) (x + 1) (by omega) (by omega) (by simp; omega)
  rw [show k + (n + 1) + 1 = (k + n + 1) + 1 by omega]
  obtain ⟨m, hm⟩ : ∃ m, m = k + n + 1 := ⟨_, rfl⟩
  rw [← hm] at hi ⊢
  simp only [variorumref09_Adds.l1]
  rw [if_pos (by omega), if_pos hlt, rd_at hfe, w64 (x := r.f0 + r.f2) (by omega) (by omega), if_pos (by omega), if_pos (by omega), w64 (x := x + 1) (by omega) (by omega)]
  refine hi.trans ?_
  rw [List.append_assoc, List.replicate_succ]; rfl
theorem adds_l (l0 : List Rn) (hb : l0.length ≤ 65536) : ∀ (suf pre : List Rn) (k : Nat) (done : List ByteArray) (s : ByteArray), l0 = pre ++ suf → (∀ r ∈ suf, knd r ≠ 0) → 2 * suf.length + (inL suf).toNat < k → (done.length : Int) + inL suf ≤ 4000000 → (s.size : Int) + outL suf ≤ 4000000 →
  variorumref09_Adds.l0 k l0 (done ++ [s]) (pre.length : Int) = some (done ++ addsL suf s) := by
 intro suf
 induction suf with
 | nil =>
  intro pre k done s hfe _ hk _ _
  obtain ⟨k, rfl⟩ : ∃ m, k = m + 1 := ⟨k - 1, by omega⟩
  have : l0.length = pre.length := by rw [hfe]; simp
  simp only [variorumref09_Adds.l0]
  rw [if_neg (by omega)]; rfl
 | cons r suf ih =>
  intro pre k done s hfe hok hk hd hs
  have hl : ∀ x ∈ suf, knd x ≠ 0 := fun x hx => hok x (List.mem_cons_of_mem _ hx)
  have hp := knd_pos (hok r List.mem_cons_self)
  have hi := inL_nonneg hl
  obtain ⟨hl2, hn, hlt⟩ := snoc hfe
  simp only [inL, outL, List.length_cons] at hd hs hk
  obtain ⟨n, hnn⟩ : ∃ n : Nat, (n : Int) = r.f0 + r.f2 := ⟨(r.f0 + r.f2).toNat, by omega⟩
  obtain ⟨k, rfl⟩ : ∃ m, k = m + n + 1 + 1 := ⟨k - n - 2, by omega⟩
  have hin := adds_in l0 pre suf r hfe hb (by omega) n k (done ++ [s ++ r.f1]) 0 (by omega) (by omega) (by simp; omega)
  obtain ⟨m, hm⟩ : ∃ m, m = k + n + 1 := ⟨_, rfl⟩
  rw [← hm] at hin ⊢
  simp only [variorumref09_Adds.l0]
  have hw : wrap64 (((done ++ [s]).length : Int) - 1) = (done.length : Int) := by
   rw [show ((done ++ [s]).length : Int) - 1 = (done.length : Int) by simp]; exact w64 (by omega) (by omega)
  rw [if_pos hlt, hw, if_pos (by omega), if_pos (by simp; omega), if_pos (by omega), rd_at hfe, rd_last, if_pos (by omega), Int.toNat_natCast, set_last, hin]
  have next := fun done' s' => ih (pre ++ [r]) k done' s' hl2 hl (by omega)
  rw [hn] at next
  unfold addsL
  by_cases h0 : r.f0 + r.f2 = 0
  ·rw [if_pos h0]
   obtain rfl : n = 0 := by omega
   rw [show List.replicate 0 E = ([] : List ByteArray) from rfl, List.append_nil]
   exact next done (s ++ r.f1) (by omega) (by rw [size_add]; omega)
  ·rw [if_neg h0]
   obtain ⟨n, rfl⟩ : ∃ m, n = m + 1 := ⟨n - 1, by omega⟩
   have := next (done ++ [s ++ r.f1] ++ List.replicate n E) E (by simp; omega) (by rw [E_size]; omega)
   rw [List.append_assoc (done ++ [s ++ r.f1]), ← List.replicate_succ'] at this
   rw [this, show (r.f0 + r.f2).toNat - 1 = n by omega]
   simp [List.append_assoc]
theorem adds_f {l : List Rn} (hl : l.length ≤ 100) (hg : good l = true) (h1 : inL l ≤ 3000) (h2 : outL l ≤ 3000) (k : Nat) (hk : 3999 ≤ k) : variorumref09_Adds.f k l = some (addsL l E) := by
 obtain ⟨g1, g2, g3, g4⟩ := good_ok hg
 have := inL_nonneg g4
 exact adds_l l (by omega) l [] k [] E rfl g4 (by omega) (by simp; omega) (by rw [E_size]; omega)
theorem drops_in2 (l0 pre suf : List Rn) (r : Rn) (hfe : l0 = pre ++ r :: suf) (hb : l0.length ≤ 65536) (h1 : r.f2 ≤ 16777216) : ∀ (n k : Nat) (X : List Bool) (x : Int), 0 ≤ x → x + n = r.f2 → X.length + n ≤ 8000000 →
  variorumref09_Drops.l2 (k + n + 1) l0 X (pre.length : Int) x = variorumref09_Drops.l0 k l0 (X ++ List.replicate n true) ((pre.length : Int) + 1) := by
 obtain ⟨_, _, hlt⟩ := snoc hfe
 intro n
 induction n with
 | zero =>
  intro k X x hx hn hX
  simp only [variorumref09_Drops.l2]
  rw [if_pos (by omega), if_pos hlt, rd_at hfe, if_neg (by omega), w64 (x := (pre.length : Int) + 1) (by omega) (by omega)]
  simp
 | succ n ih =>
  intro k X x hx hn hX
  have hi := ih k (X ++ [true]) (x + 1) (by omega) (by omega) (by simp; omega)
  rw [show k + (n + 1) + 1 = (k + n + 1) + 1 by omega]
  obtain ⟨m, hm⟩ : ∃ m, m = k + n + 1 := ⟨_, rfl⟩
  rw [← hm] at hi ⊢
  simp only [variorumref09_Drops.l2]
  rw [if_pos (by omega), if_pos hlt, rd_at hfe, if_pos (by omega), if_pos (by omega), w64 (x := x + 1) (by omega) (by omega)]
  refine hi.trans ?_
  rw [List.append_assoc, List.replicate_succ]; rfl
theorem drops_in1 (l0 pre suf : List Rn) (r : Rn) (hfe : l0 = pre ++ r :: suf) (hb : l0.length ≤ 65536) (h1 : r.f0 ≤ 16777216) : ∀ (n k : Nat) (X : List Bool) (x : Int), 0 ≤ x → x + n = r.f0 → X.length + n ≤ 8000000 →
  variorumref09_Drops.l1 (k + n + 1) l0 X (pre.length : Int) x = variorumref09_Drops.l2 k l0 (X ++ List.replicate n false) (pre.length : Int) 0 := by
 obtain ⟨_, _, hlt⟩ := snoc hfe
 intro n
 induction n with
 | zero =>
  intro k X x hx hn hX
  simp only [variorumref09_Drops.l1]
  rw [if_pos (by omega), if_pos hlt, rd_at hfe, if_neg (by omega)]
  simp
 | succ n ih =>
  intro k X x hx hn hX
  have hi := ih k (X ++ [false]) (x + 1) (by omega) (by omega) (by simp; omega)
  rw [show k + (n + 1) + 1 = (k + n + 1) + 1 by omega]
  obtain ⟨m, hm⟩ : ∃ m, m = k + n + 1 := ⟨_, rfl⟩
  rw [← hm] at hi ⊢
  simp only [variorumref09_Drops.l1]
  rw [if_pos (by omega), if_pos hlt, rd_at hfe, if_pos (by omega), if_pos (by omega), w64 (x := x + 1) (by omega) (by omega)]
  refine hi.trans ?_
  rw [List.append_assoc, List.replicate_succ]; rfl
theorem drops_l (l0 : List Rn) (hb : l0.length ≤ 65536) : ∀ (suf pre : List Rn) (k : Nat) (X : List Bool), l0 = pre ++ suf → (∀ r ∈ suf, knd r ≠ 0) → 3 * suf.length + (inL suf).toNat < k → (X.length : Int) + inL suf ≤ 4000000 →
  variorumref09_Drops.l0 k l0 X (pre.length : Int) = some (X ++ dropsL suf) := by
 intro suf
 induction suf with
 | nil =>
  intro pre k X hfe _ hk _
  obtain ⟨k, rfl⟩ : ∃ m, k = m + 1 := ⟨k - 1, by omega⟩
  have : l0.length = pre.length := by rw [hfe]; simp
  simp only [variorumref09_Drops.l0]
  rw [if_neg (by omega)]; simp [dropsL]
 | cons r suf ih =>
  intro pre k X hfe hok hk hd
  have hl : ∀ x ∈ suf, knd x ≠ 0 := fun x hx => hok x (List.mem_cons_of_mem _ hx)
  have hp := knd_pos (hok r List.mem_cons_self)
  have hi := inL_nonneg hl
  obtain ⟨hl2, hn, hlt⟩ := snoc hfe
  simp only [inL, List.length_cons] at hd hk
  obtain ⟨a, ha⟩ : ∃ n : Nat, (n : Int) = r.f0 := ⟨r.f0.toNat, by omega⟩
  obtain ⟨b, hb2⟩ : ∃ n : Nat, (n : Int) = r.f2 := ⟨r.f2.toNat, by omega⟩
  obtain ⟨k, rfl⟩ : ∃ m, k = m + b + 1 + a + 1 + 1 := ⟨k - a - b - 3, by omega⟩
  have e1 := drops_in1 l0 pre suf r hfe hb (by omega) a (k + b + 1) X 0 (by omega) (by omega) (by omega)
  have e2 := drops_in2 l0 pre suf r hfe hb (by omega) b k (X ++ List.replicate a false) 0 (by omega) (by omega) (by simp; omega)
  have e3 := ih (pre ++ [r]) k (X ++ List.replicate a false ++ List.replicate b true) hl2 hl (by omega) (by simp; omega)
  rw [hn] at e3
  obtain ⟨m, hm⟩ : ∃ m, m = k + b + 1 + a + 1 := ⟨_, rfl⟩
  rw [← hm] at e1 ⊢
  simp only [variorumref09_Drops.l0]
  rw [if_pos hlt, e1, e2, e3]
  show _ = some (X ++ (List.replicate r.f0.toNat false ++ (List.replicate r.f2.toNat true ++ dropsL suf)))
  rw [show r.f0.toNat = a by omega, show r.f2.toNat = b by omega]
  simp [List.append_assoc]
theorem drops_f {l : List Rn} (hl : l.length ≤ 100) (hg : good l = true) (h1 : inL l ≤ 3000) (k : Nat) (hk : 3999 ≤ k) : variorumref09_Drops.f k l = some (dropsL l) := by
 obtain ⟨g1, g2, g3, g4⟩ := good_ok hg
 have := inL_nonneg g4
 exact drops_l l (by omega) l [] k [] rfl g4 (by omega) (by simp; omega)
theorem G_nonneg : ∀ (n : Nat) (A : List ByteArray) (D : List Bool) (b : Bool), 0 ≤ G A D n b := by
 intro n
 induction n with
 | zero => intro A D b; cases A <;> simp only [G] <;> (try split) <;> omega
 | succ n ih =>
  intro A D b
  cases A with
  | nil => simp only [G]; omega
  | cons s A =>
   cases D with
   | nil => simp only [G]; omega
   | cons d D =>
    have := ih A D b
    simp only [G]
    split <;> omega
theorem rmove_l (a : Int) (b : Bool) (A : List ByteArray) (D : List Bool) (ha : a < (A.length : Int)) (hd : a ≤ (D.length : Int)) (hA : A.length ≤ 100000) : ∀ (m k i : Nat) (n : Int), (i : Int) + m = a → m < k → 0 ≤ n → n + G (A.drop i) (D.drop i) m b ≤ 4000000 →
  variorumref10_Move.l0 k a b A D n (i : Int) = some (n + G (A.drop i) (D.drop i) m b, true) := by
 intro m
 induction m with
 | zero =>
  intro k i n hi hk hn hG
  obtain ⟨k, rfl⟩ : ∃ m, k = m + 1 := ⟨k - 1, by omega⟩
  obtain ⟨s, hs, hr⟩ := drop_at (d := ByteArray.empty) (l := A) (i := i) (by omega)
  have hia : (i : Int) = a := by omega
  simp only [variorumref10_Move.l0]
  rw [if_neg (by omega)]
  rw [hs] at hG ⊢
  rw [hia] at hr
  simp only [G] at hG ⊢
  cases b with
  | false => rw [if_neg Bool.false_ne_true]; simp
  | true =>
   rw [if_pos rfl] at hG
   rw [if_pos rfl, if_pos (by omega), if_pos ha, hr, w64 (by omega) (by omega)]; rfl
 | succ m ih =>
  intro k i n hi hk hn hG
  obtain ⟨k, rfl⟩ : ∃ m, k = m + 1 := ⟨k - 1, by omega⟩
  obtain ⟨s, hs, hr⟩ := drop_at (d := ByteArray.empty) (l := A) (i := i) (by omega)
  obtain ⟨d, hds, hdr⟩ := drop_at (d := false) (l := D) (i := i) (by omega)
  simp only [variorumref10_Move.l0]
  rw [hs, hds] at hG ⊢
  simp only [G] at hG ⊢
  have hg := G_nonneg m (A.drop (i + 1)) (D.drop (i + 1)) b
  rw [if_pos (by omega), if_pos (by omega), if_pos (by omega), if_pos (by omega), hr, hdr]
  have next := fun n' => ih k (i + 1) n' (by omega) (by omega)
  rw [show ((i + 1 : Nat) : Int) = (i : Int) + 1 by omega] at next
  cases d with
  | true =>
   rw [if_pos rfl] at hG ⊢
   rw [if_pos rfl, w64 (x := n + (s.size : Int)) (by omega) (by omega), w64 (x := (i : Int) + 1) (by omega) (by omega), next _ (by omega) (by omega)]
   simp; omega
  | false =>
   rw [if_neg Bool.false_ne_true] at hG ⊢
   rw [if_neg Bool.false_ne_true, w64 (x := n + (s.size : Int)) (by omega) (by omega), w64 (x := n + (s.size : Int) + 1) (by omega) (by omega), w64 (x := (i : Int) + 1) (by omega) (by omega), next _ (by omega) (by omega)]
   simp; omega
theorem rmove_f {l : List Rn} (hl : l.length ≤ 100) (hs : good l = true → inL l ≤ 3000 ∧ outL l ≤ 3000) (a : Int) (b : Bool) (k : Nat) (hk : 4000 ≤ k) : variorumref10_Move.f k l a b = some (moveL l a b) := by
 obtain ⟨k, rfl⟩ : ∃ m, k = m + 1 := ⟨k - 1, by omega⟩
 have hj : variorumref10_Move.j0 (k + 1) l a b true = some (0, false) := by simp only [variorumref10_Move.j0]; rw [if_pos (by trivial)]
 have hno : ¬ (good l = true ∧ 0 ≤ a ∧ a ≤ inL l) → moveL l a b = (0, false) := fun h => by unfold moveL; rw [if_neg h]
 unfold variorumref10_Move.f
 rw [rgood_f (by omega), Option.bind_some]
 cases hg : good l with
 | false => rw [if_neg Bool.false_ne_true, hj, hno (fun h => by rw [hg] at h; cases h.1)]
 | true =>
  rw [if_pos rfl]
  by_cases c1 : a < 0
  ·rw [if_pos c1, hj, hno (fun h => by omega)]
  ·rw [if_neg c1, rin_f (by omega) _ (by omega), Option.bind_some, hg, if_pos rfl]
   by_cases c2 : a > inL l
   ·rw [decide_eq_true c2, hj, hno (fun h => by omega)]
   ·rw [decide_eq_false c2, moveL_P hg (by omega) (by omega)]
    obtain ⟨s1, s2⟩ := hs hg
    obtain ⟨g1, g2, g3, g4⟩ := good_ok hg
    have hp := P_le_out l g4 a b (by omega)
    have la := addsL_length l E g4
    have ld := dropsL_length l g4
    have hG := G_P l E a.toNat b g4 (by omega)
    rw [E_size, show (if a.toNat = 0 ∧ b = false then (0 : Int) else ((0 : Nat) : Int)) = 0 by split <;> rfl, Int.zero_add, show ((a.toNat : Nat) : Int) = a by omega] at hG
    simp only [variorumref10_Move.j0]
    rw [if_neg (by simp), adds_f hl hg s1 s2 _ (by omega), Option.bind_some, drops_f hl hg s1 _ (by omega), Option.bind_some]
    have := rmove_l a b (addsL l E) (dropsL l) (by omega) (by omega) (by omega) a.toNat k 0 0 (by omega) (by omega) (by omega) (by rw [List.drop_zero, List.drop_zero, hG]; omega)
    rw [List.drop_zero, List.drop_zero, hG] at this
    refine this.trans ?_
    rw [Int.zero_add]
theorem dropsL_append (x y : List Rn) : dropsL (x ++ y) = dropsL x ++ dropsL y := by
 induction x with
 | nil => rfl
 | cons r x ih => rw [List.cons_append]; simp only [dropsL]; rw [ih]; simp [List.append_assoc]
theorem drop_bit {op pre suf : List Rn} {r : Rn} (hfe : op = pre ++ r :: suf) (hok : ∀ x ∈ op, knd x ≠ 0) {j : Int} (h1 : inL pre ≤ j) (h2 : j < inL pre + (r.f0 + r.f2)) : rdOf false (dropsL op) j = decide (0 < r.f2) := by
 have hp : ∀ x ∈ pre, knd x ≠ 0 := fun x hx => hok x (by rw [hfe]; exact List.mem_append_left _ hx)
 have hr := hok r (by rw [hfe]; simp)
 have hl := dropsL_length pre hp
 rw [hfe, dropsL_append]
 have e0 : dropsL (r :: suf) = List.replicate r.f0.toNat false ++ (List.replicate r.f2.toNat true ++ dropsL suf) := rfl
 rw [e0]
 rcases knd_three hr with c | c | c
 ·have e := run_eq c
  rw [decide_eq_false (by omega)]
  exact rd_rep _ _ _ _ (j - inL pre).toNat _ (by omega) (by omega)
 ·have e := run_eq2 c
  omega
 ·have e := run_eq3 c
  rw [decide_eq_true (by omega), show r.f0.toNat = 0 by omega, show List.replicate 0 false = ([] : List Bool) from rfl, List.nil_append]
  exact rd_rep _ _ _ _ (j - inL pre).toNat _ (by omega) (by omega)
structure Fit (op : List Rn) : Prop where
 l : op.length ≤ 100
 g : good op = true
 i : inL op ≤ 3000
 o : outL op ≤ 3000
theorem Fit.move {op : List Rn} (h : Fit op) {a : Int} (b : Bool) (k : Nat) (hk : 4000 ≤ k) (h0 : 0 ≤ a) (h1 : a ≤ inL op) : variorumref10_Move.f k op a b = some (P op a b, true) := by
 rw [rmove_f h.l (fun _ => ⟨h.i, h.o⟩) a b k hk, moveL_P h.g h0 h1]
theorem run_drop {op pre suf : List Rn} {r : Rn} (h : Fit op) (hfe : op = pre ++ r :: suf) (hr : knd r = 3) (a b : Int) : ∀ (n k : Nat) (f t j : Int), 0 ≤ j → inL pre ≤ j → j + n ≤ inL pre + r.f2 → j + n ≤ b → b ≤ inL op →
  variorumref10_Span.l0 (k + n) op (dropsL op) f t j a b = variorumref10_Span.l0 k op (dropsL op) f t (j + n) a b := by
 obtain ⟨g1, g2, g3, g4⟩ := good_ok h.g
 have e := run_eq3 hr
 have hi := h.i
 have ld := dropsL_length op g4
 intro n
 induction n with
 | zero => intro k f t j _ _ _ _ _; simp
 | succ n ih =>
  intro k f t j h0 h1 h2 h3 h4
  have := ih k f t (j + 1) (by omega) (by omega) (by omega) (by omega) h4
  rw [show k + (n + 1) = (k + n) + 1 by omega]
  obtain ⟨m, hm⟩ : ∃ m, m = k + n := ⟨_, rfl⟩
  rw [← hm] at this ⊢
  simp only [variorumref10_Span.l0]
  rw [if_pos (by omega), if_pos (by omega), if_pos (by omega), drop_bit hfe g4 h1 (by omega), decide_eq_true (by omega), if_pos rfl, w64 (x := j + 1) (by omega) (by omega), this, show j + 1 + (n : Int) = j + ((n + 1 : Nat) : Int) by omega]
theorem run_keep {op pre suf : List Rn} {r : Rn} (h : Fit op) (hfe : op = pre ++ r :: suf) (hr : knd r = 1) (a b : Int) : ∀ (n k : Nat) (f t j : Int), 0 ≤ j → inL pre ≤ j → j + n ≤ inL pre + r.f0 → j + n ≤ b → b ≤ inL op → 4000 ≤ k →
  variorumref10_Span.l0 (k + n) op (dropsL op) f t j a b = variorumref10_Span.l0 k op (dropsL op) (if n = 0 then f else if f < 0 then outL pre + j - inL pre else f) (if n = 0 then t else outL pre + (j + n) - inL pre) (j + n) a b := by
 obtain ⟨g1, g2, g3, g4⟩ := good_ok h.g
 have e := run_eq hr
 have hi := h.i
 have ho := h.o
 have ld := dropsL_length op g4
 have hp : ∀ x ∈ pre, knd x ≠ 0 := fun x hx => g4 x (by rw [hfe]; exact List.mem_append_left _ hx)
 have hpn := inL_nonneg hp
 intro n
 induction n with
 | zero => intro k f t j _ _ _ _ _ _; simp
 | succ n ih =>
  intro k f t j h0 h1 h2 h3 h4 hk
  have hP : P op j true = outL pre + j - inL pre := by
   have := P_app pre hp (r :: suf) (j - inL pre) (by omega)
   rw [← hfe, show inL pre + (j - inL pre) = j by omega] at this
   rw [this, P_keep hr, if_pos (by omega)]; omega
  have hPo := P_le_out op g4 j true h0
  have := fun f' t' => ih k f' t' (j + 1) (by omega) (by omega) (by omega) (by omega) h4 hk
  rw [show k + (n + 1) = (k + n) + 1 by omega]
  obtain ⟨m, hm⟩ : ∃ m, m = k + n := ⟨_, rfl⟩
  rw [← hm] at this ⊢
  simp only [variorumref10_Span.l0]
  rw [if_pos (by omega), if_pos (by omega), if_pos (by omega), drop_bit hfe g4 h1 (by omega), decide_eq_false (by omega), if_neg Bool.false_ne_true, h.move true m (by omega) h0 (by omega), Option.bind_some, w64 (x := j + 1) (by omega) (by omega), hP, w64 (x := outL pre + j - inL pre + 1) (by omega) (by omega)]
  rw [show j + 1 + (n : Int) = j + ((n + 1 : Nat) : Int) by omega] at this
  rw [if_neg (show ¬ (n + 1 = 0) by omega), if_neg (show ¬ (n + 1 = 0) by omega)]
  by_cases hf : f < 0
  ·rw [if_pos hf, if_pos hf, this]
   rw [if_neg (show ¬ (outL pre + j - inL pre < 0) by omega)]
   by_cases hn : n = 0
   ·subst hn; rw [if_pos rfl, if_pos rfl]; congr 1; omega
   ·rw [if_neg hn, if_neg hn]
  ·rw [if_neg hf, if_neg hf, this]
   rw [if_neg hf]
   by_cases hn : n = 0
   ·subst hn; rw [if_pos rfl, if_pos rfl]; congr 1; omega
   ·rw [if_neg hn, if_neg hn]
def fin3 (op : List Rn) (a : Int) (m : Sp) : Int × Int × Bool := if m.found then (m.e0, m.e1, true) else (P op a false, P op a false, true)
def Rel (m : Sp) (f t : Int) : Prop := (m.found = true ∧ f = m.e0 ∧ t = m.e1 ∧ 0 ≤ f) ∨ (m.found = false ∧ f = -1)
theorem span_end {op : List Rn} (h : Fit op) {a b : Int} (h0 : 0 ≤ a) (h1 : a ≤ b) (h2 : b ≤ inL op) {m : Sp} {f t j : Int} (hr : Rel m f t) (hj : b ≤ j) (k : Nat) (hk : 4001 ≤ k) : variorumref10_Span.l0 k op (dropsL op) f t j a b = some (fin3 op a m) := by
 obtain ⟨k, rfl⟩ : ∃ m, k = m + 1 := ⟨k - 1, by omega⟩
 simp only [variorumref10_Span.l0]
 rw [if_neg (by omega)]
 unfold fin3
 rcases hr with ⟨c, rfl, rfl, c2⟩ | ⟨c, rfl⟩
 ·rw [if_neg (by omega), if_pos c]
 ·rw [if_pos (by decide), h.move false k (by omega) h0 (by omega), Option.bind_some, if_neg (by rw [c]; exact Bool.false_ne_true)]
theorem spS_past (a b : Int) : ∀ (l : List Rn) (i o : Int) (m : Sp), (∀ r ∈ l, knd r ≠ 0) → (b ≤ i ∨ b ≤ a) → spS a b (stepsL l i o) m = m := by
 intro l
 induction l with
 | nil => intro i o m _ _; rfl
 | cons r l ih =>
  intro i o m hok hie
  have hp := knd_pos (hok r List.mem_cons_self)
  show spS a b (stepsL l _ _) (meetL a b ⟨r, i, o⟩ m) = m
  have : meetL a b ⟨r, i, o⟩ m = m := by
   unfold meetL hi lo
   rw [if_pos]
   simp only
   split <;> split <;> omega
  rw [this]
  exact ih _ _ _ (fun x hx => hok x (List.mem_cons_of_mem _ hx)) (by omega)
set_option maxHeartbeats 1000000 in
theorem span_l {op : List Rn} (h : Fit op) {a b : Int} (h0 : 0 ≤ a) (h1 : a ≤ b) (h2 : b ≤ inL op) : ∀ (suf pre : List Rn) (k : Nat) (m : Sp) (f t j : Int), op = pre ++ suf → Rel m f t → j = (if a < inL pre then inL pre else a) → 4001 + (b - j).toNat ≤ k →
  variorumref10_Span.l0 k op (dropsL op) f t j a b = some (fin3 op a (spS a b (stepsL suf (inL pre) (outL pre)) m)) := by
 obtain ⟨g1, g2, g3, g4⟩ := good_ok h.g
 intro suf
 induction suf with
 | nil =>
  intro pre k m f t j hfe hr hj hk
  obtain rfl : op = pre := by rw [hfe]; simp
  exact span_end h h0 h1 h2 hr (by rw [hj]; split <;> omega) k (by omega)
 | cons r suf ih =>
  intro pre k m f t j hfe hr hj hk
  have hok : ∀ x ∈ r :: suf, knd x ≠ 0 := fun x hx => g4 x (by rw [hfe]; exact List.mem_append_right _ hx)
  have hp : ∀ x ∈ pre, knd x ≠ 0 := fun x hx => g4 x (by rw [hfe]; exact List.mem_append_left _ hx)
  have hpn := inL_nonneg hp
  have hja : a ≤ j ∧ inL pre ≤ j ∧ (j = a ∨ j = inL pre) := by rw [hj]; split <;> omega
  have hlo : lo a ⟨r, inL pre, outL pre⟩ = j := by rw [hj]; rfl
  by_cases hjb : b ≤ j
  ·rw [spS_past a b _ _ _ _ hok (by omega)]
   exact span_end h h0 h1 h2 hr hjb k (by omega)
  ·have hl2 : op = (pre ++ [r]) ++ suf := by rw [hfe]; simp
   have ei : inL (pre ++ [r]) = inL pre + (r.f0 + r.f2) := by rw [inL_append]; simp [inL]
   have eo : outL (pre ++ [r]) = outL pre + (r.f0 + (r.f1.size : Int)) := by rw [outL_append]; simp [outL]
   have next := fun k m f t j => ih (pre ++ [r]) k m f t j hl2
   rw [ei, eo] at next
   show _ = some (fin3 op a (spS a b (stepsL suf (inL pre + (r.f0 + r.f2)) (outL pre + (r.f0 + (r.f1.size : Int)))) (meetL a b ⟨r, inL pre, outL pre⟩ m)))
   have hmt : meetL a b ⟨r, inL pre, outL pre⟩ m = if (if inL pre + r.f0 < b then inL pre + r.f0 else b) ≤ j then m else ⟨if m.found then m.e0 else outL pre + j - inL pre, outL pre + (if inL pre + r.f0 < b then inL pre + r.f0 else b) - inL pre, true⟩ := by
    unfold meetL
    rw [hlo]; rfl
   have hsok : ∀ x ∈ suf, knd x ≠ 0 := fun x hx => hok x (List.mem_cons_of_mem _ hx)
   rw [hmt]
   rcases knd_three (hok r List.mem_cons_self) with c | c | c
   ·have e := run_eq c
    by_cases c1 : inL pre + r.f0 ≤ j
    ·rw [if_pos (by split <;> omega)]
     exact next k m f t j hr (by rw [if_neg (by omega)]; omega) (by omega)
    ·have hT : j < (if inL pre + r.f0 < b then inL pre + r.f0 else b) := by split <;> omega
     rw [if_neg (by omega)]
     obtain ⟨T, hTe⟩ : ∃ T, T = (if inL pre + r.f0 < b then inL pre + r.f0 else b) := ⟨_, rfl⟩
     have hTb : T ≤ inL pre + r.f0 ∧ T ≤ b ∧ (T = b ∨ T = inL pre + r.f0) := by rw [hTe]; split <;> omega
     rw [← hTe] at hT ⊢
     obtain ⟨n, hn⟩ : ∃ n : Nat, (n : Int) = T - j := ⟨(T - j).toNat, by omega⟩
     obtain ⟨k, rfl⟩ : ∃ q, k = q + n := ⟨k - n, by omega⟩
     rw [run_keep h hfe c a b n k f t j (by omega) (by omega) (by omega) (by omega) h2 (by omega), if_neg (show ¬ n = 0 by omega), if_neg (show ¬ n = 0 by omega), show j + (n : Int) = T by omega]
     have hr2 : Rel ⟨if m.found then m.e0 else outL pre + j - inL pre, outL pre + T - inL pre, true⟩ (if f < 0 then outL pre + j - inL pre else f) (outL pre + T - inL pre) := by
      refine .inl ⟨rfl, ?_, rfl, ?_⟩
      ·rcases hr with ⟨c, rfl, rfl, c2⟩ | ⟨c, rfl⟩
       ·show _ = if m.found = true then _ else _
        rw [if_neg (by omega), if_pos c]
       ·show _ = if m.found = true then _ else _
        rw [if_pos (by decide), if_neg (by rw [c]; exact Bool.false_ne_true)]
      ·split <;> omega
     by_cases cb : T = b
     ·rw [spS_past a b _ _ _ _ hsok (.inl (by omega))]
      exact span_end h h0 h1 h2 hr2 (by omega) k (by omega)
     ·exact next k _ _ _ T hr2 (by rw [if_pos (by omega)]; omega) (by omega)
   ·have e := run_eq2 c
    rw [if_pos (by split <;> omega)]
    exact next k m f t j hr (by rw [hj]; split <;> split <;> omega) (by omega)
   ·have e := run_eq3 c
    rw [if_pos (by split <;> omega)]
    by_cases c1 : inL pre + r.f2 ≤ j
    ·exact next k m f t j hr (by rw [if_neg (by omega)]; omega) (by omega)
    ·obtain ⟨T, hTe⟩ : ∃ T, T = (if inL pre + r.f2 < b then inL pre + r.f2 else b) := ⟨_, rfl⟩
     have hTb : j < T ∧ T ≤ inL pre + r.f2 ∧ T ≤ b ∧ (T = b ∨ T = inL pre + r.f2) := by rw [hTe]; split <;> omega
     obtain ⟨n, hn⟩ : ∃ n : Nat, (n : Int) = T - j := ⟨(T - j).toNat, by omega⟩
     obtain ⟨k, rfl⟩ : ∃ q, k = q + n := ⟨k - n, by omega⟩
     rw [run_drop h hfe c a b n k f t j (by omega) (by omega) (by omega) (by omega) h2, show j + (n : Int) = T by omega]
     by_cases cb : T = b
     ·rw [spS_past a b _ _ _ _ hsok (.inl (by omega))]
      exact span_end h h0 h1 h2 hr (by omega) k (by omega)
     ·exact next k m f t T hr (by rw [if_pos (by omega)]; omega) (by omega)
def tri (v : (Int × Int) × Bool) : Int × Int × Bool := (v.1.1, v.1.2, v.2)
theorem rspan_f {l : List Rn} (hl : l.length ≤ 100) (hs : good l = true → inL l ≤ 3000 ∧ outL l ≤ 3000) (a b : Int) (k : Nat) (hk : 8000 ≤ k) : variorumref10_Span.f k l a b = some (tri (spanL l a b)) := by
 obtain ⟨k, rfl⟩ : ∃ m, k = m + 1 := ⟨k - 1, by omega⟩
 have hj : variorumref10_Span.j0 (k + 1) l true a b = some (0, 0, false) := by simp only [variorumref10_Span.j0]; rw [if_pos (by trivial)]
 have hno : ¬ (good l = true ∧ 0 ≤ a ∧ a ≤ b ∧ b ≤ inL l) → spanL l a b = ((0, 0), false) := fun h => by unfold spanL; rw [if_neg h]
 unfold variorumref10_Span.f
 rw [rgood_f (by omega), Option.bind_some]
 cases hg : good l with
 | false => rw [if_neg Bool.false_ne_true, hj, hno (fun h => by rw [hg] at h; cases h.1)]; rfl
 | true =>
  rw [if_pos rfl]
  by_cases c1 : a < 0
  ·rw [if_pos c1, hj, hno (fun h => by omega)]; rfl
  ·rw [if_neg c1]
   by_cases c3 : a > b
   ·rw [if_pos c3, hj, hno (fun h => by omega)]; rfl
   ·rw [if_neg c3, rin_f (by omega) _ (by omega), Option.bind_some, hg, if_pos rfl]
    by_cases c2 : b > inL l
    ·rw [decide_eq_true c2, hj, hno (fun h => by omega)]; rfl
    ·obtain ⟨s1, s2⟩ := hs hg
     obtain ⟨g1, g2, g3, g4⟩ := good_ok hg
     have hf : Fit l := ⟨hl, hg, s1, s2⟩
     rw [decide_eq_false c2]
     simp only [variorumref10_Span.j0]
     rw [if_neg (by simp), drops_f hl hg s1 _ (by omega), Option.bind_some]
     have := span_l hf (a := a) (b := b) (by omega) (by omega) (by omega) l [] k ⟨0, 0, false⟩ (-1) (-1) a rfl (.inr ⟨rfl, rfl⟩) (by show a = if a < 0 then (0 : Int) else a; rw [if_neg (by omega)]) (by omega)
     refine this.trans ?_
     show some (fin3 l a (spS a b (stepsL l 0 0) ⟨0, 0, false⟩)) = _
     have hsp : spanL l a b = (if (spS a b (stepsL l 0 0) ⟨0, 0, false⟩).found then ((spS a b (stepsL l 0 0) ⟨0, 0, false⟩).e0, (spS a b (stepsL l 0 0) ⟨0, 0, false⟩).e1) else ((moveL l a false).1, (moveL l a false).1), true) := if_pos ⟨hg, by omega, by omega, by omega⟩
     rw [hsp, moveL_P hg (by omega) (by omega)]
     unfold tri fin3
     by_cases hfd : (spS a b (stepsL l 0 0) ⟨0, 0, false⟩).found = true
     ·rw [if_pos hfd, if_pos hfd]
     ·rw [if_neg hfd, if_neg hfd]
end Go.Proofs.Ytjbnffadfohofaa.PlaceG
end
-- MERGED YtjbnffadfohofaaMaps1
section
namespace Go.Proofs.Ytjbnffadfohofaa.Maps1
open Go.RowKit Go.Proofs.YtjbnffadfohofaaW.PrintWords Go.Proofs.YtjbnffadfohofaaW.PrintLast Go.Proofs.YtjbnffadfohofaaW.PrintMore
theorem C_map {α β : Type} {d : Kd α} {d' : Kd β} {w : World} {A : Option Addr} {n : Nat} {xs : List α} (hs : d.sz = d'.sz) (f : α → β) (hK : ∀ x cs, d.K w x cs → d'.K w (f x) cs) (h : Kd.C d w A n xs) : Kd.C d' w A n (xs.map f) := by
 refine ⟨by rw [List.length_map]; exact h.1, h.2.1, fun hp => ?_⟩
 obtain ⟨ad, e, hr⟩ := h.2.2 hp
 refine ⟨ad, e, fun j p hj => ?_⟩
 rw [List.getElem?_map] at hj
 cases hx : xs[j]? with
 | none => rw [hx] at hj; cases hj
 | some x =>
  rw [hx] at hj
  obtain rfl := Option.some.inj hj
  obtain ⟨c, h1, h2, h3⟩ := hr j x hx
  exact ⟨c, by rw [h1, hs], hK x c h2, fun i u hu => by rw [← hs]; exact h3 i u hu⟩
theorem K_slice_map {α β : Type} {d : Kd α} {d' : Kd β} {w : World} {e : Nat} (hs : d.sz = d'.sz) (f : α → β) (hK : ∀ x cs, d.K w x cs → d'.K w (f x) cs) (xs : List α) (cs : List Value) (h : (Kd.slice e d).K w xs cs) : (Kd.slice e d').K w (xs.map f) cs := by
 obtain ⟨A, c, rfl, h1, h2⟩ := h
 exact ⟨A, c, by rw [List.length_map], by rw [List.length_map]; exact h1, by rw [List.length_map]; exact C_map hs f hK h2⟩
end Go.Proofs.Ytjbnffadfohofaa.Maps1
end
-- MERGED YtjbnffadfohofaaPvariorumref10Over
section
namespace Go.Proofs.Ytjbnffadfohofaa.P
open Go.RowKit Go.Proofs.YtjbnffadfohofaaW.PrintWords Go.Proofs.YtjbnffadfohofaaW.PrintLast Go.Proofs.YtjbnffadfohofaaW.PrintMore
attribute [local go_sem] max2_int min2_int max_two min_two max_three min_three max_four min_four   -- for this text's walks alone
set_option linter.unusedVariables false
set_option linter.unusedSimpArgs false
def variorumref10_Over.l0 : Nat → List (List (S49)) → Int → Int → Int → Option (Int × Int × Bool)
 | 0, _, _, _, _ => none
 | k + 1, x0, x6, x259000, x259001 => if x6 < (x0.length : Int) then (if 0 ≤ x6 then ((variorumref10_Span.f k (rd_L3 x0 x6) x259000 x259001).bind fun bt261 => (if bt261.2.2 = true then (variorumref10_Over.l0 k x0 (wrap64 (x6 + 1)) bt261.1 bt261.2.1) else (some (0, 0, false)))) else (none)) else (some (x259000, x259001, true))
def variorumref10_Over.f (k : Nat) (l0 : List (List (S49))) (a1_0 : Int) (a1_1 : Int) : Option (Int × Int × Bool) := variorumref10_Over.l0 k l0 0 a1_0 a1_1
def variorumref10_Over.T4 : Bool × List (List Nat × List Nat) := (true, [([], []), ([], []), ([0, 1], [0, 1]), ([2], [2]), ([], []), ([3, 4], [3, 4]), ([5], [5]), ([6], [6]), ([6], [6]), ([], []), ([9, 7, 5, 0, 1, 2, 3, 4, 5, 6, 7, 9], [7, 9]), ([8, 10, 0, 1, 2, 3, 4, 5, 6, 7, 8, 9, 10], [8])])
def variorumref10_Over.B4 : List Nat := [0, 0, 3, 7, 0, 31, 63, 127, 127, 0, 767, 2047]
theorem variorumref10_Over.tab4 : rtab .any (opsOf Try.f24 4) = variorumref10_Over.T4 := by kernel_rfl
theorem variorumref10_Over.bits4 : waitsOk variorumref10_Over.T4.2 variorumref10_Over.B4 = true := by kernel_rfl
set_option maxHeartbeats 8000000 in
set_option maxRecDepth 100000 in
theorem variorumref10_Over.calls (k : Nat) (A0 : Option Addr) (c0 : Nat) (l0 : List (List (S49))) (a1_0 : Int) (a1_1 : Int) (r1 : Int) (r2 : Int) (r3 : Bool) (w : World) (hr0 : Kd.C (Kd.slice 49 k49) w A0 l0.length l0) (hc0 : l0.length ≤ c0) (h : variorumref10_Over.f k l0 a1_0 a1_1 = some (r1, r2, r3)) :
  Calls Try.prog 24 #[.slice A0 l0.length c0, .agg #[.int .i64 a1_0, .int .i64 a1_1]] w fun e w' => e = .returned (.tuple #[.agg #[.int .i64 r1, .int .i64 r2], .bool r3]) ∧ Below w.heap.size w w' := by
 have hu42 := Try.underlying42
 have HR0 := Aside0.mk hr0
 have HC0 := Aside0.mk hc0
 clear hr0 hc0
 have HB := Aside0.mk (Below.refl w.heap.size w)
 have H : (variorumref10_Over.l0 k l0 0 a1_0 a1_1) = some (r1, r2, r3) := h
 clear h
 have H' := Aside0.mk H
 clear H
 go_enter Try.func24, Try.ntmps24
 go_wp2_with (first | ((with_reducible refine gate_dst (N := 3) rfl ?_); refine box_event ?hg (N := 3) ?hd (cs := #[.int .i64 a1_0, .int .i64 a1_1]) (t := 42) ?hr ?_; (case hd => rfl); (case hg => rfl); (case hr => (go_simp; done)); intro gb258 hg w3 hbox hb; have n0_ := Aside0.mk (below_step (by repeat ((with_reducible (exact HB.out)))) hb); have n1_ := Aside0.mk (hbox); have n2_ := Aside0.mk ((by rw [hg]; exact (below_size (by repeat ((with_reducible (exact HB.out))))) : w.heap.size ≤ gb258)); have n3_ := Aside0.mk ((by rw [hg]; exact (below_size (by repeat ((with_reducible (exact HB.out))))) : w.heap.size ≤ gb258)); clear HB; have HB := n0_; have BK258 := n1_; have GW258 := n2_; have GE258 := n3_; clear n0_ n1_ n2_ n3_; clear hb hbox hg) | ((with_reducible refine gate_dst (N := 4) rfl ?_); refine box_event ?hg (N := 4) ?hd (cs := #[.int .i64 0, .int .i64 0]) (t := 42) ?hr ?_; (case hd => rfl); (case hg => rfl); (case hr => (go_simp; done)); intro gb259 hg w4 hbox hb; have n0_ := Aside0.mk (blk_below (g := gb258) (o := .cells #[.int .i64 a1_0, .int .i64 a1_1] 42 (0, 0)) (by (with_reducible repeat ((refine blk_drew ?_))); exact BK258.out) hb); have n1_ := Aside0.mk (below_step (by repeat ((with_reducible (exact HB.out)))) hb); have n2_ := Aside0.mk (hbox); have n3_ := Aside0.mk ((by rw [hg]; exact (below_size (by repeat ((with_reducible (exact HB.out))))) : w.heap.size ≤ gb259)); have n4_ := Aside0.mk ((by rw [hg]; exact (below_size (by repeat ((with_reducible (exact HB.out))))) : w.heap.size ≤ gb259)); have n5_ := Aside0.mk ((by rw [hg]; exact Nat.ne_of_lt (blk_lt (g := gb258) (o := .cells #[.int .i64 a1_0, .int .i64 a1_1] 42 (0, 0)) (by (with_reducible repeat ((refine blk_drew ?_))); exact BK258.out)) : gb258 ≠ gb259)); have n6_ := Aside0.mk ((by rw [hg]; exact Nat.ne_of_gt (blk_lt (g := gb258) (o := .cells #[.int .i64 a1_0, .int .i64 a1_1] 42 (0, 0)) (by (with_reducible repeat ((refine blk_drew ?_))); exact BK258.out)) : gb259 ≠ gb258)); clear BK258; clear HB; have BK258 := n0_; have HB := n1_; have BK259 := n2_; have GW259 := n3_; have GE259 := n4_; have NB258_259 := n5_; have NB259_258 := n6_; clear n0_ n1_ n2_ n3_ n4_ n5_ n6_; clear hb hbox hg))
 go_loopg [6] k (fun kq v6 w' => ∃ (x6_1 : Int) (x259000_1 : Int) (x259001_1 : Int) (x260000_1 : Int) (x260001_1 : Int), v6 = .int .i64 x6_1 ∧ Aside0 (variorumref10_Over.l0 kq l0 x6_1 x259000_1 x259001_1 = some (r1, r2, r3)) ∧ Aside0 (kq ≤ k) ∧ Aside0 (w'.heap[gb258]? = some (.cells #[.int .i64 x259000_1, .int .i64 x259001_1] 42 (0, 0))) ∧ Aside0 (w'.heap[gb259]? = some (.cells #[.int .i64 x260000_1, .int .i64 x260001_1] 42 (0, 0))) ∧ Aside0 (Below w.heap.size w w'))
 case atStart => exact ⟨(0), (a1_0), (a1_1), (0), (0), (by (rfl)), H', ⟨Nat.le_refl _⟩, ⟨by (with_reducible repeat ((refine blk_drew ?_))); exact BK258.out⟩, ⟨by (with_reducible repeat ((refine blk_drew ?_))); exact BK259.out⟩, ⟨by repeat ((with_reducible (exact HB.out)))⟩⟩
 case round =>
  clear H'
  try clear c2
  try clear p2
  obtain ⟨x6_1, x259000_1, x259001_1, x260000_1, x260001_1, rfl, HA, HK1, BK258, BK259, HB⟩ := hrel
  cases gk with
  | zero => exact absurd HA.out (by simp [variorumref10_Over.l0])
  | succ k1 =>
   have H := HA.out
   clear HA
   simp only [variorumref10_Over.l0] at H
   by_cases c5 : x6_1 < (l0.length : Int)
   ·rw [if_pos c5] at H
    have c5b0 : decide (x6_1 < (l0.length : Int)) = true := decide_eq_true c5
    clear c5
    by_cases c6 : 0 ≤ x6_1
    ·rw [if_pos c6] at H
     have c6b0 : decide (0 ≤ x6_1) = true := decide_eq_true c6
     clear c6
     replace H := Option.bind_eq_some_iff.mp H
     obtain ⟨⟨t261, t262, t263⟩, A70, H⟩ := H
     replace H : (if t263 = true then (variorumref10_Over.l0 k1 l0 (wrap64 (x6_1 + 1)) t261 t262) else (some (0, 0, false))) = some (r1, r2, r3) := H
     have A7 := Aside0.mk A70
     clear A70
     by_cases c8 : t263 = true
     ·subst c8
      have H1 : (variorumref10_Over.l0 k1 l0 (wrap64 (x6_1 + 1)) t261 t262) = some (r1, r2, r3) := by rw [if_pos rfl] at H; exact H
      clear H
      have H := H1
      clear H1
      have H' := Aside0.mk H
      clear H
      try go_wp2
      have n0_ := Aside0.mk (blk_drew BK258.out)
      have n1_ := Aside0.mk (blk_drew BK259.out)
      have n2_ := Aside0.mk (below_drew1 HB.out)
      clear BK258
      clear BK259
      clear HB
      have BK258 := n0_
      have BK259 := n1_
      have HB := n2_
      clear n0_ n1_ n2_
      have p260 : 0 ≤ (x6_1 : Int) := of_decide_eq_true (by (with_reducible assumption))
      have q260 : x6_1 < (l0.length : Int) := of_decide_eq_true (by (with_reducible assumption))
      obtain ⟨ad260, A260_0, c260_0, e260, hx260_0, hl260_0, hi260_0⟩ := at_L3 HR0.out x6_1 p260 q260
      have hw260_0 := hx260_0
      cases e260
      replace hx260_0 := (HB.out.cell (World.block_lt_of_cell? w _ hx260_0)).trans hx260_0
      have HR260_0 := Aside0.mk hi260_0
      have HC260_0 := Aside0.mk hl260_0
      clear hi260_0 hl260_0
      replace p260 := eq_true p260
      replace q260 := eq_true q260
      refine start_ (n := 12) (S := fun w' => w'.cell? ⟨gb258, 0, none⟩ = some (.int .i64 x259000_1) ∧ w'.cell? ⟨gb258, 1, none⟩ = some (.int .i64 x259001_1) ∧ w'.cell? (ad260.add (x6_1).toNat) = some (.slice A260_0 (rd_L3 l0 x6_1).length c260_0)) (ds := []) #[false, false, false, false, false, false, false, false, false, false, false, false] (by kernel_rfl) rfl rfl ⟨(blk_cell BK258.out 0).trans rfl, (blk_cell BK258.out 1).trans rfl, ((HB.out.cell (World.block_lt_of_cell? w _ hw260_0)).trans hw260_0)⟩ (fun hHeld => ?_); refine with_tabW variorumref10_Over.tab4 variorumref10_Over.bits4 (fun HT_ HW_ => ?_)
      generalize wr.drew = w9 at BK258 BK259 HB HR260_0 hx260_0 hHeld ⊢
      refine pure_ (i := 0) (N := some 16) (v := ?_) (a' := ?_) #[true, false, false, false, false, false, false, false, false, false, false, false] rfl rfl (any_of HT_.out (by kernel_rfl)) (fun _ _ _ h => h) (Or.inl ⟨by rfl, ?_⟩) ?_ ?_
      rotate_left
      ·intro w'
       go_simp
       with_reducible rfl
      rotate_left
      ·simp only [Act.put, List.setIfInBounds_toArray, List.set_cons_zero, List.set_cons_succ, i64_w, i32_w]
       rfl
      refine pure_ (i := 1) (N := some 17) (v := ?_) (a' := ?_) #[true, true, false, false, false, false, false, false, false, false, false, false] rfl rfl (any_of HT_.out (by kernel_rfl)) (fun _ _ _ h => h) (Or.inl ⟨by rfl, ?_⟩) ?_ ?_
      rotate_left
      ·intro w'
       go_simp
       with_reducible rfl
      rotate_left
      ·simp only [Act.put, List.setIfInBounds_toArray, List.set_cons_zero, List.set_cons_succ, i64_w, i32_w]
       rfl
      refine pure_ (i := 2) (N := some 18) (v := ?_) (a' := ?_) #[true, true, true, false, false, false, false, false, false, false, false, false] rfl rfl (any_of HT_.out (by kernel_rfl)) (fun _ _ _ h => h) (Or.inl ⟨by rfl, ?_⟩) ?_ ?_
      rotate_left
      ·intro w'
       go_simp
       with_reducible rfl
      rotate_left
      ·simp only [Act.put, List.setIfInBounds_toArray, List.set_cons_zero, List.set_cons_succ, i64_w, i32_w]
       rfl
      refine take_ (i := 3) (N := some 19) (v := ?_) (a' := ?_) #[true, true, true, true, false, false, false, false, false, false, false, false] rfl rfl (take_ofW HT_.out HW_.out (by kernel_rfl)) (fun _ _ _ h => h) (Or.inl ⟨by rfl, ?_⟩) hHeld ?_ ?_
      rotate_left
      ·rintro w' ⟨s0, s1, s2⟩
       go_simp
       with_reducible rfl
      rotate_left
      ·simp only [Act.put, List.setIfInBounds_toArray, List.set_cons_zero, List.set_cons_succ, i64_w, i32_w]
       rfl
      refine take_ (i := 4) (N := some 20) (v := ?_) (a' := ?_) #[true, true, true, true, true, false, false, false, false, false, false, false] rfl rfl (take_ofW HT_.out HW_.out (by kernel_rfl)) (fun _ _ _ h => h) (Or.inl ⟨by rfl, ?_⟩) hHeld ?_ ?_
      rotate_left
      ·rintro w' ⟨s0, s1, s2⟩
       go_simp
       with_reducible rfl
      rotate_left
      ·simp only [Act.put, List.setIfInBounds_toArray, List.set_cons_zero, List.set_cons_succ, i64_w, i32_w]
       rfl
      refine join_ (σ := Nat) 2 #[true, true, true, true, true, true, true, true, true, true, false, false] (fun s_ => [(21, .tuple #[.agg #[.int .i64 t261, .int .i64 t262], .bool true]), (7, .pointer (some ⟨s_, 0, none⟩)), (15, .tuple #[.agg #[.int .i64 t261, .int .i64 t262], .bool true]), (22, .agg #[.int .i64 t261, .int .i64 t262]), (23, .bool true)]) (fun s_ w' => (w'.cell? ⟨gb258, 0, none⟩ = some (.int .i64 x259000_1) ∧ w'.cell? ⟨gb258, 1, none⟩ = some (.int .i64 x259001_1) ∧ w'.cell? (ad260.add (x6_1).toNat) = some (.slice A260_0 (rd_L3 l0 x6_1).length c260_0)) ∧ (w'.heap[gb258]? = some (.cells #[.int .i64 x259000_1, .int .i64 x259001_1] 42 (0, 0))) ∧ (w'.heap[gb259]? = some (.cells #[.int .i64 x260000_1, .int .i64 x260001_1] 42 (0, 0))) ∧ (w'.heap[s_]? = some (.cells #[.int .i64 0, .int .i64 0] 42 (0, 0))) ∧ (w.heap.size ≤ s_) ∧ (w.heap.size ≤ s_) ∧ (gb258 ≠ s_) ∧ (s_ ≠ gb258) ∧ (gb259 ≠ s_) ∧ (s_ ≠ gb259) ∧ (Below w.heap.size w w')) ?_ ?_
      rotate_left
      ·intro hCont
       refine two_ (i := 5) (j := 9) (Ni := some 21) (Nj := some 7) #[true, true, true, true, true, true, false, false, false, false, false, false] #[true, true, true, true, true, false, false, false, false, true, false, false] rfl rfl rfl rfl (two_of HT_.out (by kernel_rfl)) (by decide) (by decide) (fun K hK => ?_) (fun K hK => ?_)
       ·skip
        refine goes_ Try.func36 (by kernel_rfl) rfl #[.slice A260_0 (rd_L3 l0 x6_1).length c260_0, .agg #[.int .i64 x259000_1, .int .i64 x259001_1]] (by rfl) rfl rfl (by (try simp only [List.map_toArray, List.map_cons, List.map_nil]); (rfl)) ?_
        with_reducible refine (variorumref10_Span.calls k1 _ _ (rd_L3 l0 x6_1) x259000_1 x259001_1 t261 t262 true _ ?side1 ?side2 A7.out).mono ?_
        (case side1 => repeat ((exact (Kd.C_below HR260_0.out HB.out))))
        (case side2 => exact HC260_0.out)
        rintro e w10 ⟨rfl, hb⟩
        refine ⟨_, rfl, ?_⟩
        have n0_ := Aside0.mk (blk_below (g := gb258) (o := .cells #[.int .i64 x259000_1, .int .i64 x259001_1] 42 (0, 0)) (by (with_reducible repeat ((refine blk_drew ?_))); exact BK258.out) hb)
        have n1_ := Aside0.mk (blk_below (g := gb259) (o := .cells #[.int .i64 x260000_1, .int .i64 x260001_1] 42 (0, 0)) (by (with_reducible repeat ((refine blk_drew ?_))); exact BK259.out) hb)
        have n2_ := Aside0.mk (below_step (by repeat ((with_reducible (exact HB.out)))) hb)
        clear BK258
        clear BK259
        clear HB
        have BK258 := n0_
        have BK259 := n1_
        have HB := n2_
        clear n0_ n1_ n2_
        (try clear hb)
        (try clear hb2)
        (try clear hk)
        (try clear hi)
        refine hK.out _ _ ⟨(blk_cell BK258.out 0).trans rfl, (blk_cell BK258.out 1).trans rfl, ((HB.out.cell (World.block_lt_of_cell? w _ hw260_0)).trans hw260_0)⟩ (fun hHeld => ?_)
        clear hK K
        refine norm_ (a' := ?_) ?_ ?_
        rotate_left
        ·show Act.put _ (some 21) _ = _
         simp only [Act.put, List.setIfInBounds_toArray, List.set_cons_zero, List.set_cons_succ, i64_w, i32_w]
         rfl
        refine pure_ (i := 6) (N := some 15) (v := ?_) (a' := ?_) #[true, true, true, true, true, true, true, false, false, false, false, false] rfl rfl (any_of HT_.out (by kernel_rfl)) (fun _ _ _ h => h) (Or.inl ⟨by rfl, ?_⟩) ?_ ?_
        rotate_left
        ·intro w'
         go_simp
         with_reducible rfl
        rotate_left
        ·simp only [Act.put, List.setIfInBounds_toArray, List.set_cons_zero, List.set_cons_succ, i64_w, i32_w]
         rfl
        refine pure_ (i := 7) (N := some 22) (v := ?_) (a' := ?_) #[true, true, true, true, true, true, true, true, false, false, false, false] rfl rfl (any_of HT_.out (by kernel_rfl)) (fun _ _ _ h => h) (Or.inl ⟨by rfl, ?_⟩) ?_ ?_
        rotate_left
        ·intro w'
         go_simp
         with_reducible rfl
        rotate_left
        ·simp only [Act.put, List.setIfInBounds_toArray, List.set_cons_zero, List.set_cons_succ, i64_w, i32_w]
         rfl
        refine pure_ (i := 8) (N := some 23) (v := ?_) (a' := ?_) #[true, true, true, true, true, true, true, true, true, false, false, false] rfl rfl (any_of HT_.out (by kernel_rfl)) (fun _ _ _ h => h) (Or.inl ⟨by rfl, ?_⟩) ?_ ?_
        rotate_left
        ·intro w'
         go_simp
         with_reducible rfl
        rotate_left
        ·simp only [Act.put, List.setIfInBounds_toArray, List.set_cons_zero, List.set_cons_succ, i64_w, i32_w]
         rfl
        refine one_ (i := 9) (N := some 7) #[true, true, true, true, true, true, true, true, true, true, false, false] rfl rfl (one_of HT_.out (by kernel_rfl)) (by decide) (fun K hK => ?_)
        refine box_step ?hg (N := 7) ?hd (cs := #[.int .i64 0, .int .i64 0]) (t := 42) ?hr ?_; (case hd => rfl); (case hg => rfl); (case hr => (go_simp; done))
        intro gb264 hg w11 hbox hb
        have n0_ := Aside0.mk (blk_below (g := gb258) (o := .cells #[.int .i64 x259000_1, .int .i64 x259001_1] 42 (0, 0)) (by (with_reducible repeat ((refine blk_drew ?_))); exact BK258.out) hb)
        have n1_ := Aside0.mk (blk_below (g := gb259) (o := .cells #[.int .i64 x260000_1, .int .i64 x260001_1] 42 (0, 0)) (by (with_reducible repeat ((refine blk_drew ?_))); exact BK259.out) hb)
        have n2_ := Aside0.mk (below_step (by repeat ((with_reducible (exact HB.out)))) hb)
        have n3_ := Aside0.mk (hbox)
        have n4_ := Aside0.mk ((by rw [hg]; exact (below_size (by repeat ((with_reducible (exact HB.out))))) : w.heap.size ≤ gb264))
        have n5_ := Aside0.mk ((by rw [hg]; exact (below_size (by repeat ((with_reducible (exact HB.out))))) : w.heap.size ≤ gb264))
        have n6_ := Aside0.mk ((by rw [hg]; exact Nat.ne_of_lt (blk_lt (g := gb258) (o := .cells #[.int .i64 x259000_1, .int .i64 x259001_1] 42 (0, 0)) (by (with_reducible repeat ((refine blk_drew ?_))); exact BK258.out)) : gb258 ≠ gb264))
        have n7_ := Aside0.mk ((by rw [hg]; exact Nat.ne_of_gt (blk_lt (g := gb258) (o := .cells #[.int .i64 x259000_1, .int .i64 x259001_1] 42 (0, 0)) (by (with_reducible repeat ((refine blk_drew ?_))); exact BK258.out)) : gb264 ≠ gb258))
        have n8_ := Aside0.mk ((by rw [hg]; exact Nat.ne_of_lt (blk_lt (g := gb259) (o := .cells #[.int .i64 x260000_1, .int .i64 x260001_1] 42 (0, 0)) (by (with_reducible repeat ((refine blk_drew ?_))); exact BK259.out)) : gb259 ≠ gb264))
        have n9_ := Aside0.mk ((by rw [hg]; exact Nat.ne_of_gt (blk_lt (g := gb259) (o := .cells #[.int .i64 x260000_1, .int .i64 x260001_1] 42 (0, 0)) (by (with_reducible repeat ((refine blk_drew ?_))); exact BK259.out)) : gb264 ≠ gb259))
        clear BK258
        clear BK259
        clear HB
        have BK258 := n0_
        have BK259 := n1_
        have HB := n2_
        have BK264 := n3_
        have GW264 := n4_
        have GE264 := n5_
        have NB258_264 := n6_
        have NB264_258 := n7_
        have NB259_264 := n8_
        have NB264_259 := n9_
        clear n0_ n1_ n2_ n3_ n4_ n5_ n6_ n7_ n8_ n9_
        clear hb hbox hg
        refine hK.out _ _ ⟨(blk_cell BK258.out 0).trans rfl, (blk_cell BK258.out 1).trans rfl, ((HB.out.cell (World.block_lt_of_cell? w _ hw260_0)).trans hw260_0)⟩ (fun hHeld => ?_)
        clear hK K
        refine norm_ (a' := ?_) ?_ ?_
        rotate_left
        ·show Act.put _ (some 7) _ = _
         simp only [Act.put, List.setIfInBounds_toArray, List.set_cons_zero, List.set_cons_succ, i64_w, i32_w]
         rfl
        exact norm_ (by simp only [putAll, Act.put, List.setIfInBounds_toArray, List.set_cons_zero, List.set_cons_succ]) (hCont (gb264) _ ⟨hHeld, (by (with_reducible repeat ((refine blk_drew ?_))); exact BK258.out), (by (with_reducible repeat ((refine blk_drew ?_))); exact BK259.out), (by (with_reducible repeat ((refine blk_drew ?_))); exact BK264.out), GW264.out, GE264.out, NB258_264.out, NB264_258.out, NB259_264.out, NB264_259.out, (by repeat ((with_reducible (exact HB.out))))⟩)
       ·skip
        refine box_step ?hg (N := 7) ?hd (cs := #[.int .i64 0, .int .i64 0]) (t := 42) ?hr ?_; (case hd => rfl); (case hg => rfl); (case hr => (go_simp; done))
        intro gb264 hg w10 hbox hb
        have n0_ := Aside0.mk (blk_below (g := gb258) (o := .cells #[.int .i64 x259000_1, .int .i64 x259001_1] 42 (0, 0)) (by (with_reducible repeat ((refine blk_drew ?_))); exact BK258.out) hb)
        have n1_ := Aside0.mk (blk_below (g := gb259) (o := .cells #[.int .i64 x260000_1, .int .i64 x260001_1] 42 (0, 0)) (by (with_reducible repeat ((refine blk_drew ?_))); exact BK259.out) hb)
        have n2_ := Aside0.mk (below_step (by repeat ((with_reducible (exact HB.out)))) hb)
        have n3_ := Aside0.mk (hbox)
        have n4_ := Aside0.mk ((by rw [hg]; exact (below_size (by repeat ((with_reducible (exact HB.out))))) : w.heap.size ≤ gb264))
        have n5_ := Aside0.mk ((by rw [hg]; exact (below_size (by repeat ((with_reducible (exact HB.out))))) : w.heap.size ≤ gb264))
        have n6_ := Aside0.mk ((by rw [hg]; exact Nat.ne_of_lt (blk_lt (g := gb258) (o := .cells #[.int .i64 x259000_1, .int .i64 x259001_1] 42 (0, 0)) (by (with_reducible repeat ((refine blk_drew ?_))); exact BK258.out)) : gb258 ≠ gb264))
        have n7_ := Aside0.mk ((by rw [hg]; exact Nat.ne_of_gt (blk_lt (g := gb258) (o := .cells #[.int .i64 x259000_1, .int .i64 x259001_1] 42 (0, 0)) (by (with_reducible repeat ((refine blk_drew ?_))); exact BK258.out)) : gb264 ≠ gb258))
        have n8_ := Aside0.mk ((by rw [hg]; exact Nat.ne_of_lt (blk_lt (g := gb259) (o := .cells #[.int .i64 x260000_1, .int .i64 x260001_1] 42 (0, 0)) (by (with_reducible repeat ((refine blk_drew ?_))); exact BK259.out)) : gb259 ≠ gb264))
        have n9_ := Aside0.mk ((by rw [hg]; exact Nat.ne_of_gt (blk_lt (g := gb259) (o := .cells #[.int .i64 x260000_1, .int .i64 x260001_1] 42 (0, 0)) (by (with_reducible repeat ((refine blk_drew ?_))); exact BK259.out)) : gb264 ≠ gb259))
        clear BK258
        clear BK259
        clear HB
        have BK258 := n0_
        have BK259 := n1_
        have HB := n2_
        have BK264 := n3_
        have GW264 := n4_
        have GE264 := n5_
        have NB258_264 := n6_
        have NB264_258 := n7_
        have NB259_264 := n8_
        have NB264_259 := n9_
        clear n0_ n1_ n2_ n3_ n4_ n5_ n6_ n7_ n8_ n9_
        clear hb hbox hg
        refine hK.out _ _ ⟨(blk_cell BK258.out 0).trans rfl, (blk_cell BK258.out 1).trans rfl, ((HB.out.cell (World.block_lt_of_cell? w _ hw260_0)).trans hw260_0)⟩ (fun hHeld => ?_)
        clear hK K
        refine norm_ (a' := ?_) ?_ ?_
        rotate_left
        ·show Act.put _ (some 7) _ = _
         simp only [Act.put, List.setIfInBounds_toArray, List.set_cons_zero, List.set_cons_succ, i64_w, i32_w]
         rfl
        refine one_ (i := 5) (N := some 21) #[true, true, true, true, true, true, false, false, false, true, false, false] rfl rfl (one_of HT_.out (by kernel_rfl)) (by decide) (fun K hK => ?_)
        refine goes_ Try.func36 (by kernel_rfl) rfl #[.slice A260_0 (rd_L3 l0 x6_1).length c260_0, .agg #[.int .i64 x259000_1, .int .i64 x259001_1]] (by rfl) rfl rfl (by (try simp only [List.map_toArray, List.map_cons, List.map_nil]); (rfl)) ?_
        with_reducible refine (variorumref10_Span.calls k1 _ _ (rd_L3 l0 x6_1) x259000_1 x259001_1 t261 t262 true _ ?side1 ?side2 A7.out).mono ?_
        (case side1 => repeat ((exact (Kd.C_below HR260_0.out HB.out))))
        (case side2 => exact HC260_0.out)
        rintro e w11 ⟨rfl, hb⟩
        refine ⟨_, rfl, ?_⟩
        have n0_ := Aside0.mk (blk_below (g := gb258) (o := .cells #[.int .i64 x259000_1, .int .i64 x259001_1] 42 (0, 0)) (by (with_reducible repeat ((refine blk_drew ?_))); exact BK258.out) hb)
        have n1_ := Aside0.mk (blk_below (g := gb259) (o := .cells #[.int .i64 x260000_1, .int .i64 x260001_1] 42 (0, 0)) (by (with_reducible repeat ((refine blk_drew ?_))); exact BK259.out) hb)
        have n2_ := Aside0.mk (blk_below (g := gb264) (o := .cells #[.int .i64 0, .int .i64 0] 42 (0, 0)) (by (with_reducible repeat ((refine blk_drew ?_))); exact BK264.out) hb)
        have n3_ := Aside0.mk (below_step (by repeat ((with_reducible (exact HB.out)))) hb)
        clear BK258
        clear BK259
        clear BK264
        clear HB
        have BK258 := n0_
        have BK259 := n1_
        have BK264 := n2_
        have HB := n3_
        clear n0_ n1_ n2_ n3_
        (try clear hb)
        (try clear hb2)
        (try clear hk)
        (try clear hi)
        refine hK.out _ _ ⟨(blk_cell BK258.out 0).trans rfl, (blk_cell BK258.out 1).trans rfl, ((HB.out.cell (World.block_lt_of_cell? w _ hw260_0)).trans hw260_0)⟩ (fun hHeld => ?_)
        clear hK K
        refine norm_ (a' := ?_) ?_ ?_
        rotate_left
        ·show Act.put _ (some 21) _ = _
         simp only [Act.put, List.setIfInBounds_toArray, List.set_cons_zero, List.set_cons_succ, i64_w, i32_w]
         rfl
        refine pure_ (i := 6) (N := some 15) (v := ?_) (a' := ?_) #[true, true, true, true, true, true, true, false, false, true, false, false] rfl rfl (any_of HT_.out (by kernel_rfl)) (fun _ _ _ h => h) (Or.inl ⟨by rfl, ?_⟩) ?_ ?_
        rotate_left
        ·intro w'
         go_simp
         with_reducible rfl
        rotate_left
        ·simp only [Act.put, List.setIfInBounds_toArray, List.set_cons_zero, List.set_cons_succ, i64_w, i32_w]
         rfl
        refine pure_ (i := 7) (N := some 22) (v := ?_) (a' := ?_) #[true, true, true, true, true, true, true, true, false, true, false, false] rfl rfl (any_of HT_.out (by kernel_rfl)) (fun _ _ _ h => h) (Or.inl ⟨by rfl, ?_⟩) ?_ ?_
        rotate_left
        ·intro w'
         go_simp
         with_reducible rfl
        rotate_left
        ·simp only [Act.put, List.setIfInBounds_toArray, List.set_cons_zero, List.set_cons_succ, i64_w, i32_w]
         rfl
        refine pure_ (i := 8) (N := some 23) (v := ?_) (a' := ?_) #[true, true, true, true, true, true, true, true, true, true, false, false] rfl rfl (any_of HT_.out (by kernel_rfl)) (fun _ _ _ h => h) (Or.inl ⟨by rfl, ?_⟩) ?_ ?_
        rotate_left
        ·intro w'
         go_simp
         with_reducible rfl
        rotate_left
        ·simp only [Act.put, List.setIfInBounds_toArray, List.set_cons_zero, List.set_cons_succ, i64_w, i32_w]
         rfl
        exact norm_ (by simp only [putAll, Act.put, List.setIfInBounds_toArray, List.set_cons_zero, List.set_cons_succ]) (hCont (gb264) _ ⟨hHeld, (by (with_reducible repeat ((refine blk_drew ?_))); exact BK258.out), (by (with_reducible repeat ((refine blk_drew ?_))); exact BK259.out), (by (with_reducible repeat ((refine blk_drew ?_))); exact BK264.out), GW264.out, GE264.out, NB258_264.out, NB264_258.out, NB259_264.out, NB264_259.out, (by repeat ((with_reducible (exact HB.out))))⟩)
      rintro gb264 w12 ⟨hS_, h0_, h1_, h2_, h3_, h4_, h5_, h6_, h7_, h8_, h9_⟩
      have n0_ : Aside0 (w12.heap[gb258]? = some (.cells #[.int .i64 x259000_1, .int .i64 x259001_1] 42 (0, 0))) := ⟨h0_⟩
      have n1_ : Aside0 (w12.heap[gb259]? = some (.cells #[.int .i64 x260000_1, .int .i64 x260001_1] 42 (0, 0))) := ⟨h1_⟩
      have n2_ : Aside0 (w12.heap[gb264]? = some (.cells #[.int .i64 0, .int .i64 0] 42 (0, 0))) := ⟨h2_⟩
      have n3_ : Aside0 (w.heap.size ≤ gb264) := ⟨h3_⟩
      have n4_ : Aside0 (w.heap.size ≤ gb264) := ⟨h4_⟩
      have n5_ : Aside0 (gb258 ≠ gb264) := ⟨h5_⟩
      have n6_ : Aside0 (gb264 ≠ gb258) := ⟨h6_⟩
      have n7_ : Aside0 (gb259 ≠ gb264) := ⟨h7_⟩
      have n8_ : Aside0 (gb264 ≠ gb259) := ⟨h8_⟩
      have n9_ : Aside0 (Below w.heap.size w w12) := ⟨h9_⟩
      clear BK258
      clear BK259
      clear HB
      clear h0_ h1_ h2_ h3_ h4_ h5_ h6_ h7_ h8_ h9_
      have BK258 := n0_
      have BK259 := n1_
      have BK264 := n2_
      have GW264 := n3_
      have GE264 := n4_
      have NB258_264 := n5_
      have NB264_258 := n6_
      have NB259_264 := n7_
      have NB264_259 := n8_
      have HB := n9_
      clear n0_ n1_ n2_ n3_ n4_ n5_ n6_ n7_ n8_ n9_
      have hHeld : w12.cell? ⟨gb258, 0, none⟩ = some (.int .i64 x259000_1) ∧ w12.cell? ⟨gb258, 1, none⟩ = some (.int .i64 x259001_1) ∧ w12.cell? (ad260.add (x6_1).toNat) = some (.slice A260_0 (rd_L3 l0 x6_1).length c260_0) := hS_
      refine norm_ (a' := ?_) ?_ ?_
      rotate_left
      ·simp only [putAll, Act.put, List.setIfInBounds_toArray, List.set_cons_zero, List.set_cons_succ]
       rfl
      refine one_ (i := 10) (N := none) #[true, true, true, true, true, true, true, true, true, true, true, false] rfl rfl (one_of HT_.out (by kernel_rfl)) (by decide) (fun K hK => ?_)
      have hs13 : w12.cell? ⟨gb264, 0, none⟩ = some (.int .i64 0) := (blk_cell BK264.out 0).trans rfl
      have hfs13 := blk_frozen BK264.out 0
      have hns13_0 := NB258_264.out
      have hns13_1 := NB259_264.out
      have hms13_0 := NB264_258.out
      have hms13_1 := NB264_259.out
      have hs14 : w12.cell? ⟨gb264, 1, none⟩ = some (.int .i64 0) := (blk_cell BK264.out 1).trans rfl
      have hfs14 := blk_frozen BK264.out 1
      have hns14_0 := NB258_264.out
      have hns14_1 := NB259_264.out
      have hms14_0 := NB264_258.out
      have hms14_1 := NB264_259.out
      refine skip_ (w1 := ?_) (by rfl) rfl ?_ ?_
      rotate_left
      ·go_simp
       rfl
      refine hK.out _ _ ⟨((cell_far (p := ⟨gb264, _, none⟩) NB258_264.out _).trans (((cell_far (p := ⟨gb264, _, none⟩) NB258_264.out _).trans (hHeld.1)))), ((cell_far (p := ⟨gb264, _, none⟩) NB258_264.out _).trans (((cell_far (p := ⟨gb264, _, none⟩) NB258_264.out _).trans (hHeld.2.1)))), ((cell_far (p := ⟨gb264, _, none⟩) (by (exact Nat.ne_of_lt (Nat.lt_of_lt_of_le (by have := World.block_lt_of_cell? _ _ hw260_0; (exact this)) GW264.out))) _).trans (((cell_far (p := ⟨gb264, _, none⟩) (by (exact Nat.ne_of_lt (Nat.lt_of_lt_of_le (by have := World.block_lt_of_cell? _ _ hw260_0; (exact this)) GW264.out))) _).trans (hHeld.2.2))))⟩ (fun hHeld => ?_)
      clear hK K
      refine pure_ (i := 11) (N := some 8) (v := ?_) (a' := ?_) #[true, true, true, true, true, true, true, true, true, true, true, true] rfl rfl (any_of HT_.out (by kernel_rfl)) (fun _ _ _ h => h) (Or.inl ⟨by rfl, ?_⟩) ?_ ?_
      rotate_left
      ·intro w'
       go_simp
       with_reducible rfl
      rotate_left
      ·simp only [Act.put, List.setIfInBounds_toArray, List.set_cons_zero, List.set_cons_succ, i64_w, i32_w]
       rfl
      refine done_ (done_of HT_.out (by kernel_rfl)) ?_
      have hnb15 := NB264_258.out
      have hnc15 := NB258_264.out
      have hnb16 := NB264_259.out
      have hnc16 := NB259_264.out
      have hcz17_0 : w12.cell? ⟨gb264, 0, none⟩ = some (.int .i64 0) := (blk_cell BK264.out 0).trans rfl
      have hcz17_1 : w12.cell? ⟨gb264, 1, none⟩ = some (.int .i64 0) := (blk_cell BK264.out 1).trans rfl
      have hfz17_0 := blk_frozen BK264.out 0
      have hfz17_1 := blk_frozen BK264.out 1
      have hnb18 := NB258_259.out
      have hnc18 := NB259_258.out
      have hcz19_0 : w12.cell? ⟨gb258, 0, none⟩ = some (.int .i64 x259000_1) := (blk_cell BK258.out 0).trans rfl
      have hcz19_1 : w12.cell? ⟨gb258, 1, none⟩ = some (.int .i64 x259001_1) := (blk_cell BK258.out 1).trans rfl
      have hfz19_0 := blk_frozen BK258.out 0
      have hfz19_1 := blk_frozen BK258.out 1
      try go_wp2
      go_roundg k1
      case measure => have := HK1.out; omega
      case rel => exact ⟨(wrap64 (x6_1 + 1)), (t261), (t262), (x260000_1), (x260001_1), (by (rfl)), H', ⟨by have := HK1.out; omega⟩, ⟨by (with_reducible repeat ((refine blk_drew ?_))); refine blk_put (cs := #[.int .i64 t261, .int .i64 x259001_1]) ?_ 1 _ rfl; (with_reducible repeat ((refine blk_drew ?_))); refine blk_put (cs := #[.int .i64 x259000_1, .int .i64 x259001_1]) ?_ 0 _ rfl; (with_reducible repeat ((refine blk_drew ?_))); refine blk_far ?_ NB258_264.out _; (with_reducible repeat ((refine blk_drew ?_))); refine blk_far ?_ NB258_264.out _; (with_reducible repeat ((refine blk_drew ?_))); exact BK258.out⟩, ⟨by (with_reducible repeat ((refine blk_drew ?_))); refine blk_far ?_ NB259_258.out _; (with_reducible repeat ((refine blk_drew ?_))); refine blk_far ?_ NB259_258.out _; (with_reducible repeat ((refine blk_drew ?_))); refine blk_far ?_ NB259_264.out _; (with_reducible repeat ((refine blk_drew ?_))); refine blk_far ?_ NB259_264.out _; (with_reducible repeat ((refine blk_drew ?_))); exact BK259.out⟩, ⟨by repeat ((with_reducible first | exact HB.out | refine below_set ?_ GE258.out | refine below_set ?_ GE264.out))⟩⟩
     ·replace c8 := Bool.eq_false_iff.mpr c8
      subst c8
      have H1 : (some (0, 0, false)) = some (r1, r2, r3) := by rw [if_neg (show ¬ (false = true) by decide)] at H; exact H
      clear H
      have H := H1
      clear H1
      simp only [Option.some.injEq, Prod.mk.injEq] at H
      obtain ⟨rfl, rfl, rfl⟩ := H
      try go_wp2
      have n0_ := Aside0.mk (blk_drew BK258.out)
      have n1_ := Aside0.mk (blk_drew BK259.out)
      have n2_ := Aside0.mk (below_drew1 HB.out)
      clear BK258
      clear BK259
      clear HB
      have BK258 := n0_
      have BK259 := n1_
      have HB := n2_
      clear n0_ n1_ n2_
      have p260 : 0 ≤ (x6_1 : Int) := of_decide_eq_true (by (with_reducible assumption))
      have q260 : x6_1 < (l0.length : Int) := of_decide_eq_true (by (with_reducible assumption))
      obtain ⟨ad260, A260_0, c260_0, e260, hx260_0, hl260_0, hi260_0⟩ := at_L3 HR0.out x6_1 p260 q260
      have hw260_0 := hx260_0
      cases e260
      replace hx260_0 := (HB.out.cell (World.block_lt_of_cell? w _ hx260_0)).trans hx260_0
      have HR260_0 := Aside0.mk hi260_0
      have HC260_0 := Aside0.mk hl260_0
      clear hi260_0 hl260_0
      replace p260 := eq_true p260
      replace q260 := eq_true q260
      refine start_ (n := 12) (S := fun w' => w'.cell? ⟨gb258, 0, none⟩ = some (.int .i64 x259000_1) ∧ w'.cell? ⟨gb258, 1, none⟩ = some (.int .i64 x259001_1) ∧ w'.cell? (ad260.add (x6_1).toNat) = some (.slice A260_0 (rd_L3 l0 x6_1).length c260_0)) (ds := []) #[false, false, false, false, false, false, false, false, false, false, false, false] (by kernel_rfl) rfl rfl ⟨(blk_cell BK258.out 0).trans rfl, (blk_cell BK258.out 1).trans rfl, ((HB.out.cell (World.block_lt_of_cell? w _ hw260_0)).trans hw260_0)⟩ (fun hHeld => ?_); refine with_tabW variorumref10_Over.tab4 variorumref10_Over.bits4 (fun HT_ HW_ => ?_)
      generalize wr.drew = w20 at BK258 BK259 HB HR260_0 hx260_0 hHeld ⊢
      refine pure_ (i := 0) (N := some 16) (v := ?_) (a' := ?_) #[true, false, false, false, false, false, false, false, false, false, false, false] rfl rfl (any_of HT_.out (by kernel_rfl)) (fun _ _ _ h => h) (Or.inl ⟨by rfl, ?_⟩) ?_ ?_
      rotate_left
      ·intro w'
       go_simp
       with_reducible rfl
      rotate_left
      ·simp only [Act.put, List.setIfInBounds_toArray, List.set_cons_zero, List.set_cons_succ, i64_w, i32_w]
       rfl
      refine pure_ (i := 1) (N := some 17) (v := ?_) (a' := ?_) #[true, true, false, false, false, false, false, false, false, false, false, false] rfl rfl (any_of HT_.out (by kernel_rfl)) (fun _ _ _ h => h) (Or.inl ⟨by rfl, ?_⟩) ?_ ?_
      rotate_left
      ·intro w'
       go_simp
       with_reducible rfl
      rotate_left
      ·simp only [Act.put, List.setIfInBounds_toArray, List.set_cons_zero, List.set_cons_succ, i64_w, i32_w]
       rfl
      refine pure_ (i := 2) (N := some 18) (v := ?_) (a' := ?_) #[true, true, true, false, false, false, false, false, false, false, false, false] rfl rfl (any_of HT_.out (by kernel_rfl)) (fun _ _ _ h => h) (Or.inl ⟨by rfl, ?_⟩) ?_ ?_
      rotate_left
      ·intro w'
       go_simp
       with_reducible rfl
      rotate_left
      ·simp only [Act.put, List.setIfInBounds_toArray, List.set_cons_zero, List.set_cons_succ, i64_w, i32_w]
       rfl
      refine take_ (i := 3) (N := some 19) (v := ?_) (a' := ?_) #[true, true, true, true, false, false, false, false, false, false, false, false] rfl rfl (take_ofW HT_.out HW_.out (by kernel_rfl)) (fun _ _ _ h => h) (Or.inl ⟨by rfl, ?_⟩) hHeld ?_ ?_
      rotate_left
      ·rintro w' ⟨s0, s1, s2⟩
       go_simp
       with_reducible rfl
      rotate_left
      ·simp only [Act.put, List.setIfInBounds_toArray, List.set_cons_zero, List.set_cons_succ, i64_w, i32_w]
       rfl
      refine take_ (i := 4) (N := some 20) (v := ?_) (a' := ?_) #[true, true, true, true, true, false, false, false, false, false, false, false] rfl rfl (take_ofW HT_.out HW_.out (by kernel_rfl)) (fun _ _ _ h => h) (Or.inl ⟨by rfl, ?_⟩) hHeld ?_ ?_
      rotate_left
      ·rintro w' ⟨s0, s1, s2⟩
       go_simp
       with_reducible rfl
      rotate_left
      ·simp only [Act.put, List.setIfInBounds_toArray, List.set_cons_zero, List.set_cons_succ, i64_w, i32_w]
       rfl
      refine join_ (σ := Nat) 2 #[true, true, true, true, true, true, true, true, true, true, false, false] (fun s_ => [(21, .tuple #[.agg #[.int .i64 t261, .int .i64 t262], .bool false]), (7, .pointer (some ⟨s_, 0, none⟩)), (15, .tuple #[.agg #[.int .i64 t261, .int .i64 t262], .bool false]), (22, .agg #[.int .i64 t261, .int .i64 t262]), (23, .bool false)]) (fun s_ w' => (w'.cell? ⟨gb258, 0, none⟩ = some (.int .i64 x259000_1) ∧ w'.cell? ⟨gb258, 1, none⟩ = some (.int .i64 x259001_1) ∧ w'.cell? (ad260.add (x6_1).toNat) = some (.slice A260_0 (rd_L3 l0 x6_1).length c260_0)) ∧ (w'.heap[gb258]? = some (.cells #[.int .i64 x259000_1, .int .i64 x259001_1] 42 (0, 0))) ∧ (w'.heap[gb259]? = some (.cells #[.int .i64 x260000_1, .int .i64 x260001_1] 42 (0, 0))) ∧ (w'.heap[s_]? = some (.cells #[.int .i64 0, .int .i64 0] 42 (0, 0))) ∧ (w.heap.size ≤ s_) ∧ (w.heap.size ≤ s_) ∧ (gb258 ≠ s_) ∧ (s_ ≠ gb258) ∧ (gb259 ≠ s_) ∧ (s_ ≠ gb259) ∧ (Below w.heap.size w w')) ?_ ?_
      rotate_left
      ·intro hCont
       refine two_ (i := 5) (j := 9) (Ni := some 21) (Nj := some 7) #[true, true, true, true, true, true, false, false, false, false, false, false] #[true, true, true, true, true, false, false, false, false, true, false, false] rfl rfl rfl rfl (two_of HT_.out (by kernel_rfl)) (by decide) (by decide) (fun K hK => ?_) (fun K hK => ?_)
       ·skip
        refine goes_ Try.func36 (by kernel_rfl) rfl #[.slice A260_0 (rd_L3 l0 x6_1).length c260_0, .agg #[.int .i64 x259000_1, .int .i64 x259001_1]] (by rfl) rfl rfl (by (try simp only [List.map_toArray, List.map_cons, List.map_nil]); (rfl)) ?_
        with_reducible refine (variorumref10_Span.calls k1 _ _ (rd_L3 l0 x6_1) x259000_1 x259001_1 t261 t262 false _ ?side1 ?side2 A7.out).mono ?_
        (case side1 => repeat ((exact (Kd.C_below HR260_0.out HB.out))))
        (case side2 => exact HC260_0.out)
        rintro e w21 ⟨rfl, hb⟩
        refine ⟨_, rfl, ?_⟩
        have n0_ := Aside0.mk (blk_below (g := gb258) (o := .cells #[.int .i64 x259000_1, .int .i64 x259001_1] 42 (0, 0)) (by (with_reducible repeat ((refine blk_drew ?_))); exact BK258.out) hb)
        have n1_ := Aside0.mk (blk_below (g := gb259) (o := .cells #[.int .i64 x260000_1, .int .i64 x260001_1] 42 (0, 0)) (by (with_reducible repeat ((refine blk_drew ?_))); exact BK259.out) hb)
        have n2_ := Aside0.mk (below_step (by repeat ((with_reducible (exact HB.out)))) hb)
        clear BK258
        clear BK259
        clear HB
        have BK258 := n0_
        have BK259 := n1_
        have HB := n2_
        clear n0_ n1_ n2_
        (try clear hb)
        (try clear hb2)
        (try clear hk)
        (try clear hi)
        refine hK.out _ _ ⟨(blk_cell BK258.out 0).trans rfl, (blk_cell BK258.out 1).trans rfl, ((HB.out.cell (World.block_lt_of_cell? w _ hw260_0)).trans hw260_0)⟩ (fun hHeld => ?_)
        clear hK K
        refine norm_ (a' := ?_) ?_ ?_
        rotate_left
        ·show Act.put _ (some 21) _ = _
         simp only [Act.put, List.setIfInBounds_toArray, List.set_cons_zero, List.set_cons_succ, i64_w, i32_w]
         rfl
        refine pure_ (i := 6) (N := some 15) (v := ?_) (a' := ?_) #[true, true, true, true, true, true, true, false, false, false, false, false] rfl rfl (any_of HT_.out (by kernel_rfl)) (fun _ _ _ h => h) (Or.inl ⟨by rfl, ?_⟩) ?_ ?_
        rotate_left
        ·intro w'
         go_simp
         with_reducible rfl
        rotate_left
        ·simp only [Act.put, List.setIfInBounds_toArray, List.set_cons_zero, List.set_cons_succ, i64_w, i32_w]
         rfl
        refine pure_ (i := 7) (N := some 22) (v := ?_) (a' := ?_) #[true, true, true, true, true, true, true, true, false, false, false, false] rfl rfl (any_of HT_.out (by kernel_rfl)) (fun _ _ _ h => h) (Or.inl ⟨by rfl, ?_⟩) ?_ ?_
        rotate_left
        ·intro w'
         go_simp
         with_reducible rfl
        rotate_left
        ·simp only [Act.put, List.setIfInBounds_toArray, List.set_cons_zero, List.set_cons_succ, i64_w, i32_w]
         rfl
        refine pure_ (i := 8) (N := some 23) (v := ?_) (a' := ?_) #[true, true, true, true, true, true, true, true, true, false, false, false] rfl rfl (any_of HT_.out (by kernel_rfl)) (fun _ _ _ h => h) (Or.inl ⟨by rfl, ?_⟩) ?_ ?_
        rotate_left
        ·intro w'
         go_simp
         with_reducible rfl
        rotate_left
        ·simp only [Act.put, List.setIfInBounds_toArray, List.set_cons_zero, List.set_cons_succ, i64_w, i32_w]
         rfl
        refine one_ (i := 9) (N := some 7) #[true, true, true, true, true, true, true, true, true, true, false, false] rfl rfl (one_of HT_.out (by kernel_rfl)) (by decide) (fun K hK => ?_)
        refine box_step ?hg (N := 7) ?hd (cs := #[.int .i64 0, .int .i64 0]) (t := 42) ?hr ?_; (case hd => rfl); (case hg => rfl); (case hr => (go_simp; done))
        intro gb264 hg w22 hbox hb
        have n0_ := Aside0.mk (blk_below (g := gb258) (o := .cells #[.int .i64 x259000_1, .int .i64 x259001_1] 42 (0, 0)) (by (with_reducible repeat ((refine blk_drew ?_))); exact BK258.out) hb)
        have n1_ := Aside0.mk (blk_below (g := gb259) (o := .cells #[.int .i64 x260000_1, .int .i64 x260001_1] 42 (0, 0)) (by (with_reducible repeat ((refine blk_drew ?_))); exact BK259.out) hb)
        have n2_ := Aside0.mk (below_step (by repeat ((with_reducible (exact HB.out)))) hb)
        have n3_ := Aside0.mk (hbox)
        have n4_ := Aside0.mk ((by rw [hg]; exact (below_size (by repeat ((with_reducible (exact HB.out))))) : w.heap.size ≤ gb264))
        have n5_ := Aside0.mk ((by rw [hg]; exact (below_size (by repeat ((with_reducible (exact HB.out))))) : w.heap.size ≤ gb264))
        have n6_ := Aside0.mk ((by rw [hg]; exact Nat.ne_of_lt (blk_lt (g := gb258) (o := .cells #[.int .i64 x259000_1, .int .i64 x259001_1] 42 (0, 0)) (by (with_reducible repeat ((refine blk_drew ?_))); exact BK258.out)) : gb258 ≠ gb264))
        have n7_ := Aside0.mk ((by rw [hg]; exact Nat.ne_of_gt (blk_lt (g := gb258) (o := .cells #[.int .i64 x259000_1, .int .i64 x259001_1] 42 (0, 0)) (by (with_reducible repeat ((refine blk_drew ?_))); exact BK258.out)) : gb264 ≠ gb258))
        have n8_ := Aside0.mk ((by rw [hg]; exact Nat.ne_of_lt (blk_lt (g := gb259) (o := .cells #[.int .i64 x260000_1, .int .i64 x260001_1] 42 (0, 0)) (by (with_reducible repeat ((refine blk_drew ?_))); exact BK259.out)) : gb259 ≠ gb264))
        have n9_ := Aside0.mk ((by rw [hg]; exact Nat.ne_of_gt (blk_lt (g := gb259) (o := .cells #[.int .i64 x260000_1, .int .i64 x260001_1] 42 (0, 0)) (by (with_reducible repeat ((refine blk_drew ?_))); exact BK259.out)) : gb264 ≠ gb259))
        clear BK258
        clear BK259
        clear HB
        have BK258 := n0_
        have BK259 := n1_
        have HB := n2_
        have BK264 := n3_
        have GW264 := n4_
        have GE264 := n5_
        have NB258_264 := n6_
        have NB264_258 := n7_
        have NB259_264 := n8_
        have NB264_259 := n9_
        clear n0_ n1_ n2_ n3_ n4_ n5_ n6_ n7_ n8_ n9_
        clear hb hbox hg
        refine hK.out _ _ ⟨(blk_cell BK258.out 0).trans rfl, (blk_cell BK258.out 1).trans rfl, ((HB.out.cell (World.block_lt_of_cell? w _ hw260_0)).trans hw260_0)⟩ (fun hHeld => ?_)
        clear hK K
        refine norm_ (a' := ?_) ?_ ?_
        rotate_left
        ·show Act.put _ (some 7) _ = _
         simp only [Act.put, List.setIfInBounds_toArray, List.set_cons_zero, List.set_cons_succ, i64_w, i32_w]
         rfl
        exact norm_ (by simp only [putAll, Act.put, List.setIfInBounds_toArray, List.set_cons_zero, List.set_cons_succ]) (hCont (gb264) _ ⟨hHeld, (by (with_reducible repeat ((refine blk_drew ?_))); exact BK258.out), (by (with_reducible repeat ((refine blk_drew ?_))); exact BK259.out), (by (with_reducible repeat ((refine blk_drew ?_))); exact BK264.out), GW264.out, GE264.out, NB258_264.out, NB264_258.out, NB259_264.out, NB264_259.out, (by repeat ((with_reducible (exact HB.out))))⟩)
       ·skip
        refine box_step ?hg (N := 7) ?hd (cs := #[.int .i64 0, .int .i64 0]) (t := 42) ?hr ?_; (case hd => rfl); (case hg => rfl); (case hr => (go_simp; done))
        intro gb264 hg w21 hbox hb
        have n0_ := Aside0.mk (blk_below (g := gb258) (o := .cells #[.int .i64 x259000_1, .int .i64 x259001_1] 42 (0, 0)) (by (with_reducible repeat ((refine blk_drew ?_))); exact BK258.out) hb)
        have n1_ := Aside0.mk (blk_below (g := gb259) (o := .cells #[.int .i64 x260000_1, .int .i64 x260001_1] 42 (0, 0)) (by (with_reducible repeat ((refine blk_drew ?_))); exact BK259.out) hb)
        have n2_ := Aside0.mk (below_step (by repeat ((with_reducible (exact HB.out)))) hb)
        have n3_ := Aside0.mk (hbox)
        have n4_ := Aside0.mk ((by rw [hg]; exact (below_size (by repeat ((with_reducible (exact HB.out))))) : w.heap.size ≤ gb264))
        have n5_ := Aside0.mk ((by rw [hg]; exact (below_size (by repeat ((with_reducible (exact HB.out))))) : w.heap.size ≤ gb264))
        have n6_ := Aside0.mk ((by rw [hg]; exact Nat.ne_of_lt (blk_lt (g := gb258) (o := .cells #[.int .i64 x259000_1, .int .i64 x259001_1] 42 (0, 0)) (by (with_reducible repeat ((refine blk_drew ?_))); exact BK258.out)) : gb258 ≠ gb264))
        have n7_ := Aside0.mk ((by rw [hg]; exact Nat.ne_of_gt (blk_lt (g := gb258) (o := .cells #[.int .i64 x259000_1, .int .i64 x259001_1] 42 (0, 0)) (by (with_reducible repeat ((refine blk_drew ?_))); exact BK258.out)) : gb264 ≠ gb258))
        have n8_ := Aside0.mk ((by rw [hg]; exact Nat.ne_of_lt (blk_lt (g := gb259) (o := .cells #[.int .i64 x260000_1, .int .i64 x260001_1] 42 (0, 0)) (by (with_reducible repeat ((refine blk_drew ?_))); exact BK259.out)) : gb259 ≠ gb264))
        have n9_ := Aside0.mk ((by rw [hg]; exact Nat.ne_of_gt (blk_lt (g := gb259) (o := .cells #[.int .i64 x260000_1, .int .i64 x260001_1] 42 (0, 0)) (by (with_reducible repeat ((refine blk_drew ?_))); exact BK259.out)) : gb264 ≠ gb259))
        clear BK258
        clear BK259
        clear HB
        have BK258 := n0_
        have BK259 := n1_
        have HB := n2_
        have BK264 := n3_
        have GW264 := n4_
        have GE264 := n5_
        have NB258_264 := n6_
        have NB264_258 := n7_
        have NB259_264 := n8_
        have NB264_259 := n9_
        clear n0_ n1_ n2_ n3_ n4_ n5_ n6_ n7_ n8_ n9_
        clear hb hbox hg
        refine hK.out _ _ ⟨(blk_cell BK258.out 0).trans rfl, (blk_cell BK258.out 1).trans rfl, ((HB.out.cell (World.block_lt_of_cell? w _ hw260_0)).trans hw260_0)⟩ (fun hHeld => ?_)
        clear hK K
        refine norm_ (a' := ?_) ?_ ?_
        rotate_left
        ·show Act.put _ (some 7) _ = _
         simp only [Act.put, List.setIfInBounds_toArray, List.set_cons_zero, List.set_cons_succ, i64_w, i32_w]
         rfl
        refine one_ (i := 5) (N := some 21) #[true, true, true, true, true, true, false, false, false, true, false, false] rfl rfl (one_of HT_.out (by kernel_rfl)) (by decide) (fun K hK => ?_)
        refine goes_ Try.func36 (by kernel_rfl) rfl #[.slice A260_0 (rd_L3 l0 x6_1).length c260_0, .agg #[.int .i64 x259000_1, .int .i64 x259001_1]] (by rfl) rfl rfl (by (try simp only [List.map_toArray, List.map_cons, List.map_nil]); (rfl)) ?_
        with_reducible refine (variorumref10_Span.calls k1 _ _ (rd_L3 l0 x6_1) x259000_1 x259001_1 t261 t262 false _ ?side1 ?side2 A7.out).mono ?_
        (case side1 => repeat ((exact (Kd.C_below HR260_0.out HB.out))))
        (case side2 => exact HC260_0.out)
        rintro e w22 ⟨rfl, hb⟩
        refine ⟨_, rfl, ?_⟩
        have n0_ := Aside0.mk (blk_below (g := gb258) (o := .cells #[.int .i64 x259000_1, .int .i64 x259001_1] 42 (0, 0)) (by (with_reducible repeat ((refine blk_drew ?_))); exact BK258.out) hb)
        have n1_ := Aside0.mk (blk_below (g := gb259) (o := .cells #[.int .i64 x260000_1, .int .i64 x260001_1] 42 (0, 0)) (by (with_reducible repeat ((refine blk_drew ?_))); exact BK259.out) hb)
        have n2_ := Aside0.mk (blk_below (g := gb264) (o := .cells #[.int .i64 0, .int .i64 0] 42 (0, 0)) (by (with_reducible repeat ((refine blk_drew ?_))); exact BK264.out) hb)
        have n3_ := Aside0.mk (below_step (by repeat ((with_reducible (exact HB.out)))) hb)
        clear BK258
        clear BK259
        clear BK264
        clear HB
        have BK258 := n0_
        have BK259 := n1_
        have BK264 := n2_
        have HB := n3_
        clear n0_ n1_ n2_ n3_
        (try clear hb)
        (try clear hb2)
        (try clear hk)
        (try clear hi)
        refine hK.out _ _ ⟨(blk_cell BK258.out 0).trans rfl, (blk_cell BK258.out 1).trans rfl, ((HB.out.cell (World.block_lt_of_cell? w _ hw260_0)).trans hw260_0)⟩ (fun hHeld => ?_)
        clear hK K
        refine norm_ (a' := ?_) ?_ ?_
        rotate_left
        ·show Act.put _ (some 21) _ = _
         simp only [Act.put, List.setIfInBounds_toArray, List.set_cons_zero, List.set_cons_succ, i64_w, i32_w]
         rfl
        refine pure_ (i := 6) (N := some 15) (v := ?_) (a' := ?_) #[true, true, true, true, true, true, true, false, false, true, false, false] rfl rfl (any_of HT_.out (by kernel_rfl)) (fun _ _ _ h => h) (Or.inl ⟨by rfl, ?_⟩) ?_ ?_
        rotate_left
        ·intro w'
         go_simp
         with_reducible rfl
        rotate_left
        ·simp only [Act.put, List.setIfInBounds_toArray, List.set_cons_zero, List.set_cons_succ, i64_w, i32_w]
         rfl
        refine pure_ (i := 7) (N := some 22) (v := ?_) (a' := ?_) #[true, true, true, true, true, true, true, true, false, true, false, false] rfl rfl (any_of HT_.out (by kernel_rfl)) (fun _ _ _ h => h) (Or.inl ⟨by rfl, ?_⟩) ?_ ?_
        rotate_left
        ·intro w'
         go_simp
         with_reducible rfl
        rotate_left
        ·simp only [Act.put, List.setIfInBounds_toArray, List.set_cons_zero, List.set_cons_succ, i64_w, i32_w]
         rfl
        refine pure_ (i := 8) (N := some 23) (v := ?_) (a' := ?_) #[true, true, true, true, true, true, true, true, true, true, false, false] rfl rfl (any_of HT_.out (by kernel_rfl)) (fun _ _ _ h => h) (Or.inl ⟨by rfl, ?_⟩) ?_ ?_
        rotate_left
        ·intro w'
         go_simp
         with_reducible rfl
        rotate_left
        ·simp only [Act.put, List.setIfInBounds_toArray, List.set_cons_zero, List.set_cons_succ, i64_w, i32_w]
         rfl
        exact norm_ (by simp only [putAll, Act.put, List.setIfInBounds_toArray, List.set_cons_zero, List.set_cons_succ]) (hCont (gb264) _ ⟨hHeld, (by (with_reducible repeat ((refine blk_drew ?_))); exact BK258.out), (by (with_reducible repeat ((refine blk_drew ?_))); exact BK259.out), (by (with_reducible repeat ((refine blk_drew ?_))); exact BK264.out), GW264.out, GE264.out, NB258_264.out, NB264_258.out, NB259_264.out, NB264_259.out, (by repeat ((with_reducible (exact HB.out))))⟩)
      rintro gb264 w23 ⟨hS_, h0_, h1_, h2_, h3_, h4_, h5_, h6_, h7_, h8_, h9_⟩
      have n0_ : Aside0 (w23.heap[gb258]? = some (.cells #[.int .i64 x259000_1, .int .i64 x259001_1] 42 (0, 0))) := ⟨h0_⟩
      have n1_ : Aside0 (w23.heap[gb259]? = some (.cells #[.int .i64 x260000_1, .int .i64 x260001_1] 42 (0, 0))) := ⟨h1_⟩
      have n2_ : Aside0 (w23.heap[gb264]? = some (.cells #[.int .i64 0, .int .i64 0] 42 (0, 0))) := ⟨h2_⟩
      have n3_ : Aside0 (w.heap.size ≤ gb264) := ⟨h3_⟩
      have n4_ : Aside0 (w.heap.size ≤ gb264) := ⟨h4_⟩
      have n5_ : Aside0 (gb258 ≠ gb264) := ⟨h5_⟩
      have n6_ : Aside0 (gb264 ≠ gb258) := ⟨h6_⟩
      have n7_ : Aside0 (gb259 ≠ gb264) := ⟨h7_⟩
      have n8_ : Aside0 (gb264 ≠ gb259) := ⟨h8_⟩
      have n9_ : Aside0 (Below w.heap.size w w23) := ⟨h9_⟩
      clear BK258
      clear BK259
      clear HB
      clear h0_ h1_ h2_ h3_ h4_ h5_ h6_ h7_ h8_ h9_
      have BK258 := n0_
      have BK259 := n1_
      have BK264 := n2_
      have GW264 := n3_
      have GE264 := n4_
      have NB258_264 := n5_
      have NB264_258 := n6_
      have NB259_264 := n7_
      have NB264_259 := n8_
      have HB := n9_
      clear n0_ n1_ n2_ n3_ n4_ n5_ n6_ n7_ n8_ n9_
      have hHeld : w23.cell? ⟨gb258, 0, none⟩ = some (.int .i64 x259000_1) ∧ w23.cell? ⟨gb258, 1, none⟩ = some (.int .i64 x259001_1) ∧ w23.cell? (ad260.add (x6_1).toNat) = some (.slice A260_0 (rd_L3 l0 x6_1).length c260_0) := hS_
      refine norm_ (a' := ?_) ?_ ?_
      rotate_left
      ·simp only [putAll, Act.put, List.setIfInBounds_toArray, List.set_cons_zero, List.set_cons_succ]
       rfl
      refine one_ (i := 10) (N := none) #[true, true, true, true, true, true, true, true, true, true, true, false] rfl rfl (one_of HT_.out (by kernel_rfl)) (by decide) (fun K hK => ?_)
      have hs24 : w23.cell? ⟨gb264, 0, none⟩ = some (.int .i64 0) := (blk_cell BK264.out 0).trans rfl
      have hfs24 := blk_frozen BK264.out 0
      have hns24_0 := NB258_264.out
      have hns24_1 := NB259_264.out
      have hms24_0 := NB264_258.out
      have hms24_1 := NB264_259.out
      have hs25 : w23.cell? ⟨gb264, 1, none⟩ = some (.int .i64 0) := (blk_cell BK264.out 1).trans rfl
      have hfs25 := blk_frozen BK264.out 1
      have hns25_0 := NB258_264.out
      have hns25_1 := NB259_264.out
      have hms25_0 := NB264_258.out
      have hms25_1 := NB264_259.out
      refine skip_ (w1 := ?_) (by rfl) rfl ?_ ?_
      rotate_left
      ·go_simp
       rfl
      refine hK.out _ _ ⟨((cell_far (p := ⟨gb264, _, none⟩) NB258_264.out _).trans (((cell_far (p := ⟨gb264, _, none⟩) NB258_264.out _).trans (hHeld.1)))), ((cell_far (p := ⟨gb264, _, none⟩) NB258_264.out _).trans (((cell_far (p := ⟨gb264, _, none⟩) NB258_264.out _).trans (hHeld.2.1)))), ((cell_far (p := ⟨gb264, _, none⟩) (by (exact Nat.ne_of_lt (Nat.lt_of_lt_of_le (by have := World.block_lt_of_cell? _ _ hw260_0; (exact this)) GW264.out))) _).trans (((cell_far (p := ⟨gb264, _, none⟩) (by (exact Nat.ne_of_lt (Nat.lt_of_lt_of_le (by have := World.block_lt_of_cell? _ _ hw260_0; (exact this)) GW264.out))) _).trans (hHeld.2.2))))⟩ (fun hHeld => ?_)
      clear hK K
      refine pure_ (i := 11) (N := some 8) (v := ?_) (a' := ?_) #[true, true, true, true, true, true, true, true, true, true, true, true] rfl rfl (any_of HT_.out (by kernel_rfl)) (fun _ _ _ h => h) (Or.inl ⟨by rfl, ?_⟩) ?_ ?_
      rotate_left
      ·intro w'
       go_simp
       with_reducible rfl
      rotate_left
      ·simp only [Act.put, List.setIfInBounds_toArray, List.set_cons_zero, List.set_cons_succ, i64_w, i32_w]
       rfl
      refine done_ (done_of HT_.out (by kernel_rfl)) ?_
      have hnb26 := NB259_258.out
      have hnc26 := NB258_259.out
      have hnb27 := NB259_264.out
      have hnc27 := NB264_259.out
      have hcz28_0 : w23.cell? ⟨gb259, 0, none⟩ = some (.int .i64 x260000_1) := (blk_cell BK259.out 0).trans rfl
      have hcz28_1 : w23.cell? ⟨gb259, 1, none⟩ = some (.int .i64 x260001_1) := (blk_cell BK259.out 1).trans rfl
      have hfz28_0 := blk_frozen BK259.out 0
      have hfz28_1 := blk_frozen BK259.out 1
      try go_wp2
      refine bodyPost_ret (results_ct rfl _ _ gb259 42 #[.int .i64 0, .int .i64 0] (0, 0) _ rfl (by (with_reducible repeat ((refine blk_drew ?_))); refine blk_put (cs := #[.int .i64 0, .int .i64 x260001_1]) ?_ 1 _ rfl; (with_reducible repeat ((refine blk_drew ?_))); refine blk_put (cs := #[.int .i64 x260000_1, .int .i64 x260001_1]) ?_ 0 _ rfl; (with_reducible repeat ((refine blk_drew ?_))); refine blk_far ?_ NB259_264.out _; (with_reducible repeat ((refine blk_drew ?_))); refine blk_far ?_ NB259_264.out _; (with_reducible repeat ((refine blk_drew ?_))); exact BK259.out) Try.underlying42 rfl (by kernel_rfl)) rfl ?_
      exact ⟨by (rfl), by repeat ((with_reducible first | exact HB.out | refine below_set ?_ GE259.out | refine below_set ?_ GE264.out))⟩
    ·rw [if_neg c6] at H
     exact absurd H (by simp)
   ·rw [if_neg c5] at H
    have c5b0 : decide (x6_1 < (l0.length : Int)) = false := decide_eq_false c5
    clear c5
    simp only [Option.some.injEq, Prod.mk.injEq] at H
    obtain ⟨rfl, rfl, rfl⟩ := H
    have hnb29 := NB258_259.out
    have hnc29 := NB259_258.out
    have hcz30_0 : wr.cell? ⟨gb258, 0, none⟩ = some (.int .i64 x259000_1) := (blk_cell BK258.out 0).trans rfl
    have hcz30_1 : wr.cell? ⟨gb258, 1, none⟩ = some (.int .i64 x259001_1) := (blk_cell BK258.out 1).trans rfl
    have hfz30_0 := blk_frozen BK258.out 0
    have hfz30_1 := blk_frozen BK258.out 1
    have hcz31_0 : wr.cell? ⟨gb259, 0, none⟩ = some (.int .i64 x260000_1) := (blk_cell BK259.out 0).trans rfl
    have hcz31_1 : wr.cell? ⟨gb259, 1, none⟩ = some (.int .i64 x260001_1) := (blk_cell BK259.out 1).trans rfl
    have hfz31_0 := blk_frozen BK259.out 0
    have hfz31_1 := blk_frozen BK259.out 1
    go_wp2
    refine bodyPost_ret (results_ct rfl _ _ gb259 42 #[.int .i64 x259000_1, .int .i64 x259001_1] (0, 0) _ rfl (by (with_reducible repeat ((refine blk_drew ?_))); refine blk_put (cs := #[.int .i64 x259000_1, .int .i64 x260001_1]) ?_ 1 _ rfl; (with_reducible repeat ((refine blk_drew ?_))); refine blk_put (cs := #[.int .i64 x260000_1, .int .i64 x260001_1]) ?_ 0 _ rfl; (with_reducible repeat ((refine blk_drew ?_))); exact BK259.out) Try.underlying42 rfl (by kernel_rfl)) rfl ?_
    exact ⟨by (rfl), by repeat ((with_reducible first | exact HB.out | refine below_set ?_ GE259.out))⟩
end Go.Proofs.Ytjbnffadfohofaa.P
end
-- MERGED YtjbnffadfohofaaPplaceOver
section
namespace Go.Proofs.Ytjbnffadfohofaa.P
open Go.RowKit Go.Proofs.YtjbnffadfohofaaW.PrintWords Go.Proofs.YtjbnffadfohofaaW.PrintLast Go.Proofs.YtjbnffadfohofaaW.PrintMore
attribute [local go_sem] max2_int min2_int max_two min_two max_three min_three max_four min_four   -- for this text's walks alone
set_option linter.unusedVariables false
set_option linter.unusedSimpArgs false
def place_Over.l0 : Nat → List (List (S49)) → Int → Int → Int → Int → Option (Int × Int × Bool)
 | 0, _, _, _, _, _ => none
 | k + 1, x10, x11, x12, x177000, x177001 => if x12 < x11 then (if 0 ≤ x12 then (if x12 < (x10.length : Int) then ((place_Span.f (rd_L3 x10 x12) x177000 x177001).bind fun bt179 => (if bt179.2.2 = true then (place_Over.l0 k x10 x11 (wrap64 (x12 + 1)) bt179.1 bt179.2.1) else (some (0, 0, false)))) else (none)) else (none)) else (some (x177000, x177001, true))
def place_Over.f (k : Nat) (l0 : List (List (S49))) (a1_0 : Int) (a1_1 : Int) : Option (Int × Int × Bool) := place_Over.l0 k l0 (l0.length : Int) 0 a1_0 a1_1
set_option maxHeartbeats 8000000 in
set_option maxRecDepth 100000 in
theorem place_Over.calls (k : Nat) (A0 : Option Addr) (c0 : Nat) (l0 : List (List (S49))) (a1_0 : Int) (a1_1 : Int) (r1 : Int) (r2 : Int) (r3 : Bool) (w : World) (hr0 : Kd.C (Kd.slice 49 k49) w A0 l0.length l0) (hc0 : l0.length ≤ c0) (h : place_Over.f k l0 a1_0 a1_1 = some (r1, r2, r3)) :
  Calls Try.prog 23 #[.slice A0 l0.length c0, .agg #[.int .i64 a1_0, .int .i64 a1_1]] w fun e w' => e = .returned (.tuple #[.agg #[.int .i64 r1, .int .i64 r2], .bool r3]) ∧ Below w.heap.size w w' := by
 have hu42 := Try.underlying42
 have HR0 := Aside0.mk hr0
 have HC0 := Aside0.mk hc0
 clear hr0 hc0
 have HB := Aside0.mk (Below.refl w.heap.size w)
 have H : (place_Over.l0 k l0 (l0.length : Int) 0 a1_0 a1_1) = some (r1, r2, r3) := h
 clear h
 have H' := Aside0.mk H
 clear H
 go_enter Try.func23, Try.ntmps23
 go_wp2_with (first | ((with_reducible refine gate_dst (N := 3) rfl ?_); refine box_event ?hg (N := 3) ?hd (cs := #[.int .i64 a1_0, .int .i64 a1_1]) (t := 42) ?hr ?_; (case hd => rfl); (case hg => rfl); (case hr => (go_simp; done)); intro gb176 hg w3 hbox hb; have n0_ := Aside0.mk (below_step (by repeat ((with_reducible (exact HB.out)))) hb); have n1_ := Aside0.mk (hbox); have n2_ := Aside0.mk ((by rw [hg]; exact (below_size (by repeat ((with_reducible (exact HB.out))))) : w.heap.size ≤ gb176)); have n3_ := Aside0.mk ((by rw [hg]; exact (below_size (by repeat ((with_reducible (exact HB.out))))) : w.heap.size ≤ gb176)); clear HB; have HB := n0_; have BK176 := n1_; have GW176 := n2_; have GE176 := n3_; clear n0_ n1_ n2_ n3_; clear hb hbox hg) | ((with_reducible refine gate_dst (N := 4) rfl ?_); refine box_event ?hg (N := 4) ?hd (cs := #[.int .i64 0, .int .i64 0]) (t := 42) ?hr ?_; (case hd => rfl); (case hg => rfl); (case hr => (go_simp; done)); intro gb177 hg w4 hbox hb; have n0_ := Aside0.mk (blk_below (g := gb176) (o := .cells #[.int .i64 a1_0, .int .i64 a1_1] 42 (0, 0)) (by (with_reducible repeat ((refine blk_drew ?_))); exact BK176.out) hb); have n1_ := Aside0.mk (below_step (by repeat ((with_reducible (exact HB.out)))) hb); have n2_ := Aside0.mk (hbox); have n3_ := Aside0.mk ((by rw [hg]; exact (below_size (by repeat ((with_reducible (exact HB.out))))) : w.heap.size ≤ gb177)); have n4_ := Aside0.mk ((by rw [hg]; exact (below_size (by repeat ((with_reducible (exact HB.out))))) : w.heap.size ≤ gb177)); have n5_ := Aside0.mk ((by rw [hg]; exact Nat.ne_of_lt (blk_lt (g := gb176) (o := .cells #[.int .i64 a1_0, .int .i64 a1_1] 42 (0, 0)) (by (with_reducible repeat ((refine blk_drew ?_))); exact BK176.out)) : gb176 ≠ gb177)); have n6_ := Aside0.mk ((by rw [hg]; exact Nat.ne_of_gt (blk_lt (g := gb176) (o := .cells #[.int .i64 a1_0, .int .i64 a1_1] 42 (0, 0)) (by (with_reducible repeat ((refine blk_drew ?_))); exact BK176.out)) : gb177 ≠ gb176)); clear BK176; clear HB; have BK176 := n0_; have HB := n1_; have BK177 := n2_; have GW177 := n3_; have GE177 := n4_; have NB176_177 := n5_; have NB177_176 := n6_; clear n0_ n1_ n2_ n3_ n4_ n5_ n6_; clear hb hbox hg))
 go_loopg [12] k (fun kq v12 w' => ∃ (x12_1 : Int) (x177000_1 : Int) (x177001_1 : Int) (x178000_1 : Int) (x178001_1 : Int), v12 = .int .i64 x12_1 ∧ Aside0 (place_Over.l0 kq l0 (l0.length : Int) x12_1 x177000_1 x177001_1 = some (r1, r2, r3)) ∧ Aside0 (kq ≤ k) ∧ Aside0 (w'.heap[gb176]? = some (.cells #[.int .i64 x177000_1, .int .i64 x177001_1] 42 (0, 0))) ∧ Aside0 (w'.heap[gb177]? = some (.cells #[.int .i64 x178000_1, .int .i64 x178001_1] 42 (0, 0))) ∧ Aside0 (Below w.heap.size w w'))
 case atStart => exact ⟨(0), (a1_0), (a1_1), (0), (0), (by (rfl)), H', ⟨Nat.le_refl _⟩, ⟨by (with_reducible repeat ((refine blk_drew ?_))); exact BK176.out⟩, ⟨by (with_reducible repeat ((refine blk_drew ?_))); exact BK177.out⟩, ⟨by repeat ((with_reducible (exact HB.out)))⟩⟩
 case round =>
  clear H'
  try clear c2
  try clear p2
  obtain ⟨x12_1, x177000_1, x177001_1, x178000_1, x178001_1, rfl, HA, HK1, BK176, BK177, HB⟩ := hrel
  cases gk with
  | zero => exact absurd HA.out (by simp [place_Over.l0])
  | succ k1 =>
   have H := HA.out
   clear HA
   simp only [place_Over.l0] at H
   by_cases c5 : x12_1 < (l0.length : Int)
   ·rw [if_pos c5] at H
    have c5b0 : decide (x12_1 < (l0.length : Int)) = true := decide_eq_true c5
    clear c5
    by_cases c6 : 0 ≤ x12_1
    ·rw [if_pos c6] at H
     have c6b0 : decide (0 ≤ x12_1) = true := decide_eq_true c6
     clear c6
     by_cases c7 : x12_1 < (l0.length : Int)
     ·rw [if_pos c7] at H
      have c7b0 : decide (x12_1 < (l0.length : Int)) = true := decide_eq_true c7
      clear c7
      replace H := Option.bind_eq_some_iff.mp H
      obtain ⟨⟨t179, t180, t181⟩, A80, H⟩ := H
      replace H : (if t181 = true then (place_Over.l0 k1 l0 (l0.length : Int) (wrap64 (x12_1 + 1)) t179 t180) else (some (0, 0, false))) = some (r1, r2, r3) := H
      have A8 := Aside0.mk A80
      clear A80
      by_cases c9 : t181 = true
      ·subst c9
       have H1 : (place_Over.l0 k1 l0 (l0.length : Int) (wrap64 (x12_1 + 1)) t179 t180) = some (r1, r2, r3) := by rw [if_pos rfl] at H; exact H
       clear H
       have H := H1
       clear H1
       have H' := Aside0.mk H
       clear H
       have p178 : 0 ≤ (x12_1 : Int) := of_decide_eq_true (by (with_reducible assumption))
       have q178 : x12_1 < (l0.length : Int) := of_decide_eq_true (by (with_reducible assumption))
       obtain ⟨ad178, A178_0, c178_0, e178, hx178_0, hl178_0, hi178_0⟩ := at_L3 HR0.out x12_1 p178 q178
       cases e178
       replace hx178_0 := (HB.out.cell (World.block_lt_of_cell? w _ hx178_0)).trans hx178_0
       have HR178_0 := Aside0.mk hi178_0
       have HC178_0 := Aside0.mk hl178_0
       clear hi178_0 hl178_0
       replace p178 := eq_true p178
       replace q178 := eq_true q178
       have hnb10 := NB176_177.out
       have hnc10 := NB177_176.out
       have hcz11_0 : wr.cell? ⟨gb176, 0, none⟩ = some (.int .i64 x177000_1) := (blk_cell BK176.out 0).trans rfl
       have hcz11_1 : wr.cell? ⟨gb176, 1, none⟩ = some (.int .i64 x177001_1) := (blk_cell BK176.out 1).trans rfl
       have hfz11_0 := blk_frozen BK176.out 0
       have hfz11_1 := blk_frozen BK176.out 1
       go_wp2_with (first | ((with_reducible refine gate_callee (f := 35) rfl ?_); refine goesL_ (some 19) rfl rfl Try.func35 (by kernel_rfl) rfl #[.slice A178_0 (rd_L3 l0 x12_1).length c178_0, .agg #[.int .i64 x177000_1, .int .i64 x177001_1]] rfl (by (try simp only [List.map_toArray, List.map_cons, List.map_nil]); (rfl)) ?_; (with_reducible refine (place_Span.calls _ _ (rd_L3 l0 x12_1) x177000_1 x177001_1 t179 t180 true _ ?side1 ?side2 A8.out).mono ?_); (case side1 => repeat ((exact (Kd.C_below HR178_0.out HB.out)))); (case side2 => exact HC178_0.out); rintro e w12 ⟨rfl, hb⟩; refine ⟨_, rfl, ?_⟩; have n0_ := Aside0.mk (blk_below (g := gb176) (o := .cells #[.int .i64 x177000_1, .int .i64 x177001_1] 42 (0, 0)) (by (with_reducible repeat ((refine blk_drew ?_))); exact BK176.out) hb); have n1_ := Aside0.mk (blk_below (g := gb177) (o := .cells #[.int .i64 x178000_1, .int .i64 x178001_1] 42 (0, 0)) (by (with_reducible repeat ((refine blk_drew ?_))); exact BK177.out) hb); have n2_ := Aside0.mk (below_step (by repeat ((with_reducible (exact HB.out)))) hb); clear BK176; clear BK177; clear HB; have BK176 := n0_; have BK177 := n1_; have HB := n2_; clear n0_ n1_ n2_; (try clear hb); (try clear hb2); (try clear hk); (try clear hi)) | ((with_reducible refine gate_dst (N := 8) rfl ?_); refine box_event ?hg (N := 8) ?hd (cs := #[.int .i64 0, .int .i64 0]) (t := 42) ?hr ?_; (case hd => rfl); (case hg => rfl); (case hr => (go_simp; done)); intro gb182 hg w13 hbox hb; have n0_ := Aside0.mk (blk_below (g := gb176) (o := .cells #[.int .i64 x177000_1, .int .i64 x177001_1] 42 (0, 0)) (by (with_reducible repeat ((refine blk_drew ?_))); exact BK176.out) hb); have n1_ := Aside0.mk (blk_below (g := gb177) (o := .cells #[.int .i64 x178000_1, .int .i64 x178001_1] 42 (0, 0)) (by (with_reducible repeat ((refine blk_drew ?_))); exact BK177.out) hb); have n2_ := Aside0.mk (below_step (by repeat ((with_reducible (exact HB.out)))) hb); have n3_ := Aside0.mk (hbox); have n4_ := Aside0.mk ((by rw [hg]; exact (below_size (by repeat ((with_reducible (exact HB.out))))) : w.heap.size ≤ gb182)); have n5_ := Aside0.mk ((by rw [hg]; exact (below_size (by repeat ((with_reducible (exact HB.out))))) : w.heap.size ≤ gb182)); have n6_ := Aside0.mk ((by rw [hg]; exact Nat.ne_of_lt (blk_lt (g := gb176) (o := .cells #[.int .i64 x177000_1, .int .i64 x177001_1] 42 (0, 0)) (by (with_reducible repeat ((refine blk_drew ?_))); exact BK176.out)) : gb176 ≠ gb182)); have n7_ := Aside0.mk ((by rw [hg]; exact Nat.ne_of_gt (blk_lt (g := gb176) (o := .cells #[.int .i64 x177000_1, .int .i64 x177001_1] 42 (0, 0)) (by (with_reducible repeat ((refine blk_drew ?_))); exact BK176.out)) : gb182 ≠ gb176)); have n8_ := Aside0.mk ((by rw [hg]; exact Nat.ne_of_lt (blk_lt (g := gb177) (o := .cells #[.int .i64 x178000_1, .int .i64 x178001_1] 42 (0, 0)) (by (with_reducible repeat ((refine blk_drew ?_))); exact BK177.out)) : gb177 ≠ gb182)); have n9_ := Aside0.mk ((by rw [hg]; exact Nat.ne_of_gt (blk_lt (g := gb177) (o := .cells #[.int .i64 x178000_1, .int .i64 x178001_1] 42 (0, 0)) (by (with_reducible repeat ((refine blk_drew ?_))); exact BK177.out)) : gb182 ≠ gb177)); clear BK176; clear BK177; clear HB; have BK176 := n0_; have BK177 := n1_; have HB := n2_; have BK182 := n3_; have GW182 := n4_; have GE182 := n5_; have NB176_182 := n6_; have NB182_176 := n7_; have NB177_182 := n8_; have NB182_177 := n9_; clear n0_ n1_ n2_ n3_ n4_ n5_ n6_ n7_ n8_ n9_; clear hb hbox hg; have hnb14 := NB182_176.out; have hnc14 := NB176_182.out; have hnb15 := NB182_177.out; have hnc15 := NB177_182.out; have hcz16_0 : w13.cell? ⟨gb182, 0, none⟩ = some (.int .i64 0) := (blk_cell BK182.out 0).trans rfl; have hcz16_1 : w13.cell? ⟨gb182, 1, none⟩ = some (.int .i64 0) := (blk_cell BK182.out 1).trans rfl; have hfz16_0 := blk_frozen BK182.out 0; have hfz16_1 := blk_frozen BK182.out 1; have hcz17_0 : w13.cell? ⟨gb176, 0, none⟩ = some (.int .i64 x177000_1) := (blk_cell BK176.out 0).trans rfl; have hcz17_1 : w13.cell? ⟨gb176, 1, none⟩ = some (.int .i64 x177001_1) := (blk_cell BK176.out 1).trans rfl; have hfz17_0 := blk_frozen BK176.out 0; have hfz17_1 := blk_frozen BK176.out 1))
       go_roundg k1
       case measure => have := HK1.out; omega
       case rel => exact ⟨(wrap64 (x12_1 + 1)), (t179), (t180), (x178000_1), (x178001_1), (by (rfl)), H', ⟨by have := HK1.out; omega⟩, ⟨by (with_reducible repeat ((refine blk_drew ?_))); refine blk_put (cs := #[.int .i64 t179, .int .i64 x177001_1]) ?_ 1 _ rfl; (with_reducible repeat ((refine blk_drew ?_))); refine blk_put (cs := #[.int .i64 x177000_1, .int .i64 x177001_1]) ?_ 0 _ rfl; (with_reducible repeat ((refine blk_drew ?_))); refine blk_far ?_ NB176_182.out _; (with_reducible repeat ((refine blk_drew ?_))); refine blk_far ?_ NB176_182.out _; (with_reducible repeat ((refine blk_drew ?_))); exact BK176.out⟩, ⟨by (with_reducible repeat ((refine blk_drew ?_))); refine blk_far ?_ NB177_176.out _; (with_reducible repeat ((refine blk_drew ?_))); refine blk_far ?_ NB177_176.out _; (with_reducible repeat ((refine blk_drew ?_))); refine blk_far ?_ NB177_182.out _; (with_reducible repeat ((refine blk_drew ?_))); refine blk_far ?_ NB177_182.out _; (with_reducible repeat ((refine blk_drew ?_))); exact BK177.out⟩, ⟨by repeat ((with_reducible first | exact HB.out | refine below_set ?_ GE176.out | refine below_set ?_ GE182.out))⟩⟩
      ·replace c9 := Bool.eq_false_iff.mpr c9
       subst c9
       have H1 : (some (0, 0, false)) = some (r1, r2, r3) := by rw [if_neg (show ¬ (false = true) by decide)] at H; exact H
       clear H
       have H := H1
       clear H1
       simp only [Option.some.injEq, Prod.mk.injEq] at H
       obtain ⟨rfl, rfl, rfl⟩ := H
       have p178 : 0 ≤ (x12_1 : Int) := of_decide_eq_true (by (with_reducible assumption))
       have q178 : x12_1 < (l0.length : Int) := of_decide_eq_true (by (with_reducible assumption))
       obtain ⟨ad178, A178_0, c178_0, e178, hx178_0, hl178_0, hi178_0⟩ := at_L3 HR0.out x12_1 p178 q178
       cases e178
       replace hx178_0 := (HB.out.cell (World.block_lt_of_cell? w _ hx178_0)).trans hx178_0
       have HR178_0 := Aside0.mk hi178_0
       have HC178_0 := Aside0.mk hl178_0
       clear hi178_0 hl178_0
       replace p178 := eq_true p178
       replace q178 := eq_true q178
       have hnb18 := NB176_177.out
       have hnc18 := NB177_176.out
       have hcz19_0 : wr.cell? ⟨gb176, 0, none⟩ = some (.int .i64 x177000_1) := (blk_cell BK176.out 0).trans rfl
       have hcz19_1 : wr.cell? ⟨gb176, 1, none⟩ = some (.int .i64 x177001_1) := (blk_cell BK176.out 1).trans rfl
       have hfz19_0 := blk_frozen BK176.out 0
       have hfz19_1 := blk_frozen BK176.out 1
       go_wp2_with (first | ((with_reducible refine gate_callee (f := 35) rfl ?_); refine goesL_ (some 19) rfl rfl Try.func35 (by kernel_rfl) rfl #[.slice A178_0 (rd_L3 l0 x12_1).length c178_0, .agg #[.int .i64 x177000_1, .int .i64 x177001_1]] rfl (by (try simp only [List.map_toArray, List.map_cons, List.map_nil]); (rfl)) ?_; (with_reducible refine (place_Span.calls _ _ (rd_L3 l0 x12_1) x177000_1 x177001_1 t179 t180 false _ ?side1 ?side2 A8.out).mono ?_); (case side1 => repeat ((exact (Kd.C_below HR178_0.out HB.out)))); (case side2 => exact HC178_0.out); rintro e w20 ⟨rfl, hb⟩; refine ⟨_, rfl, ?_⟩; have n0_ := Aside0.mk (blk_below (g := gb176) (o := .cells #[.int .i64 x177000_1, .int .i64 x177001_1] 42 (0, 0)) (by (with_reducible repeat ((refine blk_drew ?_))); exact BK176.out) hb); have n1_ := Aside0.mk (blk_below (g := gb177) (o := .cells #[.int .i64 x178000_1, .int .i64 x178001_1] 42 (0, 0)) (by (with_reducible repeat ((refine blk_drew ?_))); exact BK177.out) hb); have n2_ := Aside0.mk (below_step (by repeat ((with_reducible (exact HB.out)))) hb); clear BK176; clear BK177; clear HB; have BK176 := n0_; have BK177 := n1_; have HB := n2_; clear n0_ n1_ n2_; (try clear hb); (try clear hb2); (try clear hk); (try clear hi)) | ((with_reducible refine gate_dst (N := 8) rfl ?_); refine box_event ?hg (N := 8) ?hd (cs := #[.int .i64 0, .int .i64 0]) (t := 42) ?hr ?_; (case hd => rfl); (case hg => rfl); (case hr => (go_simp; done)); intro gb182 hg w21 hbox hb; have n0_ := Aside0.mk (blk_below (g := gb176) (o := .cells #[.int .i64 x177000_1, .int .i64 x177001_1] 42 (0, 0)) (by (with_reducible repeat ((refine blk_drew ?_))); exact BK176.out) hb); have n1_ := Aside0.mk (blk_below (g := gb177) (o := .cells #[.int .i64 x178000_1, .int .i64 x178001_1] 42 (0, 0)) (by (with_reducible repeat ((refine blk_drew ?_))); exact BK177.out) hb); have n2_ := Aside0.mk (below_step (by repeat ((with_reducible (exact HB.out)))) hb); have n3_ := Aside0.mk (hbox); have n4_ := Aside0.mk ((by rw [hg]; exact (below_size (by repeat ((with_reducible (exact HB.out))))) : w.heap.size ≤ gb182)); have n5_ := Aside0.mk ((by rw [hg]; exact (below_size (by repeat ((with_reducible (exact HB.out))))) : w.heap.size ≤ gb182)); have n6_ := Aside0.mk ((by rw [hg]; exact Nat.ne_of_lt (blk_lt (g := gb176) (o := .cells #[.int .i64 x177000_1, .int .i64 x177001_1] 42 (0, 0)) (by (with_reducible repeat ((refine blk_drew ?_))); exact BK176.out)) : gb176 ≠ gb182)); have n7_ := Aside0.mk ((by rw [hg]; exact Nat.ne_of_gt (blk_lt (g := gb176) (o := .cells #[.int .i64 x177000_1, .int .i64 x177001_1] 42 (0, 0)) (by (with_reducible repeat ((refine blk_drew ?_))); exact BK176.out)) : gb182 ≠ gb176)); have n8_ := Aside0.mk ((by rw [hg]; exact Nat.ne_of_lt (blk_lt (g := gb177) (o := .cells #[.int .i64 x178000_1, .int .i64 x178001_1] 42 (0, 0)) (by (with_reducible repeat ((refine blk_drew ?_))); exact BK177.out)) : gb177 ≠ gb182)); have n9_ := Aside0.mk ((by rw [hg]; exact Nat.ne_of_gt (blk_lt (g := gb177) (o := .cells #[.int .i64 x178000_1, .int .i64 x178001_1] 42 (0, 0)) (by (with_reducible repeat ((refine blk_drew ?_))); exact BK177.out)) : gb182 ≠ gb177)); clear BK176; clear BK177; clear HB; have BK176 := n0_; have BK177 := n1_; have HB := n2_; have BK182 := n3_; have GW182 := n4_; have GE182 := n5_; have NB176_182 := n6_; have NB182_176 := n7_; have NB177_182 := n8_; have NB182_177 := n9_; clear n0_ n1_ n2_ n3_ n4_ n5_ n6_ n7_ n8_ n9_; clear hb hbox hg; have hnb22 := NB182_176.out; have hnc22 := NB176_182.out; have hnb23 := NB182_177.out; have hnc23 := NB177_182.out; have hcz24_0 : w21.cell? ⟨gb182, 0, none⟩ = some (.int .i64 0) := (blk_cell BK182.out 0).trans rfl; have hcz24_1 : w21.cell? ⟨gb182, 1, none⟩ = some (.int .i64 0) := (blk_cell BK182.out 1).trans rfl; have hfz24_0 := blk_frozen BK182.out 0; have hfz24_1 := blk_frozen BK182.out 1; have hcz25_0 : w21.cell? ⟨gb177, 0, none⟩ = some (.int .i64 x178000_1) := (blk_cell BK177.out 0).trans rfl; have hcz25_1 : w21.cell? ⟨gb177, 1, none⟩ = some (.int .i64 x178001_1) := (blk_cell BK177.out 1).trans rfl; have hfz25_0 := blk_frozen BK177.out 0; have hfz25_1 := blk_frozen BK177.out 1))
       refine bodyPost_ret (results_ct rfl _ _ gb177 42 #[.int .i64 0, .int .i64 0] (0, 0) _ rfl (by (with_reducible repeat ((refine blk_drew ?_))); refine blk_put (cs := #[.int .i64 0, .int .i64 x178001_1]) ?_ 1 _ rfl; (with_reducible repeat ((refine blk_drew ?_))); refine blk_put (cs := #[.int .i64 x178000_1, .int .i64 x178001_1]) ?_ 0 _ rfl; (with_reducible repeat ((refine blk_drew ?_))); refine blk_far ?_ NB177_182.out _; (with_reducible repeat ((refine blk_drew ?_))); refine blk_far ?_ NB177_182.out _; (with_reducible repeat ((refine blk_drew ?_))); exact BK177.out) Try.underlying42 rfl (by kernel_rfl)) rfl ?_
       exact ⟨by (rfl), by repeat ((with_reducible first | exact HB.out | refine below_set ?_ GE177.out | refine below_set ?_ GE182.out))⟩
     ·rw [if_neg c7] at H
      exact absurd H (by simp)
    ·rw [if_neg c6] at H
     exact absurd H (by simp)
   ·rw [if_neg c5] at H
    have c5b0 : decide (x12_1 < (l0.length : Int)) = false := decide_eq_false c5
    clear c5
    simp only [Option.some.injEq, Prod.mk.injEq] at H
    obtain ⟨rfl, rfl, rfl⟩ := H
    have hnb26 := NB176_177.out
    have hnc26 := NB177_176.out
    have hcz27_0 : wr.cell? ⟨gb176, 0, none⟩ = some (.int .i64 x177000_1) := (blk_cell BK176.out 0).trans rfl
    have hcz27_1 : wr.cell? ⟨gb176, 1, none⟩ = some (.int .i64 x177001_1) := (blk_cell BK176.out 1).trans rfl
    have hfz27_0 := blk_frozen BK176.out 0
    have hfz27_1 := blk_frozen BK176.out 1
    have hcz28_0 : wr.cell? ⟨gb177, 0, none⟩ = some (.int .i64 x178000_1) := (blk_cell BK177.out 0).trans rfl
    have hcz28_1 : wr.cell? ⟨gb177, 1, none⟩ = some (.int .i64 x178001_1) := (blk_cell BK177.out 1).trans rfl
    have hfz28_0 := blk_frozen BK177.out 0
    have hfz28_1 := blk_frozen BK177.out 1
    go_wp2
    refine bodyPost_ret (results_ct rfl _ _ gb177 42 #[.int .i64 x177000_1, .int .i64 x177001_1] (0, 0) _ rfl (by (with_reducible repeat ((refine blk_drew ?_))); refine blk_put (cs := #[.int .i64 x177000_1, .int .i64 x178001_1]) ?_ 1 _ rfl; (with_reducible repeat ((refine blk_drew ?_))); refine blk_put (cs := #[.int .i64 x178000_1, .int .i64 x178001_1]) ?_ 0 _ rfl; (with_reducible repeat ((refine blk_drew ?_))); exact BK177.out) Try.underlying42 rfl (by kernel_rfl)) rfl ?_
    exact ⟨by (rfl), by repeat ((with_reducible first | exact HB.out | refine below_set ?_ GE177.out))⟩
end Go.Proofs.Ytjbnffadfohofaa.P
end
-- MERGED YtjbnffadfohofaaPlaceOv
section
namespace Go.Proofs.Ytjbnffadfohofaa.PlaceOv
open Go.RowKit Go.Proofs.Ytjbnffadfohofaa.P Go.Proofs.YtjbnffadfohofaaW.PrintWords Go.Proofs.YtjbnffadfohofaaW.PrintLast Go.Proofs.YtjbnffadfohofaaW.PrintMore Go.Proofs.Ytjbnffadfohofaa.EditL Go.Proofs.Ytjbnffadfohofaa.EditK Go.Proofs.Ytjbnffadfohofaa.EditF Go.Proofs.Ytjbnffadfohofaa.EditG Go.Proofs.Ytjbnffadfohofaa.EditH1 Go.Proofs.Ytjbnffadfohofaa.PlaceI Go.Proofs.Ytjbnffadfohofaa.PlaceM Go.Proofs.Ytjbnffadfohofaa.PlaceS Go.Proofs.Ytjbnffadfohofaa.PlaceL Go.Proofs.Ytjbnffadfohofaa.PlaceF Go.Proofs.Ytjbnffadfohofaa.PlaceG
set_option linter.unusedSimpArgs false
set_option linter.unusedVariables false
theorem op_at {l pre suf : List (List Rn)} {r : List Rn} (h : l = pre ++ r :: suf) : rd_L3 l (pre.length : Int) = r := by
 subst h
 unfold rd_L3
 rw [Int.toNat_natCast, List.getD_eq_getElem?_getD, List.getElem?_append_right (Nat.le_refl _), Nat.sub_self]; rfl
theorem snoc' {α : Type} {l pre suf : List α} {r : α} (h : l = pre ++ r :: suf) : l = (pre ++ [r]) ++ suf ∧ ((pre ++ [r]).length : Int) = (pre.length : Int) + 1 ∧ (pre.length : Int) < (l.length : Int) := by
 refine ⟨by rw [h]; simp, by simp, by rw [h]; simp; omega⟩
def Fw (op : List Rn) : Prop := op.length ≤ 100 ∧ (good op = true → inL op ≤ 3000 ∧ outL op ≤ 3000)
def overS : List (List Rn) → Int → Int → Int × Int × Bool
 | [], a, b => (a, b, true)
 | op :: l, a, b => if (spanL op a b).2 = true then overS l (spanL op a b).1.1 (spanL op a b).1.2 else (0, 0, false)
theorem over_l (l : List (List Rn)) (hl : l.length ≤ 12) (hf : ∀ op ∈ l, Fw op) : ∀ (suf pre : List (List Rn)) (k : Nat) (a b : Int), l = pre ++ suf → suf.length < k →
  place_Over.l0 k l (l.length : Int) (pre.length : Int) a b = some (overS suf a b) := by
 intro suf
 induction suf with
 | nil =>
  intro pre k a b hfe hk
  obtain ⟨k, rfl⟩ : ∃ m, k = m + 1 := ⟨k - 1, by omega⟩
  have : l.length = pre.length := by rw [hfe]; simp
  simp only [place_Over.l0]
  rw [if_neg (by omega)]; rfl
 | cons r suf ih =>
  intro pre k a b hfe hk
  obtain ⟨k, rfl⟩ : ∃ m, k = m + 1 := ⟨k - 1, by omega⟩
  obtain ⟨hl2, hn, hlt⟩ := snoc' hfe
  have hr := hf r (by rw [hfe]; simp)
  simp only [List.length_cons] at hk
  have next := fun a b => ih (pre ++ [r]) k a b hl2 (by omega)
  rw [hn] at next
  simp only [place_Over.l0]
  rw [if_pos hlt, if_pos (by omega), if_pos hlt, op_at hfe, pspan_f (by have := hr.1; omega), Option.bind_some, w64 (x := (pre.length : Int) + 1) (by omega) (by omega), next]
  show (if (spanL r a b).2 = true then some (overS suf (spanL r a b).1.1 (spanL r a b).1.2) else some (0, 0, false)) = some (if (spanL r a b).2 = true then overS suf (spanL r a b).1.1 (spanL r a b).1.2 else (0, 0, false))
  split <;> rfl
theorem rover_l (l : List (List Rn)) (hl : l.length ≤ 12) (hf : ∀ op ∈ l, Fw op) : ∀ (suf pre : List (List Rn)) (k : Nat) (a b : Int), l = pre ++ suf → suf.length + 8000 < k →
  variorumref10_Over.l0 k l (pre.length : Int) a b = some (overS suf a b) := by
 intro suf
 induction suf with
 | nil =>
  intro pre k a b hfe hk
  obtain ⟨k, rfl⟩ : ∃ m, k = m + 1 := ⟨k - 1, by omega⟩
  have : l.length = pre.length := by rw [hfe]; simp
  simp only [variorumref10_Over.l0]
  rw [if_neg (by omega)]; rfl
 | cons r suf ih =>
  intro pre k a b hfe hk
  obtain ⟨k, rfl⟩ : ∃ m, k = m + 1 := ⟨k - 1, by omega⟩
  obtain ⟨hl2, hn, hlt⟩ := snoc' hfe
  have hr := hf r (by rw [hfe]; simp)
  simp only [List.length_cons] at hk
  have next := fun a b => ih (pre ++ [r]) k a b hl2 (by omega)
  rw [hn] at next
  simp only [variorumref10_Over.l0]
  rw [if_pos hlt, if_pos (by omega), op_at hfe, rspan_f hr.1 hr.2 a b k (by omega), Option.bind_some, w64 (x := (pre.length : Int) + 1) (by omega) (by omega), next]
  show (if (spanL r a b).2 = true then some (overS suf (spanL r a b).1.1 (spanL r a b).1.2) else some (0, 0, false)) = some (if (spanL r a b).2 = true then overS suf (spanL r a b).1.1 (spanL r a b).1.2 else (0, 0, false))
  split <;> rfl
theorem over_f (l : List (List Rn)) (hl : l.length ≤ 12) (hf : ∀ op ∈ l, Fw op) (k : Nat) (hk : 9000 ≤ k) (a b : Int) : place_Over.f k l a b = some (overS l a b) := over_l l hl hf l [] k a b rfl (by omega)
theorem rover_f (l : List (List Rn)) (hl : l.length ≤ 12) (hf : ∀ op ∈ l, Fw op) (k : Nat) (hk : 9000 ≤ k) (a b : Int) : variorumref10_Over.f k l a b = some (overS l a b) := rover_l l hl hf l [] k a b rfl (by omega)
end Go.Proofs.Ytjbnffadfohofaa.PlaceOv
end
-- MERGED YtjbnffadfohofaaByt
namespace Go.Proofs.Ytjbnffadfohofaa.Byt
end Go.Proofs.Ytjbnffadfohofaa.Byt
-- MERGED YtjbnffadfohofaaGr
namespace Go.Proofs.Ytjbnffadfohofaa.Own
end Go.Proofs.Ytjbnffadfohofaa.Own
-- MERGED YtjbnffadfohofaaNoteN
section
namespace Go.Proofs.Ytjbnffadfohofaa.NoteN
open Go.RowKit Go.Proofs.Ytjbnffadfohofaa.P Go.Proofs.YtjbnffadfohofaaW.PrintWords Go.Proofs.YtjbnffadfohofaaW.PrintLast Go.Proofs.YtjbnffadfohofaaW.PrintMore Go.Proofs.Ytjbnffadfohofaa.Own
set_option linter.unusedSimpArgs false
set_option linter.unusedVariables false
abbrev Nt := S44
abbrev NC (w : World) (A : Option Addr) (l : List Nt) : Prop := Kd.C k44 w A l.length l
def ncells (l : List Nt) : List Value := l.flatMap fun x => [.int .i64 x.f0.f0, .int .i64 x.f0.f1, .int .i64 x.f1]
theorem ncells_length (l : List Nt) : (ncells l).length = l.length * 3 := by
 unfold ncells
 induction l with
 | nil => rfl
 | cons p l ih => rw [List.flatMap_cons, List.length_append, ih, List.length_cons]; simp; omega
theorem ncells_at (l : List Nt) : ∀ (j : Nat) (r : Nt), l[j]? = some r → ((ncells l).drop (j * 3)).take 3 = [.int .i64 r.f0.f0, .int .i64 r.f0.f1, .int .i64 r.f1] := by
 induction l with
 | nil => intro j r h; simp at h
 | cons p l ih =>
  intro j r h
  have e : ncells (p :: l) = [.int .i64 p.f0.f0, .int .i64 p.f0.f1, .int .i64 p.f1] ++ ncells l := rfl
  cases j with
  | zero =>
   obtain rfl : p = r := by simpa using h
   rw [e]; simp
  | succ j =>
   have h2 : l[j]? = some r := by simpa using h
   rw [e, show (j + 1) * 3 = 3 + j * 3 by omega, ← List.drop_drop]
   exact ih j r h2
theorem ncells_get (l : List Nt) : ∀ (j : Nat) (u : Value), (ncells l)[j]? = some u → ∃ r, l[j / 3]? = some r ∧ [Value.int .i64 r.f0.f0, .int .i64 r.f0.f1, .int .i64 r.f1][j % 3]? = some u := by
 induction l with
 | nil => intro j u h; simp [ncells] at h
 | cons p l ih =>
  intro j u h
  have e : ncells (p :: l) = [.int .i64 p.f0.f0, .int .i64 p.f0.f1, .int .i64 p.f1] ++ ncells l := rfl
  rw [e] at h
  by_cases hj : j < 3
  ·refine ⟨p, by rw [Nat.div_eq_of_lt hj]; rfl, ?_⟩
   rw [Nat.mod_eq_of_lt hj]
   rwa [List.getElem?_append_left (by simpa using hj)] at h
  ·rw [List.getElem?_append_right (by simp; omega)] at h
   obtain ⟨r, h1, h2⟩ := ih (j - 3) u (by simpa using h)
   refine ⟨r, ?_, ?_⟩
   ·rw [show j / 3 = (j - 3) / 3 + 1 by omega]; simpa using h1
   ·rw [show j % 3 = (j - 3) % 3 by omega]; exact h2
theorem at_nt {w : World} {A : Option Addr} {n : Nat} {xs : List Nt} (h : Kd.C k44 w A n xs) (j : Nat) (h1 : j < n) : ∃ ad , A = some ad ∧ w.cell? (ad.add (j * 3)) = some (.int .i64 (xs.getD j z44).f0.f0) ∧ w.cell? ⟨(ad.add (j * 3)).block, (ad.add (j * 3)).off + 1, none⟩ = some (.int .i64 (xs.getD j z44).f0.f1) ∧ w.cell? ⟨(ad.add (j * 3)).block, (ad.add (j * 3)).off + 2, none⟩ = some (.int .i64 (xs.getD j z44).f1) := by
 have := at_T44 h (j : Int) (by omega) (by omega)
 unfold rd_T44 at this
 rwa [Int.toNat_natCast] at this
theorem NC.below {w w' : World} {A : Option Addr} {l : List Nt} (h : NC w A l) (hb : Below w.heap.size w w') : NC w' A l := Kd.C_below h hb
theorem NC.cells {w : World} {A : Option Addr} {l : List Nt} (h : NC w A l) (ad : Addr) (hA : A = some ad) : ∀ j u, (ncells l)[j]? = some u → w.cell? (ad.add j) = some u := by
 intro j u hu
 obtain ⟨r, h1, h2⟩ := ncells_get l j u hu
 have hlt := (List.getElem?_eq_some_iff.1 h1).1
 obtain ⟨ad', e, y0, y1, y2⟩ := at_nt h (j / 3) hlt
 rw [hA] at e
 obtain rfl := Option.some.inj e
 have hr : l.getD (j / 3) z44 = r := by rw [List.getD_eq_getElem?_getD, h1]; rfl
 rw [hr] at y0 y1 y2
 have hj : j = j / 3 * 3 + j % 3 := by omega
 have h3 : j % 3 = 0 ∨ j % 3 = 1 ∨ j % 3 = 2 := by omega
 have hadd : ∀ i, i < 3 → 0 < i → (ad.add (j / 3 * 3 + i)) = ⟨(ad.add (j / 3 * 3)).block, (ad.add (j / 3 * 3)).off + i, none⟩ := by
  intro i _ hi
  have hc := y1
  obtain ⟨b, o, f⟩ := ad
  unfold Addr.add
  split
  ·next hz => omega
  ·split
   ·next hz => simp [hz]
   ·simp; omega
 rcases h3 with h3 | h3 | h3
 ·rw [hj, h3, Nat.add_zero]
  rw [h3] at h2
  rw [y0]; simpa using h2
 ·rw [hj, h3, hadd 1 (by omega) (by omega)]
  rw [h3] at h2
  rw [y1]; simpa using h2
 ·rw [hj, h3, hadd 2 (by omega) (by omega)]
  rw [h3] at h2
  rw [y2]; simpa using h2
theorem NC.of_own {w : World} {B : Nat} {v : Value} {l : List Nt} (h : w.ownsRow B 44 3 v l.length (ncells l)) : Kd.R k44 44 w B (fun _ => True) v l :=
 ⟨fun _ _ => trivial, ncells l, h, by rw [ncells_length]; rfl, fun j p hj => by
  have e := ncells_at l j p hj
  show k44.M _ _ _ p (((ncells l).drop (j * 3)).take 3)
  rw [e]; exact k44_mkM _ _ _ p⟩
def Nr (B : Nat) (w : World) (v : Value) (l : List Nt) : Prop := ∃ A c, v = .slice A l.length c ∧ l.length ≤ c ∧ NC w A l ∧ ∀ ad, A = some ad → 0 < l.length → B ≤ ad.block
theorem Nr.of_R {B B' : Nat} {w : World} {v : Value} {l : List Nt} {ok : Nat → Prop} (h : Kd.R k44 44 w B ok v l) (hB : B' ≤ B) : Nr B' w v l := by
 obtain ⟨A, c, rfl, hc, hC⟩ := Kd.R_reads h
 refine ⟨A, c, rfl, hc, hC, fun ad e hp => ?_⟩
 obtain ⟨g, cap, e2, hg, _⟩ := Kd.R_form h hp
 injection e2 with e2
 rw [e2] at e
 cases e
 exact Nat.le_trans hB hg
theorem Nr.mono {B B' : Nat} {w : World} {v : Value} {l : List Nt} (h : Nr B w v l) (hB : B' ≤ B) : Nr B' w v l := by
 obtain ⟨A, c, e, hc, hC, hf⟩ := h
 exact ⟨A, c, e, hc, hC, fun ad e hp => Nat.le_trans hB (hf ad e hp)⟩
theorem Nr.nil (B : Nat) (w : World) : Nr B w (.slice none 0 0) [] := ⟨none, 0, rfl, Nat.le_refl _, ⟨rfl, by simp [maxLen], fun h => absurd h (by simp)⟩, fun ad e => by cases e⟩
theorem wanted_un {ops : Array Oper} {a : Act} {o og : Oper} {g t : Nat} {u : Bool} (hg : o.guard = some (g, u)) (ho : ops[g]? = some og) (hd : og.dst = some t) (hv : a.tmps[t]? = some undef) : Region.wanted o (yielded ops a.tmps) = false := by
 cases u <;> simp_all [Region.wanted, yielded, undef]
theorem set3 {B : Nat} {w : World} {T : TypeId} {a0 a1 a2 : Value} (h : w.heap[B]? = some (.cells #[a0, a1, a2] T (0, 0))) (y0 y1 y2 : Value) : (((w.setCell ⟨B, 0, none⟩ y0).setCell ⟨B, 1, none⟩ y1).setCell ⟨B, 2, none⟩ y2).heap[B]? = some (.cells #[y0, y1, y2] T (0, 0)) := by
 have h0 : (w.setCell ⟨B, 0, none⟩ y0).heap[B]? = some (.cells #[y0, a1, a2] T (0, 0)) := heap_setCell_same w B 0 _ _ y0 h
 have h1 : ((w.setCell ⟨B, 0, none⟩ y0).setCell ⟨B, 1, none⟩ y1).heap[B]? = some (.cells #[y0, y1, a2] T (0, 0)) := heap_setCell_same (w.setCell ⟨B, 0, none⟩ y0) B 1 _ _ y1 h0
 exact heap_setCell_same ((w.setCell ⟨B, 0, none⟩ y0).setCell ⟨B, 1, none⟩ y1) B 2 _ _ y2 h1
theorem below_set3 {B0 : Nat} {a w : World} (h : Below B0 a w) {B : Nat} (hq : B0 ≤ B) (y0 y1 y2 : Value) : Below B0 a (((w.setCell ⟨B, 0, none⟩ y0).setCell ⟨B, 1, none⟩ y1).setCell ⟨B, 2, none⟩ y2) :=
 ((h.setCell (p := ⟨B, 0, none⟩) hq y0).setCell (p := ⟨B, 1, none⟩) hq y1).setCell (p := ⟨B, 2, none⟩) hq y2
def lessN (a b : Nt) : Bool := if a.f0.f0 = b.f0.f0 then (if a.f0.f1 = b.f0.f1 then decide (a.f1 < b.f1) else decide (a.f0.f1 < b.f0.f1)) else decide (a.f0.f0 < b.f0.f0)
def okX (x : Nt) : Bool := (decide (0 ≤ x.f0.f0) && (decide (x.f0.f0 ≤ x.f0.f1) && decide (x.f0.f1 ≤ 16777216))) && (decide (0 ≤ x.f1) && decide (x.f1 ≤ 65536))
def ahead : Option Nt → Nt → Bool
 | none, _ => true
 | some y, x => lessN y x
def fineR : Option Nt → List Nt → Bool
 | _, [] => true
 | p, x :: l => (okX x && ahead p x) && fineR (some x) l
def fineL (l : List Nt) : Bool := fineR none l && decide (l.length ≤ 4096)
def prevO (l : List Nt) (j : Nat) : Option Nt := if j = 0 then none else some (l.getD (j - 1) z44)
theorem drop_nt {l : List Nt} {j : Nat} (h : j < l.length) : l.drop j = l.getD j z44 :: l.drop (j + 1) := by
 rw [List.drop_eq_getElem_cons h, List.getD_eq_getElem?_getD, List.getElem?_eq_getElem h]; rfl
theorem fine_step {l : List Nt} {j : Nat} (h : j < l.length) : fineR (prevO l j) (l.drop j) = ((okX (l.getD j z44) && ahead (prevO l j) (l.getD j z44)) && fineR (prevO l (j + 1)) (l.drop (j + 1))) := by
 rw [drop_nt h]
 simp only [fineR]
 rw [show prevO l (j + 1) = some (l.getD j z44) from by unfold prevO; rw [if_neg (by omega), Nat.add_sub_cancel]]
theorem prevO_pos {l : List Nt} {j : Nat} (h : 0 < j) : prevO l j = some (l.getD (j - 1) z44) := if_neg (by omega)
theorem okX_spot {x : Nt} (h : ¬ (0 ≤ x.f0.f0 ∧ x.f0.f0 ≤ x.f0.f1 ∧ x.f0.f1 ≤ 16777216)) : okX x = false := by
 unfold okX
 rw [Bool.eq_false_iff]
 simp only [ne_eq, Bool.and_eq_true, decide_eq_true_eq]
 omega
theorem okX_code {x : Nt} (h : ¬ (0 ≤ x.f1 ∧ x.f1 ≤ 65536)) : okX x = false := by
 unfold okX
 rw [Bool.eq_false_iff]
 simp only [ne_eq, Bool.and_eq_true, decide_eq_true_eq]
 omega
theorem okX_yes {x : Nt} (h : 0 ≤ x.f0.f0 ∧ x.f0.f0 ≤ x.f0.f1 ∧ x.f0.f1 ≤ 16777216) (h2 : 0 ≤ x.f1 ∧ x.f1 ≤ 65536) : okX x = true := by
 unfold okX
 simp only [Bool.and_eq_true, decide_eq_true_eq]
 omega
end Go.Proofs.Ytjbnffadfohofaa.NoteN
end
-- MERGED YtjbnffadfohofaaCarryN
section
namespace Go.Proofs.Ytjbnffadfohofaa.CarryN
open Go.RowKit Go.Proofs.Ytjbnffadfohofaa.NoteN Go.Proofs.Ytjbnffadfohofaa.P Go.Proofs.YtjbnffadfohofaaW.PrintWords Go.Proofs.YtjbnffadfohofaaW.PrintLast Go.Proofs.YtjbnffadfohofaaW.PrintMore Go.Proofs.Ytjbnffadfohofaa.Own
set_option linter.unusedSimpArgs false
set_option linter.unusedVariables false
theorem infoNt : (Try.prog.info? 44).map (fun i => (i.zero, i.size, i.bytes)) = some (some (.agg #[.int .i64 0, .int .i64 0, .int .i64 0]), 3, 24) := by kernel_rfl
theorem exec_nt {P : Program} (hP : P = Try.prog) {w : World} {f : Operand → Value} {o : Oper} {s x : Operand} (hop : o.op = Op.call { callee := Callee.builtin Builtin.append, args := #[s, x], argTypes := #[22, 22] })
  {b : Addr} (hs : f s = .slice (some b) 0 0) {A : Option Addr} {c : Nat} {l : List Nt} (he : f x = .slice A l.length c) (hC : NC w A l) (b1 : l.length ≤ 4398046511104) :
  ∃ v' w', (execOp f o).run P w = .ok (.value v') w' ∧ Nr w.heap.size w' v' l ∧ Below w.heap.size w w' := by
 subst hP
 obtain ⟨i0, hi0, hz0, hz1, hz2⟩ := info_parts infoNt
 rcases Nat.eq_zero_or_pos l.length with h0 | hp
 ·obtain rfl : l = [] := List.eq_nil_of_length_eq_zero h0
  have hsrc : Src Try.prog i0.size 22 (.slice A ([] : List Int).length c) 0 [] w := by
   cases A with
   | none => exact Src.ofNil _ Try.underlying22 c
   | some ad => exact Src.ofSlice _ Try.underlying22 ad 0 c [] (by simp) (fun j u hj => by cases j <;> cases hj) (fun u hu => by cases hu)
  have hrun := run_append_nothing (P := Try.prog) w 22 22 o.type 44 i0 Try.underlying22 hi0 (some b) 0 0 (Nat.le_refl _) _ hsrc
  have hrun' : (Builtin.append_ #[22, 22] o.type #[Value.slice (some b) 0 0, Value.slice A 0 c]).run Try.prog w = .ok (.slice (some b) 0 0) w := hrun
  refine ⟨.slice (some b) 0 0, w, ?_, ⟨some b, 0, rfl, Nat.le_refl _, ⟨rfl, by simp [maxLen], fun h => absurd h (by simp)⟩, fun ad e h => absurd h (by simp)⟩, Below.refl _ _⟩
  simp [execOp, hop, resolve, invoke, builtin, hs, he, hrun', Result.andThen]
 ·obtain ⟨ad, hA, _⟩ := hC.2.2 hp
  subst hA
  obtain ⟨v', w', hrun, r1, r2⟩ := run_append_arg_grows (P := Try.prog) w 22 o.type 44 i0 _ 3 24 Try.underlying22 hi0 hz0 hz1 hz2 rfl (by decide) b 0 0 [] rfl (fun j u hu => by cases j <;> cases hu) ad l.length c (ncells l) (ncells_length l) (hC.cells ad rfl) (by omega) (by unfold maxLen; omega) (by omega)
  refine ⟨v', w', ?_, Nr.of_R (NC.of_own (by simpa using r1)) (Nat.le_refl _), (Below.refl _ w).grown r2 (Nat.le_refl _) (fun k e => by cases e)⟩
  simp [execOp, hop, resolve, invoke, builtin, hs, he, hrun, Result.andThen]
theorem wpList_nt {P : Program} (hP : P = Try.prog) {ops : Array Oper} {rest : List Oper} {o : Oper} {a : Act} {w : World} {Q : Exit → Act → World → Prop} {s x : Operand} (hg : o.guard = none)
  (hop : o.op = Op.call { callee := Callee.builtin Builtin.append, args := #[s, x], argTypes := #[22, 22] })
  {b : Addr} (hs : a.eval s = .slice (some b) 0 0) {A : Option Addr} {c : Nat} {l : List Nt} (he : a.eval x = .slice A l.length c) (hC : NC w A l) (b1 : l.length ≤ 4398046511104)
  (hK : ∀ v' w', Nr w.heap.size w' v' l → Below w.heap.size w w' → wpList P ops Q rest (a.put o.dst v') w') : wpList P ops Q (o :: rest) a w := by
 obtain ⟨v', w', hrun, r1, r2⟩ := exec_nt hP (o := o) (f := a.eval) hop hs he hC b1
 refine wpList_plain hg fun K hK' => ?_
 unfold Oper.wp
 rw [hrun]
 exact hK' _ _ (hK v' w' r1 r2)
set_option maxHeartbeats 2000000 in
set_option maxRecDepth 100000 in
theorem clone_n (A : Option Addr) (c : Nat) (l : List Nt) (w : World) (hC : NC w A l) (hl : l.length ≤ 1000000) : Calls Try.prog 31 #[.slice A l.length c] w fun e w' => ∃ v, e = .returned v ∧ Nr w.heap.size w' v l ∧ Below w.heap.size w w' := by
 cases A with
 | none =>
  have hz : l = [] := by
   rcases Nat.eq_zero_or_pos l.length with h | h
   ·exact List.eq_nil_of_length_eq_zero h
   ·obtain ⟨ad, e, _⟩ := hC.2.2 h
    cases e
  subst hz
  clear hC hl
  have he : ∀ W, (binOp .eql 22 (.slice none 0 c) (.slice none 0 0)).run Try.prog W = .ok (.bool true) W := fun W => Lib.run_eql_slice_nil (P := Try.prog) W _ _ none 0 c 0 0 Try.underlying22
  go_enter Try.func31, Try.ntmps31
  go_wp2_with fail
  go_ret
  exact ⟨_, rfl, Nr.nil _ _, Below.refl _ _⟩
 | some ad =>
  have HC := Aside0.mk (hC.below (below_alloc (Below.refl _ _) (.cells #[] 44)))
  have HL := Aside0.mk (show l.length ≤ 4398046511104 by omega)
  clear hC hl
  have he : ∀ W, (binOp .eql 22 (.slice (some ad) l.length c) (.slice none 0 0)).run Try.prog W = .ok (.bool false) W := fun W => Lib.run_eql_slice_nil (P := Try.prog) W _ _ (some ad) l.length c 0 0 Try.underlying22
  go_enter Try.func31, Try.ntmps31
  go_wp2_with (at_builtin; refine wpList_nt rfl rfl rfl rfl rfl HC.out HL.out ?_)
  intro v' w' hg hb
  have HG := Aside0.mk (hg.mono (show w.heap.size ≤ _ by simp))
  have HB := Aside0.mk ((below_alloc (Below.refl w.heap.size w) (.cells #[] 44)).trans (hb.mono (by omega)))
  clear hg hb
  go_wp2_with fail
  go_ret
  exact ⟨_, rfl, HG.out, HB.out⟩
end Go.Proofs.Ytjbnffadfohofaa.CarryN
end
-- MERGED YtjbnffadfohofaaPcarryMove
section
namespace Go.Proofs.Ytjbnffadfohofaa.P
open Go.RowKit Go.Proofs.YtjbnffadfohofaaW.PrintWords Go.Proofs.YtjbnffadfohofaaW.PrintLast Go.Proofs.YtjbnffadfohofaaW.PrintMore
attribute [local go_sem] max2_int min2_int max_two min_two max_three min_three max_four min_four   -- for this text's walks alone
set_option linter.unusedVariables false
set_option linter.unusedSimpArgs false
def carry_Move.l0 : Nat → List (List (S49)) → List (S44) → List (S44) → Int → Int → Option ((List (S44)) × Bool)
 | 0, _, _, _, _, _ => none
 | k + 1, x1, x4, x10, x11, x12 => if x12 < x11 then (if 0 ≤ x12 then (if x12 < (x10.length : Int) then ((place_Over.f k x1 ((rd_T44 x10 x12).f0.f0) ((rd_T44 x10 x12).f0.f1)).bind fun bt185 => (if bt185.2.2 = true then (if x4.length < 5864062014805 then (carry_Move.l0 k x1 (x4 ++ [(⟨(⟨bt185.1, bt185.2.1⟩ : S42), (rd_T44 x10 x12).f1⟩ : S44)]) x10 x11 (wrap64 (x12 + 1))) else (none)) else (some (([] : List (S44)), false)))) else (none)) else (none)) else (some (x4, true))
def carry_Move.f (k : Nat) (l0 : List (S44)) (l1 : List (List (S49))) : Option ((List (S44)) × Bool) := carry_Move.l0 k l1 ([] : List (S44)) l0 (l0.length : Int) 0
set_option maxHeartbeats 8000000 in
set_option maxRecDepth 100000 in
theorem carry_Move.calls (k : Nat) (A0 : Option Addr) (c0 : Nat) (l0 : List (S44)) (A1 : Option Addr) (c1 : Nat) (l1 : List (List (S49))) (r1 : List (S44)) (r2 : Bool) (w : World) (hr0 : Kd.C k44 w A0 l0.length l0) (hc0 : l0.length ≤ c0) (hr1 : Kd.C (Kd.slice 49 k49) w A1 l1.length l1) (hc1 : l1.length ≤ c1) (h : carry_Move.f k l0 l1 = some (r1, r2)) :
  Calls Try.prog 9 #[.slice A0 l0.length c0, .slice A1 l1.length c1] w fun e w' => ∃ v0_ : Value, e = .returned (.tuple #[v0_, .bool r2]) ∧ Kd.R k44 44 w' w.heap.size (fun _ => True) v0_ r1 ∧ Below w.heap.size w w' := by
 have hu44 := Try.underlying44
 have hu42 := Try.underlying42
 have HR0 := Aside0.mk hr0
 have HC0 := Aside0.mk hc0
 clear hr0 hc0
 have HR1 := Aside0.mk hr1
 have HC1 := Aside0.mk hc1
 clear hr1 hc1
 have HB := Aside0.mk (Below.refl w.heap.size w)
 have H : (carry_Move.l0 k l1 ([] : List (S44)) l0 (l0.length : Int) 0) = some (r1, r2) := h
 clear h
 have H' := Aside0.mk H
 clear H
 go_enter Try.func9, Try.ntmps9
 go_wp2
 go_loopg [4, 12] k (fun kq v4 v12 w' => ∃ (x4_1 : List (S44)) (x12_1 : Int), v12 = .int .i64 x12_1 ∧ Aside0 (carry_Move.l0 kq l1 x4_1 l0 (l0.length : Int) x12_1 = some (r1, r2)) ∧ Aside0 (kq ≤ k) ∧ Aside0 (Kd.R k44 44 w' w.heap.size (fun _ => True) v4 x4_1) ∧ Aside0 (Below w.heap.size w w'))
 case atStart => exact ⟨(([] : List (S44))), (0), (by (rfl)), H', ⟨Nat.le_refl _⟩, ⟨by (exact Kd.R_nil _ _ _ _ _)⟩, ⟨by repeat ((with_reducible (exact HB.out)))⟩⟩
 case round =>
  clear H'
  try clear c1
  try clear p2
  obtain ⟨x4_1, x12_1, rfl, HA, HK1, HO_4, HB⟩ := hrel
  cases gk with
  | zero => exact absurd HA.out (by simp [carry_Move.l0])
  | succ k1 =>
   have H := HA.out
   clear HA
   simp only [carry_Move.l0] at H
   by_cases c3 : x12_1 < (l0.length : Int)
   ·rw [if_pos c3] at H
    have c3b0 : decide (x12_1 < (l0.length : Int)) = true := decide_eq_true c3
    clear c3
    by_cases c4 : 0 ≤ x12_1
    ·rw [if_pos c4] at H
     have c4b0 : decide (0 ≤ x12_1) = true := decide_eq_true c4
     clear c4
     by_cases c5 : x12_1 < (l0.length : Int)
     ·rw [if_pos c5] at H
      have c5b0 : decide (x12_1 < (l0.length : Int)) = true := decide_eq_true c5
      clear c5
      replace H := Option.bind_eq_some_iff.mp H
      obtain ⟨⟨t185, t186, t187⟩, A60, H⟩ := H
      replace H : (if t187 = true then (if x4_1.length < 5864062014805 then (carry_Move.l0 k1 l1 (x4_1 ++ [(⟨(⟨t185, t186⟩ : S42), (rd_T44 l0 x12_1).f1⟩ : S44)]) l0 (l0.length : Int) (wrap64 (x12_1 + 1))) else (none)) else (some (([] : List (S44)), false))) = some (r1, r2) := H
      have A6 := Aside0.mk A60
      clear A60
      by_cases c7 : t187 = true
      ·subst c7
       have H1 : (if x4_1.length < 5864062014805 then (carry_Move.l0 k1 l1 (x4_1 ++ [(⟨(⟨t185, t186⟩ : S42), (rd_T44 l0 x12_1).f1⟩ : S44)]) l0 (l0.length : Int) (wrap64 (x12_1 + 1))) else (none)) = some (r1, r2) := by rw [if_pos rfl] at H; exact H
       clear H
       have H := H1
       clear H1
       by_cases c8 : x4_1.length < 5864062014805
       ·rw [if_pos c8] at H
        have LMc8 := Aside0.mk c8
        clear c8
        obtain ⟨y189, hy189⟩ : ∃ y_ : List (S44), y_ = (x4_1 ++ [(⟨(⟨t185, t186⟩ : S42), (rd_T44 l0 x12_1).f1⟩ : S44)]) := ⟨_, rfl⟩
        replace H : (carry_Move.l0 k1 l1 y189 l0 (l0.length : Int) (wrap64 (x12_1 + 1))) = some (r1, r2) := by (rw [hy189]; with_reducible exact H)
        have Ny189 := Aside0.mk hy189
        clear hy189
        have H' := Aside0.mk H
        clear H
        have p183 : 0 ≤ (x12_1 : Int) := of_decide_eq_true (by (with_reducible assumption))
        have q183 : x12_1 < (l0.length : Int) := of_decide_eq_true (by (with_reducible assumption))
        obtain ⟨ad183, e183, hx183_0, hx183_1, hx183_2⟩ := at_T44 HR0.out x12_1 p183 q183
        cases e183
        replace hx183_0 := (HB.out.cell (World.block_lt_of_cell? w _ hx183_0)).trans hx183_0
        replace hx183_1 := (HB.out.cell (World.block_lt_of_cell? w _ hx183_1)).trans hx183_1
        replace hx183_2 := (HB.out.cell (World.block_lt_of_cell? w _ hx183_2)).trans hx183_2
        replace p183 := eq_true p183
        replace q183 := eq_true q183
        go_wp2_with (first | ((with_reducible refine gate_dst (N := 7) rfl ?_); refine box_event ?hg (N := 7) ?hd (cs := #[.int .i64 0, .int .i64 0, .int .i64 0]) (t := 44) ?hr ?_; (case hd => rfl); (case hg => rfl); (case hr => (go_simp; done)); intro gb184 hg w9 hbox hb; have n0_ := Aside0.mk (Kd.R_below (Kd.R_elderB (by (with_reducible repeat ((apply Kd.R_drew))); exact HO_4.out) gb184 (Nat.le_of_eq hg.symm)) hb); have n1_ := Aside0.mk (below_step (by repeat ((with_reducible (exact HB.out)))) hb); have n2_ := Aside0.mk (hbox); have n3_ := Aside0.mk ((by rw [hg]; exact (below_size (by repeat ((with_reducible (exact HB.out))))) : w.heap.size ≤ gb184)); have n4_ := Aside0.mk ((by rw [hg]; exact (below_size (by repeat ((with_reducible (exact HB.out))))) : w.heap.size ≤ gb184)); clear HO_4; clear HB; have HO_4 := n0_; have HB := n1_; have BK184 := n2_; have GW184 := n3_; have GE184 := n4_; clear n0_ n1_ n2_ n3_ n4_; clear hb hbox hg; have hcz10_0 : w9.cell? ⟨gb184, 0, none⟩ = some (.int .i64 0) := (blk_cell BK184.out 0).trans rfl; have hcz10_1 : w9.cell? ⟨gb184, 1, none⟩ = some (.int .i64 0) := (blk_cell BK184.out 1).trans rfl; have hcz10_2 : w9.cell? ⟨gb184, 2, none⟩ = some (.int .i64 0) := (blk_cell BK184.out 2).trans rfl; have hfz10_0 := blk_frozen BK184.out 0; have hfz10_1 := blk_frozen BK184.out 1; have hfz10_2 := blk_frozen BK184.out 2) | ((with_reducible refine gate_callee (f := 23) rfl ?_); refine goesL_ (some 20) rfl rfl Try.func23 (by kernel_rfl) rfl #[.slice A1 l1.length c1, .agg #[.int .i64 ((rd_T44 l0 x12_1).f0.f0), .int .i64 ((rd_T44 l0 x12_1).f0.f1)]] rfl (by (try simp only [List.map_toArray, List.map_cons, List.map_nil]); (rfl)) ?_; (with_reducible refine (place_Over.calls k1 _ _ l1 ((rd_T44 l0 x12_1).f0.f0) ((rd_T44 l0 x12_1).f0.f1) t185 t186 true _ ?side1 ?side2 A6.out).mono ?_); (case side1 => exact Kd.C_below HR1.out (by repeat ((with_reducible first | exact HB.out | refine below_set ?_ GE184.out)))); (case side2 => exact HC1.out); rintro e w11 ⟨rfl, hb⟩; refine ⟨_, rfl, ?_⟩; have n0_ := Aside0.mk (Kd.R_below (by (with_reducible repeat ((apply Kd.R_drew))); exact (Kd.R_mono (Kd.R_far (p := ⟨gb184, 2, none⟩) (Kd.R_far (p := ⟨gb184, 1, none⟩) (Kd.R_far (p := ⟨gb184, 0, none⟩) (Kd.R_mono HO_4.out (fun k_ hk => (⟨hk, hk.2⟩ : _ ∧ k_ ≠ gb184))) (fun _ hk => hk.2) (.int .i64 ((rd_T44 l0 x12_1).f0.f0))) (fun _ hk => hk.2) (.int .i64 ((rd_T44 l0 x12_1).f0.f1))) (fun _ hk => hk.2) (.int .i64 ((rd_T44 l0 x12_1).f1))) (fun _ h_ => h_.1))) hb); have n1_ := Aside0.mk (blk_below (g := gb184) (o := .cells #[.int .i64 ((rd_T44 l0 x12_1).f0.f0), .int .i64 ((rd_T44 l0 x12_1).f0.f1), .int .i64 ((rd_T44 l0 x12_1).f1)] 44 (0, 0)) (by (with_reducible repeat ((refine blk_drew ?_))); refine blk_put (cs := #[.int .i64 ((rd_T44 l0 x12_1).f0.f0), .int .i64 ((rd_T44 l0 x12_1).f0.f1), .int .i64 0]) ?_ 2 _ rfl; (with_reducible repeat ((refine blk_drew ?_))); refine blk_put (cs := #[.int .i64 ((rd_T44 l0 x12_1).f0.f0), .int .i64 0, .int .i64 0]) ?_ 1 _ rfl; (with_reducible repeat ((refine blk_drew ?_))); refine blk_put (cs := #[.int .i64 0, .int .i64 0, .int .i64 0]) ?_ 0 _ rfl; (with_reducible repeat ((refine blk_drew ?_))); exact BK184.out) hb); have n2_ := Aside0.mk (below_step (by repeat ((with_reducible first | exact HB.out | refine below_set ?_ GE184.out))) hb); clear HO_4; clear BK184; clear HB; have HO_4 := n0_; have BK184 := n1_; have HB := n2_; clear n0_ n1_ n2_; (try clear hb); (try clear hb2); (try clear hk); (try clear hi)) | ((with_reducible refine gate_dst (N := 8) rfl ?_); refine box_event ?hg (N := 8) ?hd (cs := #[.int .i64 0, .int .i64 0]) (t := 42) ?hr ?_; (case hd => rfl); (case hg => rfl); (case hr => (go_simp; done)); intro gb188 hg w12 hbox hb; have n0_ := Aside0.mk (Kd.R_below (by (with_reducible repeat ((apply Kd.R_drew))); exact HO_4.out) hb); have n1_ := Aside0.mk (blk_below (g := gb184) (o := .cells #[.int .i64 ((rd_T44 l0 x12_1).f0.f0), .int .i64 ((rd_T44 l0 x12_1).f0.f1), .int .i64 ((rd_T44 l0 x12_1).f1)] 44 (0, 0)) (by (with_reducible repeat ((refine blk_drew ?_))); exact BK184.out) hb); have n2_ := Aside0.mk (below_step (by repeat ((with_reducible (exact HB.out)))) hb); have n3_ := Aside0.mk (hbox); have n4_ := Aside0.mk ((by rw [hg]; exact (below_size (by repeat ((with_reducible (exact HB.out))))) : w.heap.size ≤ gb188)); have n5_ := Aside0.mk ((by rw [hg]; exact (below_size (by repeat ((with_reducible (exact HB.out))))) : w.heap.size ≤ gb188)); have n6_ := Aside0.mk ((by rw [hg]; exact Nat.ne_of_lt (blk_lt (g := gb184) (o := .cells #[.int .i64 ((rd_T44 l0 x12_1).f0.f0), .int .i64 ((rd_T44 l0 x12_1).f0.f1), .int .i64 ((rd_T44 l0 x12_1).f1)] 44 (0, 0)) (by (with_reducible repeat ((refine blk_drew ?_))); exact BK184.out)) : gb184 ≠ gb188)); have n7_ := Aside0.mk ((by rw [hg]; exact Nat.ne_of_gt (blk_lt (g := gb184) (o := .cells #[.int .i64 ((rd_T44 l0 x12_1).f0.f0), .int .i64 ((rd_T44 l0 x12_1).f0.f1), .int .i64 ((rd_T44 l0 x12_1).f1)] 44 (0, 0)) (by (with_reducible repeat ((refine blk_drew ?_))); exact BK184.out)) : gb188 ≠ gb184)); clear HO_4; clear BK184; clear HB; have HO_4 := n0_; have BK184 := n1_; have HB := n2_; have BK188 := n3_; have GW188 := n4_; have GE188 := n5_; have NB184_188 := n6_; have NB188_184 := n7_; clear n0_ n1_ n2_ n3_ n4_ n5_ n6_ n7_; clear hb hbox hg; have hnb13 := NB188_184.out; have hnc13 := NB184_188.out; have hcz14_0 : w12.cell? ⟨gb188, 0, none⟩ = some (.int .i64 0) := (blk_cell BK188.out 0).trans rfl; have hcz14_1 : w12.cell? ⟨gb188, 1, none⟩ = some (.int .i64 0) := (blk_cell BK188.out 1).trans rfl; have hfz14_0 := blk_frozen BK188.out 0; have hfz14_1 := blk_frozen BK188.out 1; have hcz15_0 : w12.cell? ⟨gb184, 0, none⟩ = some (.int .i64 ((rd_T44 l0 x12_1).f0.f0)) := (blk_cell BK184.out 0).trans rfl; have hcz15_1 : w12.cell? ⟨gb184, 1, none⟩ = some (.int .i64 ((rd_T44 l0 x12_1).f0.f1)) := (blk_cell BK184.out 1).trans rfl; have hcz15_2 : w12.cell? ⟨gb184, 2, none⟩ = some (.int .i64 ((rd_T44 l0 x12_1).f1)) := (blk_cell BK184.out 2).trans rfl; have hfz15_0 := blk_frozen BK184.out 0; have hfz15_1 := blk_frozen BK184.out 1; have hfz15_2 := blk_frozen BK184.out 2) | ((with_reducible refine gate_builtin (b := .append) (xs := #[.tmp 25, .tmp 30]) rfl ?_); at_builtin; refine Kd.R_append k44 (w0 := w) w.heap.size rfl (.tmp 25) (.tmp 30) 22 44 (.agg #[(.int .i64 0), (.int .i64 0), (.int .i64 0)]) 24 rfl Try.underlying22 info44 rfl (by decide) (by omega) u4 x4_1 (⟨(⟨t185, t186⟩ : S42), (rd_T44 l0 x12_1).f1⟩ : S44) [.int .i64 t185, .int .i64 t186, .int .i64 ((rd_T44 l0 x12_1).f1)] (fun k_ => k_ ≠ gb184) (fun _ => False) rfl (by (go_simp; done)) ?aP (fun _ hk => hk.elim) ?aF ?aO ?aB ?aS ?aL ?_; (case aP => exact k44_mkM _ _ _ (⟨(⟨t185, t186⟩ : S42), (rd_T44 l0 x12_1).f1⟩ : S44)); (case aB => exact (by repeat ((with_reducible first | exact HB.out | refine below_set ?_ GE188.out)))); (case aF => exact (fun k_ hk => Kd.freshB (g := gb184) (o := .cells #[.int .i64 ((rd_T44 l0 x12_1).f0.f0), .int .i64 ((rd_T44 l0 x12_1).f0.f1), .int .i64 ((rd_T44 l0 x12_1).f1)] 44 (0, 0)) (by (with_reducible repeat ((refine blk_drew ?_))); refine blk_far ?_ NB184_188.out _; (with_reducible repeat ((refine blk_drew ?_))); refine blk_far ?_ NB184_188.out _; (with_reducible repeat ((refine blk_drew ?_))); exact BK184.out) k_ hk)); (case aO => exact (by (with_reducible repeat ((apply Kd.R_drew))); exact Kd.R_mono (Kd.R_far (p := ⟨gb188, 1, none⟩) (Kd.R_far (p := ⟨gb188, 0, none⟩) (Kd.R_types HO_4.out BK188.out (by decide)) (fun _ hk => hk.2) (.int .i64 t185)) (fun _ hk => hk.2) (.int .i64 t186)) (fun _ hk => hk.1.2))); (case aS => exact (below_size (by repeat ((with_reducible first | exact HB.out | refine below_set ?_ GE188.out))))); (case aL => have := LMc8.out; omega); intro v190 w16 ho hb hg hat; rw [← Ny189.out] at ho; have n0_ := Aside0.mk (blk_grown (g := gb184) (o := .cells #[.int .i64 ((rd_T44 l0 x12_1).f0.f0), .int .i64 ((rd_T44 l0 x12_1).f0.f1), .int .i64 ((rd_T44 l0 x12_1).f1)] 44 (0, 0)) (by (with_reducible repeat ((refine blk_drew ?_))); refine blk_far ?_ NB184_188.out _; (with_reducible repeat ((refine blk_drew ?_))); refine blk_far ?_ NB184_188.out _; (with_reducible repeat ((refine blk_drew ?_))); exact BK184.out) hg (Kd.R_away HO_4.out (fun _ hk => hk.2))); have n1_ := Aside0.mk (blk_grown (g := gb188) (o := .cells #[.int .i64 t185, .int .i64 t186] 42 (0, 0)) (by (with_reducible repeat ((refine blk_drew ?_))); refine blk_put (cs := #[.int .i64 t185, .int .i64 0]) ?_ 1 _ rfl; (with_reducible repeat ((refine blk_drew ?_))); refine blk_put (cs := #[.int .i64 0, .int .i64 0]) ?_ 0 _ rfl; (with_reducible repeat ((refine blk_drew ?_))); exact BK188.out) hg (Kd.R_ne HO_4.out BK188.out (by decide))); have n2_ := Aside0.mk (hb); have n3_ := Aside0.mk (ho); clear BK184; clear BK188; clear HB; clear HO_4; have BK184 := n0_; have BK188 := n1_; have HB := n2_; have HO191 := n3_; clear n0_ n1_ n2_ n3_; clear ho hb hg hat))
        go_roundg k1
        case measure => have := HK1.out; omega
        case rel => exact ⟨(y189), (wrap64 (x12_1 + 1)), (by (rfl)), H', ⟨by have := HK1.out; omega⟩, ⟨by (with_reducible repeat ((apply Kd.R_drew))); exact Kd.R_mono HO191.out (fun _ hk => trivial)⟩, ⟨by repeat ((with_reducible (exact HB.out)))⟩⟩
       ·rw [if_neg c8] at H
        exact absurd H (by simp)
      ·replace c7 := Bool.eq_false_iff.mpr c7
       subst c7
       have H1 : (some (([] : List (S44)), false)) = some (r1, r2) := by rw [if_neg (show ¬ (false = true) by decide)] at H; exact H
       clear H
       have H := H1
       clear H1
       simp only [Option.some.injEq, Prod.mk.injEq] at H
       obtain ⟨rfl, rfl⟩ := H
       have p183 : 0 ≤ (x12_1 : Int) := of_decide_eq_true (by (with_reducible assumption))
       have q183 : x12_1 < (l0.length : Int) := of_decide_eq_true (by (with_reducible assumption))
       obtain ⟨ad183, e183, hx183_0, hx183_1, hx183_2⟩ := at_T44 HR0.out x12_1 p183 q183
       cases e183
       replace hx183_0 := (HB.out.cell (World.block_lt_of_cell? w _ hx183_0)).trans hx183_0
       replace hx183_1 := (HB.out.cell (World.block_lt_of_cell? w _ hx183_1)).trans hx183_1
       replace hx183_2 := (HB.out.cell (World.block_lt_of_cell? w _ hx183_2)).trans hx183_2
       replace p183 := eq_true p183
       replace q183 := eq_true q183
       go_wp2_with (first | ((with_reducible refine gate_dst (N := 7) rfl ?_); refine box_event ?hg (N := 7) ?hd (cs := #[.int .i64 0, .int .i64 0, .int .i64 0]) (t := 44) ?hr ?_; (case hd => rfl); (case hg => rfl); (case hr => (go_simp; done)); intro gb184 hg w17 hbox hb; have n0_ := Aside0.mk (Kd.R_below (Kd.R_elderB (by (with_reducible repeat ((apply Kd.R_drew))); exact HO_4.out) gb184 (Nat.le_of_eq hg.symm)) hb); have n1_ := Aside0.mk (below_step (by repeat ((with_reducible (exact HB.out)))) hb); have n2_ := Aside0.mk (hbox); have n3_ := Aside0.mk ((by rw [hg]; exact (below_size (by repeat ((with_reducible (exact HB.out))))) : w.heap.size ≤ gb184)); have n4_ := Aside0.mk ((by rw [hg]; exact (below_size (by repeat ((with_reducible (exact HB.out))))) : w.heap.size ≤ gb184)); clear HO_4; clear HB; have HO_4 := n0_; have HB := n1_; have BK184 := n2_; have GW184 := n3_; have GE184 := n4_; clear n0_ n1_ n2_ n3_ n4_; clear hb hbox hg; have hcz18_0 : w17.cell? ⟨gb184, 0, none⟩ = some (.int .i64 0) := (blk_cell BK184.out 0).trans rfl; have hcz18_1 : w17.cell? ⟨gb184, 1, none⟩ = some (.int .i64 0) := (blk_cell BK184.out 1).trans rfl; have hcz18_2 : w17.cell? ⟨gb184, 2, none⟩ = some (.int .i64 0) := (blk_cell BK184.out 2).trans rfl; have hfz18_0 := blk_frozen BK184.out 0; have hfz18_1 := blk_frozen BK184.out 1; have hfz18_2 := blk_frozen BK184.out 2) | ((with_reducible refine gate_callee (f := 23) rfl ?_); refine goesL_ (some 20) rfl rfl Try.func23 (by kernel_rfl) rfl #[.slice A1 l1.length c1, .agg #[.int .i64 ((rd_T44 l0 x12_1).f0.f0), .int .i64 ((rd_T44 l0 x12_1).f0.f1)]] rfl (by (try simp only [List.map_toArray, List.map_cons, List.map_nil]); (rfl)) ?_; (with_reducible refine (place_Over.calls k1 _ _ l1 ((rd_T44 l0 x12_1).f0.f0) ((rd_T44 l0 x12_1).f0.f1) t185 t186 false _ ?side1 ?side2 A6.out).mono ?_); (case side1 => exact Kd.C_below HR1.out (by repeat ((with_reducible first | exact HB.out | refine below_set ?_ GE184.out)))); (case side2 => exact HC1.out); rintro e w19 ⟨rfl, hb⟩; refine ⟨_, rfl, ?_⟩; have n0_ := Aside0.mk (Kd.R_below (by (with_reducible repeat ((apply Kd.R_drew))); exact (Kd.R_mono (Kd.R_far (p := ⟨gb184, 2, none⟩) (Kd.R_far (p := ⟨gb184, 1, none⟩) (Kd.R_far (p := ⟨gb184, 0, none⟩) (Kd.R_mono HO_4.out (fun k_ hk => (⟨hk, hk.2⟩ : _ ∧ k_ ≠ gb184))) (fun _ hk => hk.2) (.int .i64 ((rd_T44 l0 x12_1).f0.f0))) (fun _ hk => hk.2) (.int .i64 ((rd_T44 l0 x12_1).f0.f1))) (fun _ hk => hk.2) (.int .i64 ((rd_T44 l0 x12_1).f1))) (fun _ h_ => h_.1))) hb); have n1_ := Aside0.mk (blk_below (g := gb184) (o := .cells #[.int .i64 ((rd_T44 l0 x12_1).f0.f0), .int .i64 ((rd_T44 l0 x12_1).f0.f1), .int .i64 ((rd_T44 l0 x12_1).f1)] 44 (0, 0)) (by (with_reducible repeat ((refine blk_drew ?_))); refine blk_put (cs := #[.int .i64 ((rd_T44 l0 x12_1).f0.f0), .int .i64 ((rd_T44 l0 x12_1).f0.f1), .int .i64 0]) ?_ 2 _ rfl; (with_reducible repeat ((refine blk_drew ?_))); refine blk_put (cs := #[.int .i64 ((rd_T44 l0 x12_1).f0.f0), .int .i64 0, .int .i64 0]) ?_ 1 _ rfl; (with_reducible repeat ((refine blk_drew ?_))); refine blk_put (cs := #[.int .i64 0, .int .i64 0, .int .i64 0]) ?_ 0 _ rfl; (with_reducible repeat ((refine blk_drew ?_))); exact BK184.out) hb); have n2_ := Aside0.mk (below_step (by repeat ((with_reducible first | exact HB.out | refine below_set ?_ GE184.out))) hb); clear HO_4; clear BK184; clear HB; have HO_4 := n0_; have BK184 := n1_; have HB := n2_; clear n0_ n1_ n2_; (try clear hb); (try clear hb2); (try clear hk); (try clear hi)) | ((with_reducible refine gate_dst (N := 8) rfl ?_); refine box_event ?hg (N := 8) ?hd (cs := #[.int .i64 0, .int .i64 0]) (t := 42) ?hr ?_; (case hd => rfl); (case hg => rfl); (case hr => (go_simp; done)); intro gb188 hg w20 hbox hb; have n0_ := Aside0.mk (Kd.R_below (by (with_reducible repeat ((apply Kd.R_drew))); exact HO_4.out) hb); have n1_ := Aside0.mk (blk_below (g := gb184) (o := .cells #[.int .i64 ((rd_T44 l0 x12_1).f0.f0), .int .i64 ((rd_T44 l0 x12_1).f0.f1), .int .i64 ((rd_T44 l0 x12_1).f1)] 44 (0, 0)) (by (with_reducible repeat ((refine blk_drew ?_))); exact BK184.out) hb); have n2_ := Aside0.mk (below_step (by repeat ((with_reducible (exact HB.out)))) hb); have n3_ := Aside0.mk (hbox); have n4_ := Aside0.mk ((by rw [hg]; exact (below_size (by repeat ((with_reducible (exact HB.out))))) : w.heap.size ≤ gb188)); have n5_ := Aside0.mk ((by rw [hg]; exact (below_size (by repeat ((with_reducible (exact HB.out))))) : w.heap.size ≤ gb188)); have n6_ := Aside0.mk ((by rw [hg]; exact Nat.ne_of_lt (blk_lt (g := gb184) (o := .cells #[.int .i64 ((rd_T44 l0 x12_1).f0.f0), .int .i64 ((rd_T44 l0 x12_1).f0.f1), .int .i64 ((rd_T44 l0 x12_1).f1)] 44 (0, 0)) (by (with_reducible repeat ((refine blk_drew ?_))); exact BK184.out)) : gb184 ≠ gb188)); have n7_ := Aside0.mk ((by rw [hg]; exact Nat.ne_of_gt (blk_lt (g := gb184) (o := .cells #[.int .i64 ((rd_T44 l0 x12_1).f0.f0), .int .i64 ((rd_T44 l0 x12_1).f0.f1), .int .i64 ((rd_T44 l0 x12_1).f1)] 44 (0, 0)) (by (with_reducible repeat ((refine blk_drew ?_))); exact BK184.out)) : gb188 ≠ gb184)); clear HO_4; clear BK184; clear HB; have HO_4 := n0_; have BK184 := n1_; have HB := n2_; have BK188 := n3_; have GW188 := n4_; have GE188 := n5_; have NB184_188 := n6_; have NB188_184 := n7_; clear n0_ n1_ n2_ n3_ n4_ n5_ n6_ n7_; clear hb hbox hg; have hnb21 := NB188_184.out; have hnc21 := NB184_188.out; have hcz22_0 : w20.cell? ⟨gb188, 0, none⟩ = some (.int .i64 0) := (blk_cell BK188.out 0).trans rfl; have hcz22_1 : w20.cell? ⟨gb188, 1, none⟩ = some (.int .i64 0) := (blk_cell BK188.out 1).trans rfl; have hfz22_0 := blk_frozen BK188.out 0; have hfz22_1 := blk_frozen BK188.out 1))
       go_ret2
       exact ⟨_, by (rfl), by (exact Kd.R_nil _ _ _ _ _), by repeat ((with_reducible first | exact HB.out | refine below_set ?_ GE188.out))⟩
     ·rw [if_neg c5] at H
      exact absurd H (by simp)
    ·rw [if_neg c4] at H
     exact absurd H (by simp)
   ·rw [if_neg c3] at H
    have c3b0 : decide (x12_1 < (l0.length : Int)) = false := decide_eq_false c3
    clear c3
    simp only [Option.some.injEq, Prod.mk.injEq] at H
    obtain ⟨rfl, rfl⟩ := H
    go_wp2
    go_ret2
    exact ⟨_, by (rfl), by (with_reducible repeat ((apply Kd.R_drew))); exact HO_4.out, by repeat ((with_reducible (exact HB.out)))⟩
end Go.Proofs.Ytjbnffadfohofaa.P
end
-- MERGED YtjbnffadfohofaaPvariorumref36Move
section
namespace Go.Proofs.Ytjbnffadfohofaa.P
open Go.RowKit Go.Proofs.YtjbnffadfohofaaW.PrintWords Go.Proofs.YtjbnffadfohofaaW.PrintLast Go.Proofs.YtjbnffadfohofaaW.PrintMore
attribute [local go_sem] max2_int min2_int max_two min_two max_three min_three max_four min_four   -- for this text's walks alone
set_option linter.unusedVariables false
set_option linter.unusedSimpArgs false
def variorumref36_Move.l0 : Nat → List (S44) → List (List (S49)) → List (S44) → Int → Option ((List (S44)) × Bool)
 | 0, _, _, _, _ => none
 | k + 1, x0, x1, x6, x7 => if x7 < (x0.length : Int) then (if 0 ≤ x7 then ((variorumref10_Over.f k x1 ((rd_T44 x0 x7).f0.f0) ((rd_T44 x0 x7).f0.f1)).bind fun bt266 => (if bt266.2.2 = true then (if x6.length < 5864062014805 then (variorumref36_Move.l0 k x0 x1 (x6 ++ [(⟨(⟨bt266.1, bt266.2.1⟩ : S42), (rd_T44 x0 x7).f1⟩ : S44)]) (wrap64 (x7 + 1))) else (none)) else (some (([] : List (S44)), false)))) else (none)) else (some (x6, true))
def variorumref36_Move.f (k : Nat) (l0 : List (S44)) (l1 : List (List (S49))) : Option ((List (S44)) × Bool) := variorumref36_Move.l0 k l0 l1 ([] : List (S44)) 0
def variorumref36_Move.T8 : Bool × List (List Nat × List Nat) := (true, [([], []), ([], []), ([], []), ([], []), ([2, 3], [2, 3]), ([4], [4]), ([5], [5]), ([1, 6], [1, 6]), ([7], [7]), ([0, 8], [0, 8]), ([9, 9, 0, 1, 2, 3, 4, 5, 6, 7, 8, 9], [0, 9])])
def variorumref36_Move.B8 : List Nat := [0, 0, 0, 0, 12, 28, 60, 126, 254, 511, 1023]
theorem variorumref36_Move.tab8 : rtab .any (opsOf Try.f10 8) = variorumref36_Move.T8 := by kernel_rfl
theorem variorumref36_Move.bits8 : waitsOk variorumref36_Move.T8.2 variorumref36_Move.B8 = true := by kernel_rfl
set_option maxHeartbeats 8000000 in
set_option maxRecDepth 100000 in
theorem variorumref36_Move.calls (k : Nat) (A0 : Option Addr) (c0 : Nat) (l0 : List (S44)) (A1 : Option Addr) (c1 : Nat) (l1 : List (List (S49))) (r1 : List (S44)) (r2 : Bool) (w : World) (hr0 : Kd.C k44 w A0 l0.length l0) (hc0 : l0.length ≤ c0) (hr1 : Kd.C (Kd.slice 49 k49) w A1 l1.length l1) (hc1 : l1.length ≤ c1) (h : variorumref36_Move.f k l0 l1 = some (r1, r2)) :
  Calls Try.prog 10 #[.slice A0 l0.length c0, .slice A1 l1.length c1] w fun e w' => ∃ v0_ : Value, e = .returned (.tuple #[v0_, .bool r2]) ∧ Kd.R k44 44 w' w.heap.size (fun _ => True) v0_ r1 ∧ Below w.heap.size w w' := by
 have hu42 := Try.underlying42
 have hu44 := Try.underlying44
 have HR0 := Aside0.mk hr0
 have HC0 := Aside0.mk hc0
 clear hr0 hc0
 have HR1 := Aside0.mk hr1
 have HC1 := Aside0.mk hc1
 clear hr1 hc1
 have HB := Aside0.mk (Below.refl w.heap.size w)
 have H : (variorumref36_Move.l0 k l0 l1 ([] : List (S44)) 0) = some (r1, r2) := h
 clear h
 have H' := Aside0.mk H
 clear H
 go_enter Try.func10, Try.ntmps10
 go_wp2
 go_loopg [6, 7] k (fun kq v6 v7 w' => ∃ (x6_1 : List (S44)) (x7_1 : Int), v7 = .int .i64 x7_1 ∧ Aside0 (variorumref36_Move.l0 kq l0 l1 x6_1 x7_1 = some (r1, r2)) ∧ Aside0 (kq ≤ k) ∧ Aside0 (Kd.R k44 44 w' w.heap.size (fun _ => True) v6 x6_1) ∧ Aside0 (Below w.heap.size w w'))
 case atStart => exact ⟨(([] : List (S44))), (0), (by (rfl)), H', ⟨Nat.le_refl _⟩, ⟨by (exact Kd.R_nil _ _ _ _ _)⟩, ⟨by repeat ((with_reducible (exact HB.out)))⟩⟩
 case round =>
  clear H'
  try clear c1
  try clear p2
  obtain ⟨x6_1, x7_1, rfl, HA, HK1, HO_6, HB⟩ := hrel
  cases gk with
  | zero => exact absurd HA.out (by simp [variorumref36_Move.l0])
  | succ k1 =>
   have H := HA.out
   clear HA
   simp only [variorumref36_Move.l0] at H
   by_cases c3 : x7_1 < (l0.length : Int)
   ·rw [if_pos c3] at H
    have c3b0 : decide (x7_1 < (l0.length : Int)) = true := decide_eq_true c3
    clear c3
    by_cases c4 : 0 ≤ x7_1
    ·rw [if_pos c4] at H
     have c4b0 : decide (0 ≤ x7_1) = true := decide_eq_true c4
     clear c4
     replace H := Option.bind_eq_some_iff.mp H
     obtain ⟨⟨t266, t267, t268⟩, A50, H⟩ := H
     replace H : (if t268 = true then (if x6_1.length < 5864062014805 then (variorumref36_Move.l0 k1 l0 l1 (x6_1 ++ [(⟨(⟨t266, t267⟩ : S42), (rd_T44 l0 x7_1).f1⟩ : S44)]) (wrap64 (x7_1 + 1))) else (none)) else (some (([] : List (S44)), false))) = some (r1, r2) := H
     have A5 := Aside0.mk A50
     clear A50
     by_cases c6 : t268 = true
     ·subst c6
      have H1 : (if x6_1.length < 5864062014805 then (variorumref36_Move.l0 k1 l0 l1 (x6_1 ++ [(⟨(⟨t266, t267⟩ : S42), (rd_T44 l0 x7_1).f1⟩ : S44)]) (wrap64 (x7_1 + 1))) else (none)) = some (r1, r2) := by rw [if_pos rfl] at H; exact H
      clear H
      have H := H1
      clear H1
      by_cases c7 : x6_1.length < 5864062014805
      ·rw [if_pos c7] at H
       have LMc7 := Aside0.mk c7
       clear c7
       obtain ⟨y271, hy271⟩ : ∃ y_ : List (S44), y_ = (x6_1 ++ [(⟨(⟨t266, t267⟩ : S42), (rd_T44 l0 x7_1).f1⟩ : S44)]) := ⟨_, rfl⟩
       replace H : (variorumref36_Move.l0 k1 l0 l1 y271 (wrap64 (x7_1 + 1))) = some (r1, r2) := by (rw [hy271]; with_reducible exact H)
       have Ny271 := Aside0.mk hy271
       clear hy271
       have H' := Aside0.mk H
       clear H
       have p265 : 0 ≤ (x7_1 : Int) := of_decide_eq_true (by (with_reducible assumption))
       have q265 : x7_1 < (l0.length : Int) := of_decide_eq_true (by (with_reducible assumption))
       obtain ⟨ad265, e265, hx265_0, hx265_1, hx265_2⟩ := at_T44 HR0.out x7_1 p265 q265
       cases e265
       replace hx265_0 := (HB.out.cell (World.block_lt_of_cell? w _ hx265_0)).trans hx265_0
       replace hx265_1 := (HB.out.cell (World.block_lt_of_cell? w _ hx265_1)).trans hx265_1
       replace hx265_2 := (HB.out.cell (World.block_lt_of_cell? w _ hx265_2)).trans hx265_2
       replace p265 := eq_true p265
       replace q265 := eq_true q265
       try go_wp2_with (first | ((with_reducible refine gate_callee (f := 24) rfl ?_); refine goesL_ (some 23) rfl rfl Try.func24 (by kernel_rfl) rfl #[.slice A1 l1.length c1, .agg #[.int .i64 ((rd_T44 l0 x7_1).f0.f0), .int .i64 ((rd_T44 l0 x7_1).f0.f1)]] rfl (by (try simp only [List.map_toArray, List.map_cons, List.map_nil]); (rfl)) ?_; (with_reducible refine (variorumref10_Over.calls k1 _ _ l1 ((rd_T44 l0 x7_1).f0.f0) ((rd_T44 l0 x7_1).f0.f1) t266 t267 true _ ?side1 ?side2 A5.out).mono ?_); (case side1 => repeat ((exact (Kd.C_below HR1.out HB.out)))); (case side2 => exact HC1.out); rintro e w8 ⟨rfl, hb⟩; refine ⟨_, rfl, ?_⟩; have n0_ := Aside0.mk (Kd.R_below (by (with_reducible repeat ((apply Kd.R_drew))); exact HO_6.out) hb); have n1_ := Aside0.mk (below_step (by repeat ((with_reducible (exact HB.out)))) hb); clear HO_6; clear HB; have HO_6 := n0_; have HB := n1_; clear n0_ n1_; (try clear hb); (try clear hb2); (try clear hk); (try clear hi)) | ((with_reducible refine gate_dst (N := 8) rfl ?_); refine box_event ?hg (N := 8) ?hd (cs := #[.int .i64 0, .int .i64 0]) (t := 42) ?hr ?_; (case hd => rfl); (case hg => rfl); (case hr => (go_simp; done)); intro gb269 hg w9 hbox hb; have n0_ := Aside0.mk (Kd.R_below (by (with_reducible repeat ((apply Kd.R_drew))); exact HO_6.out) hb); have n1_ := Aside0.mk (below_step (by repeat ((with_reducible (exact HB.out)))) hb); have n2_ := Aside0.mk (hbox); have n3_ := Aside0.mk ((by rw [hg]; exact (below_size (by repeat ((with_reducible (exact HB.out))))) : w.heap.size ≤ gb269)); have n4_ := Aside0.mk ((by rw [hg]; exact (below_size (by repeat ((with_reducible (exact HB.out))))) : w.heap.size ≤ gb269)); clear HO_6; clear HB; have HO_6 := n0_; have HB := n1_; have BK269 := n2_; have GW269 := n3_; have GE269 := n4_; clear n0_ n1_ n2_ n3_ n4_; clear hb hbox hg; have hcz10_0 : w9.cell? ⟨gb269, 0, none⟩ = some (.int .i64 0) := (blk_cell BK269.out 0).trans rfl; have hcz10_1 : w9.cell? ⟨gb269, 1, none⟩ = some (.int .i64 0) := (blk_cell BK269.out 1).trans rfl; have hfz10_0 := blk_frozen BK269.out 0; have hfz10_1 := blk_frozen BK269.out 1))
       have n0_ : Aside0 (Kd.R k44 44 ((w9.setCell ⟨gb269, 0, none⟩ (.int .i64 t266)).setCell ⟨gb269, 1, none⟩ (.int .i64 t267)) w.heap.size (fun _ => True) u6 x6_1) := ⟨by (with_reducible repeat ((apply Kd.R_drew))); exact Kd.R_mono (Kd.R_far (p := ⟨gb269, 1, none⟩) (Kd.R_far (p := ⟨gb269, 0, none⟩) (Kd.R_types HO_6.out BK269.out (by decide)) (fun _ hk => hk.2) (.int .i64 t266)) (fun _ hk => hk.2) (.int .i64 t267)) (fun _ hk => trivial)⟩
       have n1_ : Aside0 (((w9.setCell ⟨gb269, 0, none⟩ (.int .i64 t266)).setCell ⟨gb269, 1, none⟩ (.int .i64 t267)).heap[gb269]? = some (.cells #[.int .i64 t266, .int .i64 t267] 42 (0, 0))) := ⟨by (with_reducible repeat ((refine blk_drew ?_))); refine blk_put (cs := #[.int .i64 t266, .int .i64 0]) ?_ 1 _ rfl; (with_reducible repeat ((refine blk_drew ?_))); refine blk_put (cs := #[.int .i64 0, .int .i64 0]) ?_ 0 _ rfl; (with_reducible repeat ((refine blk_drew ?_))); exact BK269.out⟩
       have n2_ : Aside0 (Below w.heap.size w ((w9.setCell ⟨gb269, 0, none⟩ (.int .i64 t266)).setCell ⟨gb269, 1, none⟩ (.int .i64 t267))) := ⟨by repeat ((with_reducible first | exact HB.out | refine below_set ?_ GE269.out))⟩
       (try clear HO_6)
       (try clear BK269)
       (try clear HB)
       generalize ((w9.setCell ⟨gb269, 0, none⟩ (.int .i64 t266)).setCell ⟨gb269, 1, none⟩ (.int .i64 t267)) = w11 at n0_ n1_ n2_ ⊢
       have HO_6 := n0_
       have BK269 := n1_
       have HB := n2_
       clear n0_ n1_ n2_
       have n0_ := Aside0.mk (Kd.R_drew HO_6.out)
       have n1_ := Aside0.mk (blk_drew BK269.out)
       have n2_ := Aside0.mk (below_drew1 HB.out)
       clear HO_6
       clear BK269
       clear HB
       have HO_6 := n0_
       have BK269 := n1_
       have HB := n2_
       clear n0_ n1_ n2_
       have p270 : 0 ≤ (x7_1 : Int) := of_decide_eq_true (by (with_reducible assumption))
       have q270 : x7_1 < (l0.length : Int) := of_decide_eq_true (by (with_reducible assumption))
       obtain ⟨ad270, e270, hx270_0, hx270_1, hx270_2⟩ := at_T44 HR0.out x7_1 p270 q270
       have hw270_2 := hx270_2
       have hw270_1 := hx270_1
       have hw270_0 := hx270_0
       obtain rfl : ad265 = ad270 := (by injection e270)
       replace hx270_0 := (HB.out.cell (World.block_lt_of_cell? w _ hx270_0)).trans hx270_0
       replace hx270_1 := (HB.out.cell (World.block_lt_of_cell? w _ hx270_1)).trans hx270_1
       replace hx270_2 := (HB.out.cell (World.block_lt_of_cell? w _ hx270_2)).trans hx270_2
       replace p270 := eq_true p270
       replace q270 := eq_true q270
       refine start_ (n := 11) (S := fun w' => w'.cell? ⟨gb269, 0, none⟩ = some (.int .i64 t266) ∧ w'.cell? ⟨gb269, 1, none⟩ = some (.int .i64 t267) ∧ w'.cell? (ad265.add ((x7_1).toNat * 3)) = some (.int .i64 ((rd_T44 l0 x7_1).f0.f0)) ∧ w'.cell? ⟨(ad265.add ((x7_1).toNat * 3)).block, (ad265.add ((x7_1).toNat * 3)).off + 1, none⟩ = some (.int .i64 ((rd_T44 l0 x7_1).f0.f1)) ∧ w'.cell? ⟨(ad265.add ((x7_1).toNat * 3)).block, (ad265.add ((x7_1).toNat * 3)).off + 2, none⟩ = some (.int .i64 ((rd_T44 l0 x7_1).f1))) (ds := []) #[false, false, false, false, false, false, false, false, false, false, false] (by kernel_rfl) rfl rfl ⟨(blk_cell BK269.out 0).trans rfl, (blk_cell BK269.out 1).trans rfl, ((HB.out.cell (World.block_lt_of_cell? w _ hw270_0)).trans hw270_0), ((HB.out.cell (World.block_lt_of_cell? w _ hw270_1)).trans hw270_1), ((HB.out.cell (World.block_lt_of_cell? w _ hw270_2)).trans hw270_2)⟩ (fun hHeld => ?_); refine with_tabW variorumref36_Move.tab8 variorumref36_Move.bits8 (fun HT_ HW_ => ?_)
       generalize w11.drew = w12 at HO_6 BK269 HB hx270_0 hx270_1 hx270_2 hHeld ⊢
       refine pure_ (i := 0) (N := some 28) (v := ?_) (a' := ?_) #[true, false, false, false, false, false, false, false, false, false, false] rfl rfl (any_of HT_.out (by kernel_rfl)) (fun _ _ _ h => h) (Or.inl ⟨by rfl, ?_⟩) ?_ ?_
       rotate_left
       ·intro w'
        go_simp
        with_reducible rfl
       rotate_left
       ·simp only [Act.put, List.setIfInBounds_toArray, List.set_cons_zero, List.set_cons_succ, i64_w, i32_w]
        rfl
       refine pure_ (i := 2) (N := some 30) (v := ?_) (a' := ?_) #[true, false, true, false, false, false, false, false, false, false, false] rfl rfl (any_of HT_.out (by kernel_rfl)) (fun _ _ _ h => h) (Or.inl ⟨by rfl, ?_⟩) ?_ ?_
       rotate_left
       ·intro w'
        go_simp
        with_reducible rfl
       rotate_left
       ·simp only [Act.put, List.setIfInBounds_toArray, List.set_cons_zero, List.set_cons_succ, i64_w, i32_w]
        rfl
       refine pure_ (i := 3) (N := some 31) (v := ?_) (a' := ?_) #[true, false, true, true, false, false, false, false, false, false, false] rfl rfl (any_of HT_.out (by kernel_rfl)) (fun _ _ _ h => h) (Or.inl ⟨by rfl, ?_⟩) ?_ ?_
       rotate_left
       ·intro w'
        go_simp
        with_reducible rfl
       rotate_left
       ·simp only [Act.put, List.setIfInBounds_toArray, List.set_cons_zero, List.set_cons_succ, i64_w, i32_w]
        rfl
       refine pure_ (i := 4) (N := some 32) (v := ?_) (a' := ?_) #[true, false, true, true, true, false, false, false, false, false, false] rfl rfl (any_of HT_.out (by kernel_rfl)) (fun _ _ _ h => h) (Or.inl ⟨by rfl, ?_⟩) ?_ ?_
       rotate_left
       ·intro w'
        go_simp
        with_reducible rfl
       rotate_left
       ·simp only [Act.put, List.setIfInBounds_toArray, List.set_cons_zero, List.set_cons_succ, i64_w, i32_w]
        rfl
       refine pure_ (i := 5) (N := some 33) (v := ?_) (a' := ?_) #[true, false, true, true, true, true, false, false, false, false, false] rfl rfl (any_of HT_.out (by kernel_rfl)) (fun _ _ _ h => h) (Or.inl ⟨by rfl, ?_⟩) ?_ ?_
       rotate_left
       ·intro w'
        go_simp
        with_reducible rfl
       rotate_left
       ·simp only [Act.put, List.setIfInBounds_toArray, List.set_cons_zero, List.set_cons_succ, i64_w, i32_w]
        rfl
       refine take_ (i := 1) (N := some 29) (v := ?_) (a' := ?_) #[true, true, true, true, true, true, false, false, false, false, false] rfl rfl (take_ofW HT_.out HW_.out (by kernel_rfl)) (fun _ _ _ h => h) (Or.inl ⟨by rfl, ?_⟩) hHeld ?_ ?_
       rotate_left
       ·rintro w' ⟨s0, s1, s2, s3, s4⟩
        go_simp
        with_reducible rfl
       rotate_left
       ·simp only [Act.put, List.setIfInBounds_toArray, List.set_cons_zero, List.set_cons_succ, i64_w, i32_w]
        rfl
       refine take_ (i := 6) (N := some 34) (v := ?_) (a' := ?_) #[true, true, true, true, true, true, true, false, false, false, false] rfl rfl (take_ofW HT_.out HW_.out (by kernel_rfl)) (fun _ _ _ h => h) (Or.inl ⟨by rfl, ?_⟩) hHeld ?_ ?_
       rotate_left
       ·rintro w' ⟨s0, s1, s2, s3, s4⟩
        go_simp
        with_reducible rfl
       rotate_left
       ·simp only [Act.put, List.setIfInBounds_toArray, List.set_cons_zero, List.set_cons_succ, i64_w, i32_w]
        rfl
       refine pure_ (i := 7) (N := some 35) (v := ?_) (a' := ?_) #[true, true, true, true, true, true, true, true, false, false, false] rfl rfl (any_of HT_.out (by kernel_rfl)) (fun _ _ _ h => h) (Or.inl ⟨by rfl, ?_⟩) ?_ ?_
       rotate_left
       ·intro w'
        go_simp
        with_reducible rfl
       rotate_left
       ·simp only [Act.put, List.setIfInBounds_toArray, List.set_cons_zero, List.set_cons_succ, i64_w, i32_w]
        rfl
       refine one_ (i := 8) (N := some 36) #[true, true, true, true, true, true, true, true, true, false, false] rfl rfl (one_of HT_.out (by kernel_rfl)) (by decide) (fun K hK => ?_)
       refine value_ (w1 := ?_) (v := ?_) (by rfl) rfl ?_ ?_
       rotate_left 2
       ·go_simp
        constructor
        ·rfl
        ·rfl
       refine hK.out _ _ ⟨(blk_cell (blk_alloc BK269.out _) 0).trans rfl, (blk_cell (blk_alloc BK269.out _) 1).trans rfl, (World.cell?_alloc_lt _ _ _ (World.block_lt_of_cell? _ _ (((HB.out.cell (World.block_lt_of_cell? w _ hw270_0)).trans hw270_0)))).trans (((HB.out.cell (World.block_lt_of_cell? w _ hw270_0)).trans hw270_0)), (World.cell?_alloc_lt _ _ _ (World.block_lt_of_cell? _ _ (((HB.out.cell (World.block_lt_of_cell? w _ hw270_1)).trans hw270_1)))).trans (((HB.out.cell (World.block_lt_of_cell? w _ hw270_1)).trans hw270_1)), (World.cell?_alloc_lt _ _ _ (World.block_lt_of_cell? _ _ (((HB.out.cell (World.block_lt_of_cell? w _ hw270_2)).trans hw270_2)))).trans (((HB.out.cell (World.block_lt_of_cell? w _ hw270_2)).trans hw270_2))⟩ (fun hHeld => ?_)
       clear hK K
       refine norm_ (a' := ?_) ?_ ?_
       rotate_left
       ·show Act.put _ (some 36) _ = _
        simp only [Act.put, List.setIfInBounds_toArray, List.set_cons_zero, List.set_cons_succ, i64_w, i32_w]
        rfl
       refine one_ (i := 9) (N := some 37) #[true, true, true, true, true, true, true, true, true, true, false] rfl rfl (one_of HT_.out (by kernel_rfl)) (by decide) (fun K hK => ?_)
       refine Kd.R_append_step k44 (w0 := w) w.heap.size (by rfl) (.tmp 28) (.tmp 36) 22 44 (.agg #[(.int .i64 0), (.int .i64 0), (.int .i64 0)]) 24 rfl Try.underlying22 info44 rfl (by decide) (by omega) u6 x6_1 (⟨(⟨t266, t267⟩ : S42), (rd_T44 l0 x7_1).f1⟩ : S44) [.int .i64 t266, .int .i64 t267, .int .i64 ((rd_T44 l0 x7_1).f1)] (fun _ => True) (fun _ => False) rfl rfl ?aP (fun _ hk => hk.elim) ?aF ?aO ?aB ?aS ?aL ?_
       (case aP => exact k44_mkM _ _ _ (⟨(⟨t266, t267⟩ : S42), (rd_T44 l0 x7_1).f1⟩ : S44))
       (case aB => exact (by repeat ((with_reducible (exact HB.out)))))
       (case aF => exact (fun _ _ => trivial))
       (case aO => exact (by (with_reducible repeat ((apply Kd.R_drew))); exact HO_6.out))
       (case aS => exact (below_size (by repeat ((with_reducible (exact HB.out))))))
       (case aL => have := LMc7.out; omega)
       intro v272 w13 ho hb hg hat
       rw [← Ny271.out] at ho
       have n0_ := Aside0.mk (blk_grown (g := gb269) (o := .cells #[.int .i64 t266, .int .i64 t267] 42 (0, 0)) (by (with_reducible repeat ((refine blk_drew ?_))); exact BK269.out) hg (Kd.R_ne HO_6.out BK269.out (by decide)))
       have n1_ := Aside0.mk (hb)
       have n2_ := Aside0.mk (ho)
       clear BK269
       clear HB
       clear HO_6
       have BK269 := n0_
       have HB := n1_
       have HO273 := n2_
       clear n0_ n1_ n2_
       clear ho hb hg hat
       refine hK.out _ _ ⟨(blk_cell BK269.out 0).trans rfl, (blk_cell BK269.out 1).trans rfl, ((HB.out.cell (World.block_lt_of_cell? w _ hw270_0)).trans hw270_0), ((HB.out.cell (World.block_lt_of_cell? w _ hw270_1)).trans hw270_1), ((HB.out.cell (World.block_lt_of_cell? w _ hw270_2)).trans hw270_2)⟩ (fun hHeld => ?_)
       clear hK K
       refine norm_ (a' := ?_) ?_ ?_
       rotate_left
       ·show Act.put _ (some 37) _ = _
        simp only [Act.put, List.setIfInBounds_toArray, List.set_cons_zero, List.set_cons_succ, i64_w, i32_w]
        rfl
       refine pure_ (i := 10) (N := some 6) (v := ?_) (a' := ?_) #[true, true, true, true, true, true, true, true, true, true, true] rfl rfl (any_of HT_.out (by kernel_rfl)) (fun _ _ _ h => h) (Or.inl ⟨by rfl, ?_⟩) ?_ ?_
       rotate_left
       ·intro w'
        go_simp
        with_reducible rfl
       rotate_left
       ·simp only [Act.put, List.setIfInBounds_toArray, List.set_cons_zero, List.set_cons_succ, i64_w, i32_w]
        rfl
       refine done_ (done_of HT_.out (by kernel_rfl)) ?_
       try go_wp2
       go_roundg k1
       case measure => have := HK1.out; omega
       case rel => exact ⟨(y271), (wrap64 (x7_1 + 1)), (by (rfl)), H', ⟨by have := HK1.out; omega⟩, ⟨by (with_reducible repeat ((apply Kd.R_drew))); exact HO273.out⟩, ⟨by repeat ((with_reducible (exact HB.out)))⟩⟩
      ·rw [if_neg c7] at H
       exact absurd H (by simp)
     ·replace c6 := Bool.eq_false_iff.mpr c6
      subst c6
      have H1 : (some (([] : List (S44)), false)) = some (r1, r2) := by rw [if_neg (show ¬ (false = true) by decide)] at H; exact H
      clear H
      have H := H1
      clear H1
      simp only [Option.some.injEq, Prod.mk.injEq] at H
      obtain ⟨rfl, rfl⟩ := H
      have p265 : 0 ≤ (x7_1 : Int) := of_decide_eq_true (by (with_reducible assumption))
      have q265 : x7_1 < (l0.length : Int) := of_decide_eq_true (by (with_reducible assumption))
      obtain ⟨ad265, e265, hx265_0, hx265_1, hx265_2⟩ := at_T44 HR0.out x7_1 p265 q265
      cases e265
      replace hx265_0 := (HB.out.cell (World.block_lt_of_cell? w _ hx265_0)).trans hx265_0
      replace hx265_1 := (HB.out.cell (World.block_lt_of_cell? w _ hx265_1)).trans hx265_1
      replace hx265_2 := (HB.out.cell (World.block_lt_of_cell? w _ hx265_2)).trans hx265_2
      replace p265 := eq_true p265
      replace q265 := eq_true q265
      go_wp2_with (first | ((with_reducible refine gate_callee (f := 24) rfl ?_); refine goesL_ (some 23) rfl rfl Try.func24 (by kernel_rfl) rfl #[.slice A1 l1.length c1, .agg #[.int .i64 ((rd_T44 l0 x7_1).f0.f0), .int .i64 ((rd_T44 l0 x7_1).f0.f1)]] rfl (by (try simp only [List.map_toArray, List.map_cons, List.map_nil]); (rfl)) ?_; (with_reducible refine (variorumref10_Over.calls k1 _ _ l1 ((rd_T44 l0 x7_1).f0.f0) ((rd_T44 l0 x7_1).f0.f1) t266 t267 false _ ?side1 ?side2 A5.out).mono ?_); (case side1 => repeat ((exact (Kd.C_below HR1.out HB.out)))); (case side2 => exact HC1.out); rintro e w14 ⟨rfl, hb⟩; refine ⟨_, rfl, ?_⟩; have n0_ := Aside0.mk (Kd.R_below (by (with_reducible repeat ((apply Kd.R_drew))); exact HO_6.out) hb); have n1_ := Aside0.mk (below_step (by repeat ((with_reducible (exact HB.out)))) hb); clear HO_6; clear HB; have HO_6 := n0_; have HB := n1_; clear n0_ n1_; (try clear hb); (try clear hb2); (try clear hk); (try clear hi)) | ((with_reducible refine gate_dst (N := 8) rfl ?_); refine box_event ?hg (N := 8) ?hd (cs := #[.int .i64 0, .int .i64 0]) (t := 42) ?hr ?_; (case hd => rfl); (case hg => rfl); (case hr => (go_simp; done)); intro gb269 hg w15 hbox hb; have n0_ := Aside0.mk (Kd.R_below (by (with_reducible repeat ((apply Kd.R_drew))); exact HO_6.out) hb); have n1_ := Aside0.mk (below_step (by repeat ((with_reducible (exact HB.out)))) hb); have n2_ := Aside0.mk (hbox); have n3_ := Aside0.mk ((by rw [hg]; exact (below_size (by repeat ((with_reducible (exact HB.out))))) : w.heap.size ≤ gb269)); have n4_ := Aside0.mk ((by rw [hg]; exact (below_size (by repeat ((with_reducible (exact HB.out))))) : w.heap.size ≤ gb269)); clear HO_6; clear HB; have HO_6 := n0_; have HB := n1_; have BK269 := n2_; have GW269 := n3_; have GE269 := n4_; clear n0_ n1_ n2_ n3_ n4_; clear hb hbox hg; have hcz16_0 : w15.cell? ⟨gb269, 0, none⟩ = some (.int .i64 0) := (blk_cell BK269.out 0).trans rfl; have hcz16_1 : w15.cell? ⟨gb269, 1, none⟩ = some (.int .i64 0) := (blk_cell BK269.out 1).trans rfl; have hfz16_0 := blk_frozen BK269.out 0; have hfz16_1 := blk_frozen BK269.out 1))
      go_ret2
      exact ⟨_, by (rfl), by (exact Kd.R_nil _ _ _ _ _), by repeat ((with_reducible first | exact HB.out | refine below_set ?_ GE269.out))⟩
    ·rw [if_neg c4] at H
     exact absurd H (by simp)
   ·rw [if_neg c3] at H
    have c3b0 : decide (x7_1 < (l0.length : Int)) = false := decide_eq_false c3
    clear c3
    simp only [Option.some.injEq, Prod.mk.injEq] at H
    obtain ⟨rfl, rfl⟩ := H
    go_wp2
    go_ret2
    exact ⟨_, by (rfl), by (with_reducible repeat ((apply Kd.R_drew))); exact HO_6.out, by repeat ((with_reducible (exact HB.out)))⟩
end Go.Proofs.Ytjbnffadfohofaa.P
end
-- MERGED YtjbnffadfohofaaPPart1
section
namespace Go.Proofs.Ytjbnffadfohofaa.P
open Go.RowKit Go.Proofs.YtjbnffadfohofaaW.PrintWords Go.Proofs.YtjbnffadfohofaaW.PrintLast Go.Proofs.YtjbnffadfohofaaW.PrintMore
attribute [local go_sem] max2_int min2_int max_two min_two max_three min_three max_four min_four   -- for this text's walks alone
set_option linter.unusedVariables false
set_option linter.unusedSimpArgs false
theorem eqA42 (d : Nat) (w : World) (x0 y0 : Int) (x1 y1 : Int) :
  (Op.equalIn (d + 2) 42 (.agg #[.int .i64 x0, .int .i64 x1]) (.agg #[.int .i64 y0, .int .i64 y1])).run Try.prog w = .ok (x0 == y0 && (x1 == y1)) w := by
 refine eqA_of Try.underlying42 (by kernel_rfl) ?_
 refine eqf_cons (by rfl) (by go_simp; rfl) (by go_simp; rfl) (by go_simp) ?_
 exact eqf_last (by rfl) (by go_simp; rfl) (by go_simp; rfl) (by go_simp)
theorem eqA44 (d : Nat) (w : World) (x0 y0 : Int) (x1 y1 : Int) (x2 y2 : Int) :
  (Op.equalIn (d + 3) 44 (.agg #[.int .i64 x0, .int .i64 x1, .int .i64 x2]) (.agg #[.int .i64 y0, .int .i64 y1, .int .i64 y2])).run Try.prog w = .ok ((x0 == y0 && (x1 == y1)) && (x2 == y2)) w := by
 refine eqA_of Try.underlying44 (by kernel_rfl) ?_
 refine eqf_cons (by rfl) (by go_simp) (by go_simp) (eqA42 (d + 0) w _ _ _ _) ?_
 exact eqf_last (by rfl) (by go_simp; rfl) (by go_simp; rfl) (by go_simp)
end Go.Proofs.Ytjbnffadfohofaa.P
end
-- MERGED YtjbnffadfohofaaPvariorumref26Notes
section
namespace Go.Proofs.Ytjbnffadfohofaa.P
open Go.RowKit Go.Proofs.YtjbnffadfohofaaW.PrintWords Go.Proofs.YtjbnffadfohofaaW.PrintLast Go.Proofs.YtjbnffadfohofaaW.PrintMore
attribute [local go_sem] max2_int min2_int max_two min_two max_three min_three max_four min_four   -- for this text's walks alone
set_option linter.unusedVariables false
set_option linter.unusedSimpArgs false
attribute [local go_sem high] eqA44
def variorumref26_Notes.l0 : Nat → List (S44) → List (S44) → Int → Option (Bool)
 | 0, _, _, _ => none
 | k + 1, x0, x1, x5 => if x5 < (x0.length : Int) then (if 0 ≤ x5 then (if x5 < (x1.length : Int) then (if ((!(((rd_T44 x0 x5).f0.f0) == ((rd_T44 x1 x5).f0.f0)) || (!(((rd_T44 x0 x5).f0.f1) == ((rd_T44 x1 x5).f0.f1)))) || (!(((rd_T44 x0 x5).f1) == ((rd_T44 x1 x5).f1)))) = true then (some false) else (variorumref26_Notes.l0 k x0 x1 (wrap64 (x5 + 1)))) else (none)) else (none)) else (some true)
def variorumref26_Notes.f (k : Nat) (l0 : List (S44)) (l1 : List (S44)) : Option (Bool) := if (l0.length : Int) = (l1.length : Int) then (variorumref26_Notes.l0 k l0 l1 0) else (some false)
set_option maxHeartbeats 8000000 in
set_option maxRecDepth 100000 in
theorem variorumref26_Notes.calls (k : Nat) (A0 : Option Addr) (c0 : Nat) (l0 : List (S44)) (A1 : Option Addr) (c1 : Nat) (l1 : List (S44)) (r : Bool) (w : World) (hr0 : Kd.C k44 w A0 l0.length l0) (hc0 : l0.length ≤ c0) (hr1 : Kd.C k44 w A1 l1.length l1) (hc1 : l1.length ≤ c1) (h : variorumref26_Notes.f k l0 l1 = some r) :
  Calls Try.prog 11 #[.slice A0 l0.length c0, .slice A1 l1.length c1] w fun e w' => e = .returned (.bool r) ∧ Drawn0 w w' := by
 have hu44 := Try.underlying44
 have HR0 := Aside0.mk hr0
 have HC0 := Aside0.mk hc0
 clear hr0 hc0
 have HR1 := Aside0.mk hr1
 have HC1 := Aside0.mk hc1
 clear hr1 hc1
 have H : (if (l0.length : Int) = (l1.length : Int) then (variorumref26_Notes.l0 k l0 l1 0) else (some false)) = some r := h
 clear h
 by_cases c3 : (l0.length : Int) = (l1.length : Int)
 ·rw [if_pos c3] at H
  have c3b0 : ((l0.length : Int) == (l1.length : Int)) = true := beq_iff_eq.mpr c3
  have c3b1 : ((l0.length : Int) != (l1.length : Int)) = false := bne_eq_false_iff_eq.mpr c3
  have c3b2 : (l0.length == l1.length) = true := by (simp at c3 ⊢; omega)
  clear c3
  have H' := Aside0.mk H
  clear H
  go_enter Try.func11, Try.ntmps11
  go_wp2
  repeat (go_quiet (fail); try go_wp2)
  go_loopg [5] k (fun kq v5 w' => ∃ (x5_1 : Int), v5 = .int .i64 x5_1 ∧ Aside0 (variorumref26_Notes.l0 kq l0 l1 x5_1 = some r) ∧ Aside0 (kq ≤ k) ∧ Drawn0 w w')
  case atStart => exact ⟨(0), (by (rfl)), H', ⟨Nat.le_refl _⟩, by repeat ((exact Drawn0.refl _))⟩
  case round =>
   clear H'
   try clear c1
   try clear p2
   try clear c3
   try clear c3b0
   try clear c3b1
   try clear c3b2
   obtain ⟨x5_1, rfl, HA, HK1, ⟨m1, rfl⟩⟩ := hrel
   cases gk with
   | zero => exact absurd HA.out (by simp [variorumref26_Notes.l0])
   | succ k1 =>
    have H := HA.out
    clear HA
    simp only [variorumref26_Notes.l0] at H
    by_cases c4 : x5_1 < (l0.length : Int)
    ·rw [if_pos c4] at H
     have c4b0 : decide (x5_1 < (l0.length : Int)) = true := decide_eq_true c4
     clear c4
     by_cases c5 : 0 ≤ x5_1
     ·rw [if_pos c5] at H
      have c5b0 : decide (0 ≤ x5_1) = true := decide_eq_true c5
      clear c5
      by_cases c6 : x5_1 < (l1.length : Int)
      ·rw [if_pos c6] at H
       have c6b0 : decide (x5_1 < (l1.length : Int)) = true := decide_eq_true c6
       clear c6
       by_cases c7 : ((!(((rd_T44 l0 x5_1).f0.f0) == ((rd_T44 l1 x5_1).f0.f0)) || (!(((rd_T44 l0 x5_1).f0.f1) == ((rd_T44 l1 x5_1).f0.f1)))) || (!(((rd_T44 l0 x5_1).f1) == ((rd_T44 l1 x5_1).f1)))) = true
       ·rw [if_pos c7] at H
        have c7b0 : ((!(((rd_T44 l0 x5_1).f0.f0) == ((rd_T44 l1 x5_1).f0.f0)) || (!(((rd_T44 l0 x5_1).f0.f1) == ((rd_T44 l1 x5_1).f0.f1)))) || (!(((rd_T44 l0 x5_1).f1) == ((rd_T44 l1 x5_1).f1)))) = true := c7
        clear c7
        obtain rfl := Option.some.inj H
        have p274 : 0 ≤ (x5_1 : Int) := of_decide_eq_true (by (with_reducible assumption))
        have q274 : x5_1 < (l0.length : Int) := of_decide_eq_true (by (with_reducible assumption))
        obtain ⟨ad274, e274, hx274_0, hx274_1, hx274_2⟩ := at_T44 HR0.out x5_1 p274 q274
        cases e274
        replace p274 := eq_true p274
        replace q274 := eq_true q274
        have p275 : 0 ≤ (x5_1 : Int) := of_decide_eq_true (by (with_reducible assumption))
        have q275 : x5_1 < (l1.length : Int) := of_decide_eq_true (by (with_reducible assumption))
        obtain ⟨ad275, e275, hx275_0, hx275_1, hx275_2⟩ := at_T44 HR1.out x5_1 p275 q275
        cases e275
        replace p275 := eq_true p275
        replace q275 := eq_true q275
        go_wp2
        repeat (go_quiet (fail); try go_wp2)
        go_ret
        exact ⟨by (rfl), by repeat (first | exact Drawn0.refl _ | apply Drawn0.step)⟩
       ·rw [if_neg c7] at H
        have c7b0 : ((!(((rd_T44 l0 x5_1).f0.f0) == ((rd_T44 l1 x5_1).f0.f0)) || (!(((rd_T44 l0 x5_1).f0.f1) == ((rd_T44 l1 x5_1).f0.f1)))) || (!(((rd_T44 l0 x5_1).f1) == ((rd_T44 l1 x5_1).f1)))) = false := by simpa using c7
        clear c7
        have H' := Aside0.mk H
        clear H
        have p274 : 0 ≤ (x5_1 : Int) := of_decide_eq_true (by (with_reducible assumption))
        have q274 : x5_1 < (l0.length : Int) := of_decide_eq_true (by (with_reducible assumption))
        obtain ⟨ad274, e274, hx274_0, hx274_1, hx274_2⟩ := at_T44 HR0.out x5_1 p274 q274
        cases e274
        replace p274 := eq_true p274
        replace q274 := eq_true q274
        have p275 : 0 ≤ (x5_1 : Int) := of_decide_eq_true (by (with_reducible assumption))
        have q275 : x5_1 < (l1.length : Int) := of_decide_eq_true (by (with_reducible assumption))
        obtain ⟨ad275, e275, hx275_0, hx275_1, hx275_2⟩ := at_T44 HR1.out x5_1 p275 q275
        cases e275
        replace p275 := eq_true p275
        replace q275 := eq_true q275
        go_wp2
        repeat (go_quiet (fail); try go_wp2)
        go_roundg k1
        case measure => have := HK1.out; omega
        case rel => exact ⟨(wrap64 (x5_1 + 1)), (by (rfl)), H', ⟨by have := HK1.out; omega⟩, by repeat (first | exact Drawn0.refl _ | apply Drawn0.step)⟩
      ·rw [if_neg c6] at H
       exact absurd H (by simp)
     ·rw [if_neg c5] at H
      exact absurd H (by simp)
    ·rw [if_neg c4] at H
     have c4b0 : decide (x5_1 < (l0.length : Int)) = false := decide_eq_false c4
     clear c4
     obtain rfl := Option.some.inj H
     go_wp2
     repeat (go_quiet (fail); try go_wp2)
     go_ret
     exact ⟨by (rfl), by repeat (first | exact Drawn0.refl _ | apply Drawn0.step)⟩
 ·rw [if_neg c3] at H
  have c3b0 : ((l0.length : Int) == (l1.length : Int)) = false := beq_eq_false_iff_ne.mpr c3
  have c3b1 : ((l0.length : Int) != (l1.length : Int)) = true := bne_iff_ne.mpr c3
  have c3b2 : (l0.length == l1.length) = false := by (simp at c3 ⊢; omega)
  obtain rfl := Option.some.inj H
  go_enter Try.func11, Try.ntmps11
  go_wp2
  repeat (go_quiet (fail); try go_wp2)
  go_ret
  exact ⟨by (rfl), by repeat ((exact Drawn0.refl _))⟩
end Go.Proofs.Ytjbnffadfohofaa.P
end
-- MERGED YtjbnffadfohofaaPvariorumlaw36light
section
namespace Go.Proofs.Ytjbnffadfohofaa.P
open Go.RowKit Go.Proofs.YtjbnffadfohofaaW.PrintWords Go.Proofs.YtjbnffadfohofaaW.PrintLast Go.Proofs.YtjbnffadfohofaaW.PrintMore
attribute [local go_sem] max2_int min2_int max_two min_two max_three min_three max_four min_four   -- for this text's walks alone
set_option linter.unusedVariables false
set_option linter.unusedSimpArgs false
def variorumlaw36_light.l0 : Nat → List (List (S49)) → Int → Int → Option (Bool)
 | 0, _, _, _ => none
 | k + 1, x8, x9, x10 => if x10 < x9 then (if 0 ≤ x10 then (if x10 < (x8.length : Int) then ((variorumlaw09_Few.f k (rd_L3 x8 x10)).bind fun t119 => (if t119 = true then (variorumlaw36_light.l0 k x8 x9 (wrap64 (x10 + 1))) else (some false))) else (none)) else (none)) else (some true)
def variorumlaw36_light.f (k : Nat) (l0 : List (List (S49))) : Option (Bool) := if (l0.length : Int) > 12 then (some false) else (variorumlaw36_light.l0 k l0 (l0.length : Int) 0)
set_option maxHeartbeats 8000000 in
set_option maxRecDepth 100000 in
theorem variorumlaw36_light.calls (k : Nat) (A0 : Option Addr) (c0 : Nat) (l0 : List (List (S49))) (r : Bool) (w : World) (hr0 : Kd.C (Kd.slice 49 k49) w A0 l0.length l0) (hc0 : l0.length ≤ c0) (h : variorumlaw36_light.f k l0 = some r) :
  Calls Try.prog 7 #[.slice A0 l0.length c0] w fun e w' => e = .returned (.bool r) ∧ Below w.heap.size w w' := by
 have HR0 := Aside0.mk hr0
 have HC0 := Aside0.mk hc0
 clear hr0 hc0
 have HB := Aside0.mk (Below.refl w.heap.size w)
 have H : (if (l0.length : Int) > 12 then (some false) else (variorumlaw36_light.l0 k l0 (l0.length : Int) 0)) = some r := h
 clear h
 by_cases c2 : (l0.length : Int) > 12
 ·rw [if_pos c2] at H
  have c2b0 : decide (12 < (l0.length : Int)) = true := decide_eq_true c2
  have c2b1 : decide (12 < l0.length) = true := decide_eq_true (by omega)
  clear c2
  obtain rfl := Option.some.inj H
  go_enter Try.func7, Try.ntmps7
  go_wp2
  go_ret
  exact ⟨by (rfl), by repeat ((with_reducible (exact HB.out)))⟩
 ·rw [if_neg c2] at H
  have c2b0 : decide (12 < (l0.length : Int)) = false := decide_eq_false c2
  have c2b1 : decide (12 < l0.length) = false := decide_eq_false (by omega)
  clear c2
  have H' := Aside0.mk H
  clear H
  go_enter Try.func7, Try.ntmps7
  go_wp2
  go_loopg [10] k (fun kq v10 w' => ∃ (x10_1 : Int), v10 = .int .i64 x10_1 ∧ Aside0 (variorumlaw36_light.l0 kq l0 (l0.length : Int) x10_1 = some r) ∧ Aside0 (kq ≤ k) ∧ Aside0 (Below w.heap.size w w'))
  case atStart => exact ⟨(0), (by (rfl)), H', ⟨Nat.le_refl _⟩, ⟨by repeat ((with_reducible (exact HB.out)))⟩⟩
  case round =>
   clear H'
   try clear c2
   try clear c2b0
   try clear c2b1
   try clear p2
   obtain ⟨x10_1, rfl, HA, HK1, HB⟩ := hrel
   cases gk with
   | zero => exact absurd HA.out (by simp [variorumlaw36_light.l0])
   | succ k1 =>
    have H := HA.out
    clear HA
    simp only [variorumlaw36_light.l0] at H
    by_cases c3 : x10_1 < (l0.length : Int)
    ·rw [if_pos c3] at H
     have c3b0 : decide (x10_1 < (l0.length : Int)) = true := decide_eq_true c3
     clear c3
     by_cases c4 : 0 ≤ x10_1
     ·rw [if_pos c4] at H
      have c4b0 : decide (0 ≤ x10_1) = true := decide_eq_true c4
      clear c4
      by_cases c5 : x10_1 < (l0.length : Int)
      ·rw [if_pos c5] at H
       have c5b0 : decide (x10_1 < (l0.length : Int)) = true := decide_eq_true c5
       clear c5
       replace H := Option.bind_eq_some_iff.mp H
       obtain ⟨t119, A60, H⟩ := H
       replace H : (if t119 = true then (variorumlaw36_light.l0 k1 l0 (l0.length : Int) (wrap64 (x10_1 + 1))) else (some false)) = some r := H
       have A6 := Aside0.mk A60
       clear A60
       by_cases c7 : t119 = true
       ·subst c7
        have H1 : (variorumlaw36_light.l0 k1 l0 (l0.length : Int) (wrap64 (x10_1 + 1))) = some r := by rw [if_pos rfl] at H; exact H
        clear H
        have H := H1
        clear H1
        have H' := Aside0.mk H
        clear H
        have p118 : 0 ≤ (x10_1 : Int) := of_decide_eq_true (by (with_reducible assumption))
        have q118 : x10_1 < (l0.length : Int) := of_decide_eq_true (by (with_reducible assumption))
        obtain ⟨ad118, A118_0, c118_0, e118, hx118_0, hl118_0, hi118_0⟩ := at_L3 HR0.out x10_1 p118 q118
        cases e118
        replace hx118_0 := (HB.out.cell (World.block_lt_of_cell? w _ hx118_0)).trans hx118_0
        have HR118_0 := Aside0.mk hi118_0
        have HC118_0 := Aside0.mk hl118_0
        clear hi118_0 hl118_0
        replace p118 := eq_true p118
        replace q118 := eq_true q118
        go_wp2_with (first | ((with_reducible refine gate_callee (f := 22) rfl ?_); refine goesL_ (some 15) rfl rfl Try.func22 (by kernel_rfl) rfl #[.slice A118_0 (rd_L3 l0 x10_1).length c118_0] rfl (by (try simp only [List.map_toArray, List.map_cons, List.map_nil]); (rfl)) ?_; (with_reducible refine (variorumlaw09_Few.calls k1 _ _ (rd_L3 l0 x10_1) true _ ?side1 ?side2 A6.out).mono ?_); (case side1 => repeat ((exact (Kd.C_below HR118_0.out HB.out)))); (case side2 => exact HC118_0.out); rintro e w8 ⟨rfl, hb⟩; refine ⟨_, rfl, ?_⟩; have n0_ := Aside0.mk (below_step (by repeat ((with_reducible (exact HB.out)))) hb); clear HB; have HB := n0_; clear n0_; (try clear hb); (try clear hb2); (try clear hk); (try clear hi)))
        go_roundg k1
        case measure => have := HK1.out; omega
        case rel => exact ⟨(wrap64 (x10_1 + 1)), (by (rfl)), H', ⟨by have := HK1.out; omega⟩, ⟨by repeat ((with_reducible (exact HB.out)))⟩⟩
       ·replace c7 := Bool.eq_false_iff.mpr c7
        subst c7
        have H1 : (some false) = some r := by rw [if_neg (show ¬ (false = true) by decide)] at H; exact H
        clear H
        have H := H1
        clear H1
        obtain rfl := Option.some.inj H
        have p118 : 0 ≤ (x10_1 : Int) := of_decide_eq_true (by (with_reducible assumption))
        have q118 : x10_1 < (l0.length : Int) := of_decide_eq_true (by (with_reducible assumption))
        obtain ⟨ad118, A118_0, c118_0, e118, hx118_0, hl118_0, hi118_0⟩ := at_L3 HR0.out x10_1 p118 q118
        cases e118
        replace hx118_0 := (HB.out.cell (World.block_lt_of_cell? w _ hx118_0)).trans hx118_0
        have HR118_0 := Aside0.mk hi118_0
        have HC118_0 := Aside0.mk hl118_0
        clear hi118_0 hl118_0
        replace p118 := eq_true p118
        replace q118 := eq_true q118
        go_wp2_with (first | ((with_reducible refine gate_callee (f := 22) rfl ?_); refine goesL_ (some 15) rfl rfl Try.func22 (by kernel_rfl) rfl #[.slice A118_0 (rd_L3 l0 x10_1).length c118_0] rfl (by (try simp only [List.map_toArray, List.map_cons, List.map_nil]); (rfl)) ?_; (with_reducible refine (variorumlaw09_Few.calls k1 _ _ (rd_L3 l0 x10_1) false _ ?side1 ?side2 A6.out).mono ?_); (case side1 => repeat ((exact (Kd.C_below HR118_0.out HB.out)))); (case side2 => exact HC118_0.out); rintro e w9 ⟨rfl, hb⟩; refine ⟨_, rfl, ?_⟩; have n0_ := Aside0.mk (below_step (by repeat ((with_reducible (exact HB.out)))) hb); clear HB; have HB := n0_; clear n0_; (try clear hb); (try clear hb2); (try clear hk); (try clear hi)))
        go_ret
        exact ⟨by (rfl), by repeat ((with_reducible (exact HB.out)))⟩
      ·rw [if_neg c5] at H
       exact absurd H (by simp)
     ·rw [if_neg c4] at H
      exact absurd H (by simp)
    ·rw [if_neg c3] at H
     have c3b0 : decide (x10_1 < (l0.length : Int)) = false := decide_eq_false c3
     clear c3
     obtain rfl := Option.some.inj H
     go_wp2
     go_ret
     exact ⟨by (rfl), by repeat ((with_reducible (exact HB.out)))⟩
end Go.Proofs.Ytjbnffadfohofaa.P
end
-- MERGED YtjbnffadfohofaaCarryM
section
namespace Go.Proofs.Ytjbnffadfohofaa.CarryM
open Go.RowKit Go.Proofs.Ytjbnffadfohofaa.P Go.Proofs.YtjbnffadfohofaaW.PrintWords Go.Proofs.YtjbnffadfohofaaW.PrintLast Go.Proofs.YtjbnffadfohofaaW.PrintMore Go.Proofs.Ytjbnffadfohofaa.EditL Go.Proofs.Ytjbnffadfohofaa.EditK Go.Proofs.Ytjbnffadfohofaa.PlaceF Go.Proofs.Ytjbnffadfohofaa.PlaceOv Go.Proofs.Ytjbnffadfohofaa.NoteN Go.Proofs.Ytjbnffadfohofaa.CarryN
set_option linter.unusedSimpArgs false
set_option linter.unusedVariables false
theorem nt_at {l pre suf : List Nt} {r : Nt} (h : l = pre ++ r :: suf) : rd_T44 l (pre.length : Int) = r := by
 subst h
 unfold rd_T44
 rw [Int.toNat_natCast, List.getD_eq_getElem?_getD, List.getElem?_append_right (Nat.le_refl _), Nat.sub_self]; rfl
def mv (ops : List (List Rn)) (x : Nt) : Nt := ⟨⟨(overS ops x.f0.f0 x.f0.f1).1, (overS ops x.f0.f0 x.f0.f1).2.1⟩, x.f1⟩
def okN (ops : List (List Rn)) (x : Nt) : Bool := (overS ops x.f0.f0 x.f0.f1).2.2
def moveS (ops : List (List Rn)) (l : List Nt) : List Nt × Bool := cond (l.all (okN ops)) (l.map (mv ops), true) ([], false)
theorem move_l (ops : List (List Rn)) (ho : ops.length ≤ 12) (hf : ∀ op ∈ ops, Fw op) (l : List Nt) (hl : l.length ≤ 1000) : ∀ (suf pre : List Nt) (k : Nat) (acc : List Nt), l = pre ++ suf → suf.length + 9000 < k → acc.length + suf.length ≤ 1000 →
  carry_Move.l0 k ops acc l (l.length : Int) (pre.length : Int) = some (cond (suf.all (okN ops)) (acc ++ suf.map (mv ops), true) ([], false)) := by
 intro suf
 induction suf with
 | nil =>
  intro pre k acc hfe hk ha
  obtain ⟨k, rfl⟩ : ∃ m, k = m + 1 := ⟨k - 1, by omega⟩
  have : l.length = pre.length := by rw [hfe]; simp
  simp only [carry_Move.l0]
  rw [if_neg (by omega)]; simp
 | cons r suf ih =>
  intro pre k acc hfe hk ha
  obtain ⟨k, rfl⟩ : ∃ m, k = m + 1 := ⟨k - 1, by omega⟩
  obtain ⟨hl2, hn, hlt⟩ := snoc' hfe
  simp only [List.length_cons] at hk ha
  have next := ih (pre ++ [r]) k (acc ++ [mv ops r]) hl2 (by omega) (by simp; omega)
  rw [hn] at next
  simp only [carry_Move.l0]
  rw [if_pos hlt, if_pos (by omega), if_pos hlt, nt_at hfe, over_f ops ho hf k (by omega), Option.bind_some, List.all_cons]
  show (if (okN ops r) = true then _ else _) = _
  cases h : okN ops r with
  | false => rw [if_neg Bool.false_ne_true]; rfl
  | true =>
   rw [if_pos rfl, if_pos (by omega), w64 (x := (pre.length : Int) + 1) (by omega) (by omega)]
   refine next.trans ?_
   rw [Bool.true_and, List.map_cons, List.append_assoc]; rfl
theorem move_f (ops : List (List Rn)) (ho : ops.length ≤ 12) (hf : ∀ op ∈ ops, Fw op) (l : List Nt) (hl : l.length ≤ 1000) (k : Nat) (hk : 11000 ≤ k) : carry_Move.f k l ops = some (moveS ops l) := by
 have := move_l ops ho hf l hl l [] k [] rfl (by omega) (by simpa using hl)
 rw [List.nil_append] at this
 exact this
theorem rmove_l (ops : List (List Rn)) (ho : ops.length ≤ 12) (hf : ∀ op ∈ ops, Fw op) (l : List Nt) (hl : l.length ≤ 1000) : ∀ (suf pre : List Nt) (k : Nat) (acc : List Nt), l = pre ++ suf → suf.length + 9000 < k → acc.length + suf.length ≤ 1000 →
  variorumref36_Move.l0 k l ops acc (pre.length : Int) = some (cond (suf.all (okN ops)) (acc ++ suf.map (mv ops), true) ([], false)) := by
 intro suf
 induction suf with
 | nil =>
  intro pre k acc hfe hk ha
  obtain ⟨k, rfl⟩ : ∃ m, k = m + 1 := ⟨k - 1, by omega⟩
  have : l.length = pre.length := by rw [hfe]; simp
  simp only [variorumref36_Move.l0]
  rw [if_neg (by omega)]; simp
 | cons r suf ih =>
  intro pre k acc hfe hk ha
  obtain ⟨k, rfl⟩ : ∃ m, k = m + 1 := ⟨k - 1, by omega⟩
  obtain ⟨hl2, hn, hlt⟩ := snoc' hfe
  simp only [List.length_cons] at hk ha
  have next := ih (pre ++ [r]) k (acc ++ [mv ops r]) hl2 (by omega) (by simp; omega)
  rw [hn] at next
  simp only [variorumref36_Move.l0]
  rw [if_pos hlt, if_pos (by omega), nt_at hfe, rover_f ops ho hf k (by omega), Option.bind_some, List.all_cons]
  show (if (okN ops r) = true then _ else _) = _
  cases h : okN ops r with
  | false => rw [if_neg Bool.false_ne_true]; rfl
  | true =>
   rw [if_pos rfl, if_pos (by omega), w64 (x := (pre.length : Int) + 1) (by omega) (by omega)]
   refine next.trans ?_
   rw [Bool.true_and, List.map_cons, List.append_assoc]; rfl
theorem rmove_f (ops : List (List Rn)) (ho : ops.length ≤ 12) (hf : ∀ op ∈ ops, Fw op) (l : List Nt) (hl : l.length ≤ 1000) (k : Nat) (hk : 11000 ≤ k) : variorumref36_Move.f k l ops = some (moveS ops l) := by
 have := rmove_l ops ho hf l hl l [] k [] rfl (by omega) (by simpa using hl)
 rw [List.nil_append] at this
 exact this
theorem same_l (l : List Nt) (hl : l.length ≤ 1000) : ∀ (n : Nat) (k i : Nat), i + n = l.length → n < k → variorumref26_Notes.l0 k l l (i : Int) = some true := by
 intro n
 induction n with
 | zero =>
  intro k i hi hk
  obtain ⟨k, rfl⟩ : ∃ m, k = m + 1 := ⟨k - 1, by omega⟩
  simp only [variorumref26_Notes.l0]
  rw [if_neg (by omega)]
 | succ n ih =>
  intro k i hi hk
  obtain ⟨k, rfl⟩ : ∃ m, k = m + 1 := ⟨k - 1, by omega⟩
  have next := ih k (i + 1) (by omega) (by omega)
  simp only [variorumref26_Notes.l0]
  rw [if_pos (by omega), if_pos (by omega), if_pos (by omega), if_neg (by simp), w64 (x := (i : Int) + 1) (by omega) (by omega)]
  exact next
theorem same_f (l : List Nt) (hl : l.length ≤ 1000) (k : Nat) (hk : l.length < k) : variorumref26_Notes.f k l l = some true := by
 unfold variorumref26_Notes.f
 rw [if_pos rfl]
 exact same_l l hl l.length k 0 (by omega) hk
theorem moveS_length (ops : List (List Rn)) (l : List Nt) : (moveS ops l).1.length ≤ l.length := by
 unfold moveS
 cases l.all (okN ops)
 ·simp
 ·simp
theorem light_l (l : List (List Rn)) (hl : l.length ≤ 12) : ∀ (suf pre : List (List Rn)) (k : Nat), l = pre ++ suf → suf.length + 300 < k → ∃ b, variorumlaw36_light.l0 k l (l.length : Int) (pre.length : Int) = some b ∧ (b = true → ∀ op ∈ suf, Fw op) := by
 intro suf
 induction suf with
 | nil =>
  intro pre k hfe hk
  obtain ⟨k, rfl⟩ : ∃ m, k = m + 1 := ⟨k - 1, by omega⟩
  have : l.length = pre.length := by rw [hfe]; simp
  simp only [variorumlaw36_light.l0]
  rw [if_neg (by omega)]
  exact ⟨true, rfl, fun _ r hr => by cases hr⟩
 | cons r suf ih =>
  intro pre k hfe hk
  obtain ⟨k, rfl⟩ : ∃ m, k = m + 1 := ⟨k - 1, by omega⟩
  obtain ⟨hl2, hn, hlt⟩ := snoc' hfe
  obtain ⟨t, h1, h2⟩ := few_f r k (by simp at hk; omega)
  simp only [variorumlaw36_light.l0]
  rw [if_pos hlt, if_pos (by omega), if_pos hlt, op_at hfe, h1, Option.bind_some, w64 (x := (pre.length : Int) + 1) (by omega) (by omega)]
  cases t with
  | false => rw [if_neg Bool.false_ne_true]; exact ⟨false, rfl, fun h => by cases h⟩
  | true =>
   obtain ⟨b, hb, hb2⟩ := ih (pre ++ [r]) k hl2 (by simp at hk; omega)
   rw [hn] at hb
   rw [if_pos rfl, hb]
   refine ⟨b, rfl, fun e x hx => ?_⟩
   rcases List.mem_cons.1 hx with rfl | hx
   ·exact h2 rfl
   ·exact hb2 e x hx
theorem light_f (l : List (List Rn)) (k : Nat) (hk : 1000 < k) : ∃ b, variorumlaw36_light.f k l = some b ∧ (b = true → l.length ≤ 12 ∧ ∀ op ∈ l, Fw op) := by
 unfold variorumlaw36_light.f
 by_cases h : (l.length : Int) > 12
 ·rw [if_pos h]; exact ⟨false, rfl, fun h => by cases h⟩
 ·rw [if_neg h]
  obtain ⟨b, h1, h2⟩ := light_l l (by omega) l [] k rfl (by omega)
  exact ⟨b, h1, fun e => ⟨by omega, h2 e⟩⟩
def mkN (x : (Int × Int) × Int) : Nt := ⟨⟨x.1.1, x.1.2⟩, x.2⟩
end Go.Proofs.Ytjbnffadfohofaa.CarryM
end

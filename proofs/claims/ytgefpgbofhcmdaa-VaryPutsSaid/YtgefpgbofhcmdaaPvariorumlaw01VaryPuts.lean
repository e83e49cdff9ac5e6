-- Written by wip/myprint.py of this session, over the kit's print.py: a Lean function for each Go function, and the proof that the code comes to it.
import Derived.Test.YtgefpgbofhcmdaaPBase
import Derived.Test.YtgefpgbofhcmdaaVaryLives
import Derived.Test.YtgefpgbofhcmdaaVaryRef
namespace Go.Proofs.Ytgefpgbofhcmdaa.P
open Go.RowKit Go.Proofs.YtgefpgbofhcmdaaW.PrintWords Go.Proofs.YtgefpgbofhcmdaaW.PrintLast Go.Proofs.YtgefpgbofhcmdaaW.PrintMore
attribute [local go_sem] max2_int min2_int max_two min_two max_three min_three max_four min_four   -- for this text's walks alone
set_option linter.unusedVariables false
set_option linter.unusedSimpArgs false

/-! ### variorumlaw01_VaryPuts: function 7 -/
-- NEEDS Derived.Test.YtgefpgbofhcmdaaVaryLives
-- NEEDS Derived.Test.YtgefpgbofhcmdaaVaryRef
def variorumlaw01_VaryPuts.T3 : Bool × List (List Nat × List Nat) := (true, [([], []), ([], []), ([0, 1], [0, 1]), ([2], [2]), ([], []), ([], []), ([4, 5, 2], [4, 5]), ([6], [6]), ([3, 7], [3, 7]), ([8, 6], [8]), ([9], [9]), ([9], [9]), ([10, 11, 9, 9], [9, 10, 11]), ([12, 9], [9, 12]), ([9], [9]), ([9], [9]), ([14, 15, 12, 9], [9, 14, 15]), ([16, 9], [9, 16]), ([13, 17, 9], [9, 13, 17]), ([9, 18], [9, 18]), ([19, 16], [19]), ([20], [20]), ([20], [20]), ([21, 22, 20, 20], [20, 21, 22]), ([23, 20], [20, 23]), ([20], [20]), ([20], [20]), ([25, 26, 23, 20], [20, 25, 26]), ([27, 20], [20, 27]), ([24, 28, 20], [20, 24, 28]), ([20, 29], [20, 29]), ([30, 27], [30]), ([31, 31], [31]), ([31, 32], [31, 32]), ([33, 32, 0, 1, 2, 3, 4, 5, 6, 7, 8, 9, 10, 11, 12, 13, 14, 15, 16, 17, 18, 19, 20, 21, 22, 23, 24, 25, 26, 27, 28, 29, 30, 31, 32, 33], [33])])
def variorumlaw01_VaryPuts.B3 : List Nat := [0, 0, 3, 7, 0, 0, 55, 119, 255, 511, 1023, 1023, 4095, 8191, 1023, 1023, 57343, 122879, 262143, 524287, 1048575, 2097151, 2097151, 8388607, 16777215, 2097151, 2097151, 117440511, 251658239, 536870911, 1073741823, 2147483647, 4294967295, 8589934591, 17179869183]
theorem variorumlaw01_VaryPuts.tab3 : rtab .any (opsOf Try.f7 3) = variorumlaw01_VaryPuts.T3 := by kernel_rfl
theorem variorumlaw01_VaryPuts.bits3 : waitsOk variorumlaw01_VaryPuts.T3.2 variorumlaw01_VaryPuts.B3 = true := by kernel_rfl
set_option maxHeartbeats 8000000 in
set_option maxRecDepth 100000 in
theorem variorumlaw01_VaryPuts.holds (A0 : Option Addr) (c0 : Nat) (l0 : List Int) (n : Int) (s : ByteArray) (w : World) (hr0 : Kd.C (Kd.int .u8) w A0 l0.length l0) (hc0 : l0.length ≤ c0) (y0 : l0.length * 1 ≤ 140737488351232) (_ : ∀ x ∈ l0, (Lit.int .u8 x).wf = true) (_ : (Lit.int .i64 n).wf = true) (ws : s.size ≤ 140737488351232) :
    Calls Try.prog 7 #[.slice A0 l0.length c0, .int .i64 n, .string s] w fun e w' => e = .returned (.bool true) ∧ Below w.heap.size w w' := by
  have H0 := Aside0.mk (Own.Sl.mk hr0 hc0)
  rw [Nat.mul_one] at y0
  have HB := Aside0.mk (Below.refl w.heap.size w)
  have y1 : (l0.length : Int) ≤ 140737488351232 := by omega
  have y2 : (s.size : Int) ≤ 140737488351232 := by omega
  clear hr0 hc0 y0 ws
  by_cases hlen : l0.length + s.size ≤ 4000
  · have HL := Aside0.mk hlen
    have g1 : ¬ ((4000 : Int) < (l0.length : Int) + (s.size : Int)) := by omega
    clear hlen
    go_enter Try.func7, Try.ntmps7
    go_wp2_with fail
    refine start_ (n := 35) (S := fun w' => True) (ds := []) #[false, false, false, false, false, false, false, false, false, false, false, false, false, false, false, false, false, false, false, false, false, false, false, false, false, false, false, false, false, false, false, false, false, false, false] (by kernel_rfl) rfl rfl trivial (fun hHeld => ?_); refine with_tabW variorumlaw01_VaryPuts.tab3 variorumlaw01_VaryPuts.bits3 (fun HT_ HW_ => ?_)
    refine inv_at [0, 1, 2, 3, 4, 5, 6, 7, 8, 9, 10, 11, 12, 13, 14, 15, 16, 17, 18, 19, 20, 21, 22, 23, 24, 25, 26, 27, 28, 29, 30, 31, 32, 33, 34] (fun a0_ b a w' => ∃ (v16 : Value) (v20 : Value) (v26 : Value) (v30 : Value) (v37 : Value) (v41 : Value), a = putSel a0_ b [(0, 14, (.slice A0 l0.length c0)), (1, 15, (.int .i64 n)), (2, 16, v16), (3, 17, (.string (strOfNums (Vy.putL l0 n)))), (4, 18, (.slice A0 l0.length c0)), (5, 19, (.int .i64 n)), (6, 20, v20), (7, 21, (.string (strOfNums (Vy.putL l0 n)))), (8, 22, (.bool true)), (9, 23, (.bool true)), (10, 24, (.slice A0 l0.length c0)), (11, 25, (.int .i64 n)), (12, 26, v26), (13, 27, (.string (strOfNums (Vy.putSL l0 n)))), (14, 28, (.slice A0 l0.length c0)), (15, 29, (.int .i64 n)), (16, 30, v30), (17, 31, (.string (strOfNums (Vy.putSL l0 n)))), (18, 32, (.bool true)), (19, 33, (.bool true)), (20, 34, (.bool true)), (21, 35, (.slice A0 l0.length c0)), (22, 36, (.string s)), (23, 37, v37), (24, 38, (.string (strOfNums (Vy.putTL l0 (Own.numsOf s))))), (25, 39, (.slice A0 l0.length c0)), (26, 40, (.string s)), (27, 41, v41), (28, 42, (.string (strOfNums (Vy.putTL l0 (Own.numsOf s))))), (29, 43, (.bool true)), (30, 44, (.bool true)), (31, 45, (.bool true)), (32, 46, (.bool true)), (33, 47, (.bool true)), (34, 6, (.bool true))] ∧ (Own.Sl w' (.slice A0 l0.length c0) l0) ∧ (Below w.heap.size w w') ∧ (b 2 = true → Own.Sl w' v16 (Vy.putL l0 n)) ∧ (b 6 = true → Own.Sl w' v20 (Vy.putL l0 n)) ∧ (b 12 = true → Own.Sl w' v26 (Vy.putSL l0 n)) ∧ (b 16 = true → Own.Sl w' v30 (Vy.putSL l0 n)) ∧ (b 23 = true → Own.Sl w' v37 (Vy.putTL l0 (Own.numsOf s))) ∧ (b 27 = true → Own.Sl w' v41 (Vy.putTL l0 (Own.numsOf s)))) HT_.out HW_.out (by kernel_rfl) (by kernel_rfl) ?_ ?_ ?_
    · exact ⟨.bool false, .bool false, .bool false, .bool false, .bool false, .bool false, by simp only [putSel, Bool.false_eq_true, if_false], H0.out.drew, below_drew1 HB.out, fun h_ => absurd h_ (by decide), fun h_ => absurd h_ (by decide), fun h_ => absurd h_ (by decide), fun h_ => absurd h_ (by decide), fun h_ => absurd h_ (by decide), fun h_ => absurd h_ (by decide)⟩
    · skip
      clear H0 HB
      refine steps_cons ?_ ?_
      · rintro b a w' ⟨v16, v20, v26, v30, v37, v41, ha, Q_H0, Q_HB, Q_S16, Q_S20, Q_S26, Q_S30, Q_S37, Q_S41⟩ hb_ hon hoff
        refine ⟨_, rfl, fun K hK => ?_⟩
        have e0 : a.tmps[0]? = some ((.slice A0 l0.length c0)) := by rw [ha]; exact (putSel_off rfl).trans rfl
        replace ha := Aside0.mk ha
        have H0 := Aside0.mk Q_H0
        have HB := Aside0.mk Q_HB
        refine value_ (w1 := w') (v := (.slice A0 l0.length c0)) (by rfl) rfl ?_ ?_
        · go_simp
          (try simp only [i64_w])
          try rfl
        refine hK.out _ _ ⟨v16, v20, v26, v30, v37, v41, (by rw [ha.out]; exact putSel_upk 0 hb_ rfl rfl rfl), Q_H0, Q_HB, fun h0_ => absurd ((hoff 2 (by kernel_rfl)).symm.trans h0_) (by decide), fun h0_ => absurd ((hoff 6 (by kernel_rfl)).symm.trans h0_) (by decide), fun h0_ => absurd ((hoff 12 (by kernel_rfl)).symm.trans h0_) (by decide), fun h0_ => absurd ((hoff 16 (by kernel_rfl)).symm.trans h0_) (by decide), fun h0_ => absurd ((hoff 23 (by kernel_rfl)).symm.trans h0_) (by decide), fun h0_ => absurd ((hoff 27 (by kernel_rfl)).symm.trans h0_) (by decide)⟩
      refine steps_cons ?_ ?_
      · rintro b a w' ⟨v16, v20, v26, v30, v37, v41, ha, Q_H0, Q_HB, Q_S16, Q_S20, Q_S26, Q_S30, Q_S37, Q_S41⟩ hb_ hon hoff
        refine ⟨_, rfl, fun K hK => ?_⟩
        have e1 : a.tmps[1]? = some ((.int .i64 n)) := by rw [ha]; exact (putSel_off rfl).trans rfl
        replace ha := Aside0.mk ha
        have H0 := Aside0.mk Q_H0
        have HB := Aside0.mk Q_HB
        refine value_ (w1 := w') (v := (.int .i64 n)) (by rfl) rfl ?_ ?_
        · go_simp
          (try simp only [i64_w])
          try rfl
        refine hK.out _ _ ⟨v16, v20, v26, v30, v37, v41, (by rw [ha.out]; exact putSel_upk 1 hb_ rfl rfl rfl), Q_H0, Q_HB, fun h0_ => absurd ((hoff 2 (by kernel_rfl)).symm.trans h0_) (by decide), fun h0_ => absurd ((hoff 6 (by kernel_rfl)).symm.trans h0_) (by decide), fun h0_ => absurd ((hoff 12 (by kernel_rfl)).symm.trans h0_) (by decide), fun h0_ => absurd ((hoff 16 (by kernel_rfl)).symm.trans h0_) (by decide), fun h0_ => absurd ((hoff 23 (by kernel_rfl)).symm.trans h0_) (by decide), fun h0_ => absurd ((hoff 27 (by kernel_rfl)).symm.trans h0_) (by decide)⟩
      refine steps_cons ?_ ?_
      · rintro b a w' ⟨v16, v20, v26, v30, v37, v41, ha, Q_H0, Q_HB, Q_S16, Q_S20, Q_S26, Q_S30, Q_S37, Q_S41⟩ hb_ hon hoff
        refine ⟨_, rfl, fun K hK => ?_⟩
        have e14 : a.tmps[14]? = some ((.slice A0 l0.length c0)) := by rw [ha]; exact putSel_on (e := (0, 14, (.slice A0 l0.length c0))) 0 rfl rfl (hon 0 (by kernel_rfl)) rfl
        have e15 : a.tmps[15]? = some ((.int .i64 n)) := by rw [ha]; exact putSel_on (e := (1, 15, (.int .i64 n))) 1 rfl rfl (hon 1 (by kernel_rfl)) rfl
        replace ha := Aside0.mk ha
        have H0 := Aside0.mk Q_H0
        have HB := Aside0.mk Q_HB
        refine goes_ Try.func23 (by kernel_rfl) rfl #[.slice A0 l0.length c0, .int .i64 n] (by rfl) rfl rfl (by first | (simp only [List.map_toArray, List.map_cons, List.map_nil, Act.eval, Array.getD_eq_getD_getElem?, Option.getD_some, e14, e15]; done) | (simp only [List.map_toArray, List.map_cons, List.map_nil, Act.eval, Array.getD_eq_getD_getElem?, Option.getD_some, e14, e15]; rfl)) ?_
        refine (VaryP.nPut _ l0 n _ H0.out (by have := HL.out; omega)).mono ?_
        rintro e w1_ ⟨v16, rfl, hg, hb⟩
        refine ⟨_, rfl, ?_⟩
        have hs := hg.sl
        clear hg
        refine hK.out _ _ ⟨v16, v20, v26, v30, v37, v41, (by rw [ha.out]; exact putSel_upk 2 hb_ rfl rfl rfl), H0.out.below hb, below_step HB.out hb, fun _ => hs, fun h0_ => absurd ((hoff 6 (by kernel_rfl)).symm.trans h0_) (by decide), fun h0_ => absurd ((hoff 12 (by kernel_rfl)).symm.trans h0_) (by decide), fun h0_ => absurd ((hoff 16 (by kernel_rfl)).symm.trans h0_) (by decide), fun h0_ => absurd ((hoff 23 (by kernel_rfl)).symm.trans h0_) (by decide), fun h0_ => absurd ((hoff 27 (by kernel_rfl)).symm.trans h0_) (by decide)⟩
      refine steps_cons ?_ ?_
      · rintro b a w' ⟨v16, v20, v26, v30, v37, v41, ha, Q_H0, Q_HB, Q_S16, Q_S20, Q_S26, Q_S30, Q_S37, Q_S41⟩ hb_ hon hoff
        refine ⟨_, rfl, fun K hK => ?_⟩
        have e16 : a.tmps[16]? = some (v16) := by rw [ha]; exact putSel_on (e := (2, 16, v16)) 2 rfl rfl (hon 2 (by kernel_rfl)) rfl
        replace ha := Aside0.mk ha
        have H0 := Aside0.mk Q_H0
        have HB := Aside0.mk Q_HB
        have S16 := Aside0.mk (Q_S16 (hon 2 (by kernel_rfl)))
        have hc_ := Own.Sl.string (P := Try.prog) Try.underlying22 Try.underlying5 Try.underlying9 S16.out
        refine value_ (w1 := w') (v := (.string (strOfNums (Vy.putL l0 n)))) (by rfl) rfl ?_ ?_
        · go_simp
          (try simp only [i64_w])
          try rfl
        refine hK.out _ _ ⟨v16, v20, v26, v30, v37, v41, (by rw [ha.out]; exact putSel_upk 3 hb_ rfl rfl rfl), Q_H0, Q_HB, Q_S16, Q_S20, fun h0_ => absurd ((hoff 12 (by kernel_rfl)).symm.trans h0_) (by decide), fun h0_ => absurd ((hoff 16 (by kernel_rfl)).symm.trans h0_) (by decide), fun h0_ => absurd ((hoff 23 (by kernel_rfl)).symm.trans h0_) (by decide), fun h0_ => absurd ((hoff 27 (by kernel_rfl)).symm.trans h0_) (by decide)⟩
      refine steps_cons ?_ ?_
      · rintro b a w' ⟨v16, v20, v26, v30, v37, v41, ha, Q_H0, Q_HB, Q_S16, Q_S20, Q_S26, Q_S30, Q_S37, Q_S41⟩ hb_ hon hoff
        refine ⟨_, rfl, fun K hK => ?_⟩
        have e0 : a.tmps[0]? = some ((.slice A0 l0.length c0)) := by rw [ha]; exact (putSel_off rfl).trans rfl
        replace ha := Aside0.mk ha
        have H0 := Aside0.mk Q_H0
        have HB := Aside0.mk Q_HB
        refine value_ (w1 := w') (v := (.slice A0 l0.length c0)) (by rfl) rfl ?_ ?_
        · go_simp
          (try simp only [i64_w])
          try rfl
        refine hK.out _ _ ⟨v16, v20, v26, v30, v37, v41, (by rw [ha.out]; exact putSel_upk 4 hb_ rfl rfl rfl), Q_H0, Q_HB, Q_S16, fun h0_ => absurd ((hoff 6 (by kernel_rfl)).symm.trans h0_) (by decide), fun h0_ => absurd ((hoff 12 (by kernel_rfl)).symm.trans h0_) (by decide), fun h0_ => absurd ((hoff 16 (by kernel_rfl)).symm.trans h0_) (by decide), fun h0_ => absurd ((hoff 23 (by kernel_rfl)).symm.trans h0_) (by decide), fun h0_ => absurd ((hoff 27 (by kernel_rfl)).symm.trans h0_) (by decide)⟩
      refine steps_cons ?_ ?_
      · rintro b a w' ⟨v16, v20, v26, v30, v37, v41, ha, Q_H0, Q_HB, Q_S16, Q_S20, Q_S26, Q_S30, Q_S37, Q_S41⟩ hb_ hon hoff
        refine ⟨_, rfl, fun K hK => ?_⟩
        have e1 : a.tmps[1]? = some ((.int .i64 n)) := by rw [ha]; exact (putSel_off rfl).trans rfl
        replace ha := Aside0.mk ha
        have H0 := Aside0.mk Q_H0
        have HB := Aside0.mk Q_HB
        refine value_ (w1 := w') (v := (.int .i64 n)) (by rfl) rfl ?_ ?_
        · go_simp
          (try simp only [i64_w])
          try rfl
        refine hK.out _ _ ⟨v16, v20, v26, v30, v37, v41, (by rw [ha.out]; exact putSel_upk 5 hb_ rfl rfl rfl), Q_H0, Q_HB, Q_S16, fun h0_ => absurd ((hoff 6 (by kernel_rfl)).symm.trans h0_) (by decide), fun h0_ => absurd ((hoff 12 (by kernel_rfl)).symm.trans h0_) (by decide), fun h0_ => absurd ((hoff 16 (by kernel_rfl)).symm.trans h0_) (by decide), fun h0_ => absurd ((hoff 23 (by kernel_rfl)).symm.trans h0_) (by decide), fun h0_ => absurd ((hoff 27 (by kernel_rfl)).symm.trans h0_) (by decide)⟩
      refine steps_cons ?_ ?_
      · rintro b a w' ⟨v16, v20, v26, v30, v37, v41, ha, Q_H0, Q_HB, Q_S16, Q_S20, Q_S26, Q_S30, Q_S37, Q_S41⟩ hb_ hon hoff
        refine ⟨_, rfl, fun K hK => ?_⟩
        have e18 : a.tmps[18]? = some ((.slice A0 l0.length c0)) := by rw [ha]; exact putSel_on (e := (4, 18, (.slice A0 l0.length c0))) 4 rfl rfl (hon 4 (by kernel_rfl)) rfl
        have e19 : a.tmps[19]? = some ((.int .i64 n)) := by rw [ha]; exact putSel_on (e := (5, 19, (.int .i64 n))) 5 rfl rfl (hon 5 (by kernel_rfl)) rfl
        replace ha := Aside0.mk ha
        have H0 := Aside0.mk Q_H0
        have HB := Aside0.mk Q_HB
        have S16 := Aside0.mk (Q_S16 (hon 2 (by kernel_rfl)))
        refine goes_ Try.func24 (by kernel_rfl) rfl #[.slice A0 l0.length c0, .int .i64 n] (by rfl) rfl rfl (by first | (simp only [List.map_toArray, List.map_cons, List.map_nil, Act.eval, Array.getD_eq_getD_getElem?, Option.getD_some, e18, e19]; done) | (simp only [List.map_toArray, List.map_cons, List.map_nil, Act.eval, Array.getD_eq_getD_getElem?, Option.getD_some, e18, e19]; rfl)) ?_
        refine (VaryRef.nPut _ l0 n _ H0.out (by have := HL.out; omega)).mono ?_
        rintro e w1_ ⟨v20, rfl, hg, hb⟩
        refine ⟨_, rfl, ?_⟩
        have hs := hg.sl
        clear hg
        refine hK.out _ _ ⟨v16, v20, v26, v30, v37, v41, (by rw [ha.out]; exact putSel_upk 6 hb_ rfl rfl rfl), H0.out.below hb, below_step HB.out hb, fun _ => S16.out.below hb, fun _ => hs, fun h0_ => absurd ((hoff 12 (by kernel_rfl)).symm.trans h0_) (by decide), fun h0_ => absurd ((hoff 16 (by kernel_rfl)).symm.trans h0_) (by decide), fun h0_ => absurd ((hoff 23 (by kernel_rfl)).symm.trans h0_) (by decide), fun h0_ => absurd ((hoff 27 (by kernel_rfl)).symm.trans h0_) (by decide)⟩
      refine steps_cons ?_ ?_
      · rintro b a w' ⟨v16, v20, v26, v30, v37, v41, ha, Q_H0, Q_HB, Q_S16, Q_S20, Q_S26, Q_S30, Q_S37, Q_S41⟩ hb_ hon hoff
        refine ⟨_, rfl, fun K hK => ?_⟩
        have e20 : a.tmps[20]? = some (v20) := by rw [ha]; exact putSel_on (e := (6, 20, v20)) 6 rfl rfl (hon 6 (by kernel_rfl)) rfl
        replace ha := Aside0.mk ha
        have H0 := Aside0.mk Q_H0
        have HB := Aside0.mk Q_HB
        have S16 := Aside0.mk (Q_S16 (hon 2 (by kernel_rfl)))
        have S20 := Aside0.mk (Q_S20 (hon 6 (by kernel_rfl)))
        have hc_ := Own.Sl.string (P := Try.prog) Try.underlying22 Try.underlying5 Try.underlying9 S20.out
        refine value_ (w1 := w') (v := (.string (strOfNums (Vy.putL l0 n)))) (by rfl) rfl ?_ ?_
        · go_simp
          (try simp only [i64_w])
          try rfl
        refine hK.out _ _ ⟨v16, v20, v26, v30, v37, v41, (by rw [ha.out]; exact putSel_upk 7 hb_ rfl rfl rfl), Q_H0, Q_HB, Q_S16, Q_S20, fun h0_ => absurd ((hoff 12 (by kernel_rfl)).symm.trans h0_) (by decide), fun h0_ => absurd ((hoff 16 (by kernel_rfl)).symm.trans h0_) (by decide), fun h0_ => absurd ((hoff 23 (by kernel_rfl)).symm.trans h0_) (by decide), fun h0_ => absurd ((hoff 27 (by kernel_rfl)).symm.trans h0_) (by decide)⟩
      refine steps_cons ?_ ?_
      · rintro b a w' ⟨v16, v20, v26, v30, v37, v41, ha, Q_H0, Q_HB, Q_S16, Q_S20, Q_S26, Q_S30, Q_S37, Q_S41⟩ hb_ hon hoff
        refine ⟨_, rfl, fun K hK => ?_⟩
        have e17 : a.tmps[17]? = some ((.string (strOfNums (Vy.putL l0 n)))) := by rw [ha]; exact putSel_on (e := (3, 17, (.string (strOfNums (Vy.putL l0 n))))) 3 rfl rfl (hon 3 (by kernel_rfl)) rfl
        have e21 : a.tmps[21]? = some ((.string (strOfNums (Vy.putL l0 n)))) := by rw [ha]; exact putSel_on (e := (7, 21, (.string (strOfNums (Vy.putL l0 n))))) 7 rfl rfl (hon 7 (by kernel_rfl)) rfl
        replace ha := Aside0.mk ha
        have H0 := Aside0.mk Q_H0
        have HB := Aside0.mk Q_HB
        have S16 := Aside0.mk (Q_S16 (hon 2 (by kernel_rfl)))
        have S20 := Aside0.mk (Q_S20 (hon 6 (by kernel_rfl)))
        refine value_ (w1 := w') (v := (.bool true)) (by rfl) rfl ?_ ?_
        · go_simp
          (try simp only [i64_w])
          try rfl
        refine hK.out _ _ ⟨v16, v20, v26, v30, v37, v41, (by rw [ha.out]; exact putSel_upk 8 hb_ rfl rfl rfl), Q_H0, Q_HB, Q_S16, Q_S20, fun h0_ => absurd ((hoff 12 (by kernel_rfl)).symm.trans h0_) (by decide), fun h0_ => absurd ((hoff 16 (by kernel_rfl)).symm.trans h0_) (by decide), fun h0_ => absurd ((hoff 23 (by kernel_rfl)).symm.trans h0_) (by decide), fun h0_ => absurd ((hoff 27 (by kernel_rfl)).symm.trans h0_) (by decide)⟩
      refine steps_cons ?_ ?_
      · rintro b a w' ⟨v16, v20, v26, v30, v37, v41, ha, Q_H0, Q_HB, Q_S16, Q_S20, Q_S26, Q_S30, Q_S37, Q_S41⟩ hb_ hon hoff
        refine ⟨_, rfl, fun K hK => ?_⟩
        have e22 : a.tmps[22]? = some ((.bool true)) := by rw [ha]; exact putSel_on (e := (8, 22, (.bool true))) 8 rfl rfl (hon 8 (by kernel_rfl)) rfl
        replace ha := Aside0.mk ha
        have H0 := Aside0.mk Q_H0
        have HB := Aside0.mk Q_HB
        have S16 := Aside0.mk (Q_S16 (hon 2 (by kernel_rfl)))
        have S20 := Aside0.mk (Q_S20 (hon 6 (by kernel_rfl)))
        refine value_ (w1 := w') (v := (.bool true)) (by rfl) rfl ?_ ?_
        · go_simp
          (try simp only [i64_w])
          try rfl
        refine hK.out _ _ ⟨v16, v20, v26, v30, v37, v41, (by rw [ha.out]; exact putSel_upk 9 hb_ rfl rfl rfl), Q_H0, Q_HB, Q_S16, Q_S20, fun h0_ => absurd ((hoff 12 (by kernel_rfl)).symm.trans h0_) (by decide), fun h0_ => absurd ((hoff 16 (by kernel_rfl)).symm.trans h0_) (by decide), fun h0_ => absurd ((hoff 23 (by kernel_rfl)).symm.trans h0_) (by decide), fun h0_ => absurd ((hoff 27 (by kernel_rfl)).symm.trans h0_) (by decide)⟩
      refine steps_cons ?_ ?_
      · rintro b a w' ⟨v16, v20, v26, v30, v37, v41, ha, Q_H0, Q_HB, Q_S16, Q_S20, Q_S26, Q_S30, Q_S37, Q_S41⟩ hb_ hon hoff
        refine ⟨_, rfl, fun K hK => ?_⟩
        have e0 : a.tmps[0]? = some ((.slice A0 l0.length c0)) := by rw [ha]; exact (putSel_off rfl).trans rfl
        have e23 : a.tmps[23]? = some ((.bool true)) := by rw [ha]; exact putSel_on (e := (9, 23, (.bool true))) 9 rfl rfl (hon 9 (by kernel_rfl)) rfl
        replace ha := Aside0.mk ha
        have H0 := Aside0.mk Q_H0
        have HB := Aside0.mk Q_HB
        have S16 := Aside0.mk (Q_S16 (hon 2 (by kernel_rfl)))
        have S20 := Aside0.mk (Q_S20 (hon 6 (by kernel_rfl)))
        refine value_ (w1 := w') (v := (.slice A0 l0.length c0)) (wanted_on rfl rfl rfl (e23.trans (by first | rfl | (simp [*]; done)))) rfl ?_ ?_
        · go_simp
          (try simp only [i64_w])
          try rfl
        refine hK.out _ _ ⟨v16, v20, v26, v30, v37, v41, (by rw [ha.out]; exact putSel_upk 10 hb_ rfl rfl rfl), Q_H0, Q_HB, Q_S16, Q_S20, fun h0_ => absurd ((hoff 12 (by kernel_rfl)).symm.trans h0_) (by decide), fun h0_ => absurd ((hoff 16 (by kernel_rfl)).symm.trans h0_) (by decide), fun h0_ => absurd ((hoff 23 (by kernel_rfl)).symm.trans h0_) (by decide), fun h0_ => absurd ((hoff 27 (by kernel_rfl)).symm.trans h0_) (by decide)⟩
      refine steps_cons ?_ ?_
      · rintro b a w' ⟨v16, v20, v26, v30, v37, v41, ha, Q_H0, Q_HB, Q_S16, Q_S20, Q_S26, Q_S30, Q_S37, Q_S41⟩ hb_ hon hoff
        refine ⟨_, rfl, fun K hK => ?_⟩
        have e1 : a.tmps[1]? = some ((.int .i64 n)) := by rw [ha]; exact (putSel_off rfl).trans rfl
        have e23 : a.tmps[23]? = some ((.bool true)) := by rw [ha]; exact putSel_on (e := (9, 23, (.bool true))) 9 rfl rfl (hon 9 (by kernel_rfl)) rfl
        replace ha := Aside0.mk ha
        have H0 := Aside0.mk Q_H0
        have HB := Aside0.mk Q_HB
        have S16 := Aside0.mk (Q_S16 (hon 2 (by kernel_rfl)))
        have S20 := Aside0.mk (Q_S20 (hon 6 (by kernel_rfl)))
        refine value_ (w1 := w') (v := (.int .i64 n)) (wanted_on rfl rfl rfl (e23.trans (by first | rfl | (simp [*]; done)))) rfl ?_ ?_
        · go_simp
          (try simp only [i64_w])
          try rfl
        refine hK.out _ _ ⟨v16, v20, v26, v30, v37, v41, (by rw [ha.out]; exact putSel_upk 11 hb_ rfl rfl rfl), Q_H0, Q_HB, Q_S16, Q_S20, fun h0_ => absurd ((hoff 12 (by kernel_rfl)).symm.trans h0_) (by decide), fun h0_ => absurd ((hoff 16 (by kernel_rfl)).symm.trans h0_) (by decide), fun h0_ => absurd ((hoff 23 (by kernel_rfl)).symm.trans h0_) (by decide), fun h0_ => absurd ((hoff 27 (by kernel_rfl)).symm.trans h0_) (by decide)⟩
      refine steps_cons ?_ ?_
      · rintro b a w' ⟨v16, v20, v26, v30, v37, v41, ha, Q_H0, Q_HB, Q_S16, Q_S20, Q_S26, Q_S30, Q_S37, Q_S41⟩ hb_ hon hoff
        refine ⟨_, rfl, fun K hK => ?_⟩
        have e24 : a.tmps[24]? = some ((.slice A0 l0.length c0)) := by rw [ha]; exact putSel_on (e := (10, 24, (.slice A0 l0.length c0))) 10 rfl rfl (hon 10 (by kernel_rfl)) rfl
        have e25 : a.tmps[25]? = some ((.int .i64 n)) := by rw [ha]; exact putSel_on (e := (11, 25, (.int .i64 n))) 11 rfl rfl (hon 11 (by kernel_rfl)) rfl
        have e23 : a.tmps[23]? = some ((.bool true)) := by rw [ha]; exact putSel_on (e := (9, 23, (.bool true))) 9 rfl rfl (hon 9 (by kernel_rfl)) rfl
        replace ha := Aside0.mk ha
        have H0 := Aside0.mk Q_H0
        have HB := Aside0.mk Q_HB
        have S16 := Aside0.mk (Q_S16 (hon 2 (by kernel_rfl)))
        have S20 := Aside0.mk (Q_S20 (hon 6 (by kernel_rfl)))
        refine goes_ Try.func25 (by kernel_rfl) rfl #[.slice A0 l0.length c0, .int .i64 n] (wanted_on rfl rfl rfl (e23.trans (by first | rfl | (simp [*]; done)))) rfl rfl (by first | (simp only [List.map_toArray, List.map_cons, List.map_nil, Act.eval, Array.getD_eq_getD_getElem?, Option.getD_some, e24, e25, e23]; done) | (simp only [List.map_toArray, List.map_cons, List.map_nil, Act.eval, Array.getD_eq_getD_getElem?, Option.getD_some, e24, e25, e23]; rfl)) ?_
        refine (VaryP.nPutSigned _ l0 n _ H0.out (by have := HL.out; omega)).mono ?_
        rintro e w1_ ⟨v26, rfl, hg, hb⟩
        refine ⟨_, rfl, ?_⟩
        have hs := hg.sl
        clear hg
        refine hK.out _ _ ⟨v16, v20, v26, v30, v37, v41, (by rw [ha.out]; exact putSel_upk 12 hb_ rfl rfl rfl), H0.out.below hb, below_step HB.out hb, fun _ => S16.out.below hb, fun _ => S20.out.below hb, fun _ => hs, fun h0_ => absurd ((hoff 16 (by kernel_rfl)).symm.trans h0_) (by decide), fun h0_ => absurd ((hoff 23 (by kernel_rfl)).symm.trans h0_) (by decide), fun h0_ => absurd ((hoff 27 (by kernel_rfl)).symm.trans h0_) (by decide)⟩
      refine steps_cons ?_ ?_
      · rintro b a w' ⟨v16, v20, v26, v30, v37, v41, ha, Q_H0, Q_HB, Q_S16, Q_S20, Q_S26, Q_S30, Q_S37, Q_S41⟩ hb_ hon hoff
        refine ⟨_, rfl, fun K hK => ?_⟩
        have e26 : a.tmps[26]? = some (v26) := by rw [ha]; exact putSel_on (e := (12, 26, v26)) 12 rfl rfl (hon 12 (by kernel_rfl)) rfl
        have e23 : a.tmps[23]? = some ((.bool true)) := by rw [ha]; exact putSel_on (e := (9, 23, (.bool true))) 9 rfl rfl (hon 9 (by kernel_rfl)) rfl
        replace ha := Aside0.mk ha
        have H0 := Aside0.mk Q_H0
        have HB := Aside0.mk Q_HB
        have S16 := Aside0.mk (Q_S16 (hon 2 (by kernel_rfl)))
        have S20 := Aside0.mk (Q_S20 (hon 6 (by kernel_rfl)))
        have S26 := Aside0.mk (Q_S26 (hon 12 (by kernel_rfl)))
        have hc_ := Own.Sl.string (P := Try.prog) Try.underlying22 Try.underlying5 Try.underlying9 S26.out
        refine value_ (w1 := w') (v := (.string (strOfNums (Vy.putSL l0 n)))) (wanted_on rfl rfl rfl (e23.trans (by first | rfl | (simp [*]; done)))) rfl ?_ ?_
        · go_simp
          (try simp only [i64_w])
          try rfl
        refine hK.out _ _ ⟨v16, v20, v26, v30, v37, v41, (by rw [ha.out]; exact putSel_upk 13 hb_ rfl rfl rfl), Q_H0, Q_HB, Q_S16, Q_S20, Q_S26, Q_S30, fun h0_ => absurd ((hoff 23 (by kernel_rfl)).symm.trans h0_) (by decide), fun h0_ => absurd ((hoff 27 (by kernel_rfl)).symm.trans h0_) (by decide)⟩
      refine steps_cons ?_ ?_
      · rintro b a w' ⟨v16, v20, v26, v30, v37, v41, ha, Q_H0, Q_HB, Q_S16, Q_S20, Q_S26, Q_S30, Q_S37, Q_S41⟩ hb_ hon hoff
        refine ⟨_, rfl, fun K hK => ?_⟩
        have e0 : a.tmps[0]? = some ((.slice A0 l0.length c0)) := by rw [ha]; exact (putSel_off rfl).trans rfl
        have e23 : a.tmps[23]? = some ((.bool true)) := by rw [ha]; exact putSel_on (e := (9, 23, (.bool true))) 9 rfl rfl (hon 9 (by kernel_rfl)) rfl
        replace ha := Aside0.mk ha
        have H0 := Aside0.mk Q_H0
        have HB := Aside0.mk Q_HB
        have S16 := Aside0.mk (Q_S16 (hon 2 (by kernel_rfl)))
        have S20 := Aside0.mk (Q_S20 (hon 6 (by kernel_rfl)))
        refine value_ (w1 := w') (v := (.slice A0 l0.length c0)) (wanted_on rfl rfl rfl (e23.trans (by first | rfl | (simp [*]; done)))) rfl ?_ ?_
        · go_simp
          (try simp only [i64_w])
          try rfl
        refine hK.out _ _ ⟨v16, v20, v26, v30, v37, v41, (by rw [ha.out]; exact putSel_upk 14 hb_ rfl rfl rfl), Q_H0, Q_HB, Q_S16, Q_S20, Q_S26, fun h0_ => absurd ((hoff 16 (by kernel_rfl)).symm.trans h0_) (by decide), fun h0_ => absurd ((hoff 23 (by kernel_rfl)).symm.trans h0_) (by decide), fun h0_ => absurd ((hoff 27 (by kernel_rfl)).symm.trans h0_) (by decide)⟩
      refine steps_cons ?_ ?_
      · rintro b a w' ⟨v16, v20, v26, v30, v37, v41, ha, Q_H0, Q_HB, Q_S16, Q_S20, Q_S26, Q_S30, Q_S37, Q_S41⟩ hb_ hon hoff
        refine ⟨_, rfl, fun K hK => ?_⟩
        have e1 : a.tmps[1]? = some ((.int .i64 n)) := by rw [ha]; exact (putSel_off rfl).trans rfl
        have e23 : a.tmps[23]? = some ((.bool true)) := by rw [ha]; exact putSel_on (e := (9, 23, (.bool true))) 9 rfl rfl (hon 9 (by kernel_rfl)) rfl
        replace ha := Aside0.mk ha
        have H0 := Aside0.mk Q_H0
        have HB := Aside0.mk Q_HB
        have S16 := Aside0.mk (Q_S16 (hon 2 (by kernel_rfl)))
        have S20 := Aside0.mk (Q_S20 (hon 6 (by kernel_rfl)))
        refine value_ (w1 := w') (v := (.int .i64 n)) (wanted_on rfl rfl rfl (e23.trans (by first | rfl | (simp [*]; done)))) rfl ?_ ?_
        · go_simp
          (try simp only [i64_w])
          try rfl
        refine hK.out _ _ ⟨v16, v20, v26, v30, v37, v41, (by rw [ha.out]; exact putSel_upk 15 hb_ rfl rfl rfl), Q_H0, Q_HB, Q_S16, Q_S20, Q_S26, fun h0_ => absurd ((hoff 16 (by kernel_rfl)).symm.trans h0_) (by decide), fun h0_ => absurd ((hoff 23 (by kernel_rfl)).symm.trans h0_) (by decide), fun h0_ => absurd ((hoff 27 (by kernel_rfl)).symm.trans h0_) (by decide)⟩
      refine steps_cons ?_ ?_
      · rintro b a w' ⟨v16, v20, v26, v30, v37, v41, ha, Q_H0, Q_HB, Q_S16, Q_S20, Q_S26, Q_S30, Q_S37, Q_S41⟩ hb_ hon hoff
        refine ⟨_, rfl, fun K hK => ?_⟩
        have e28 : a.tmps[28]? = some ((.slice A0 l0.length c0)) := by rw [ha]; exact putSel_on (e := (14, 28, (.slice A0 l0.length c0))) 14 rfl rfl (hon 14 (by kernel_rfl)) rfl
        have e29 : a.tmps[29]? = some ((.int .i64 n)) := by rw [ha]; exact putSel_on (e := (15, 29, (.int .i64 n))) 15 rfl rfl (hon 15 (by kernel_rfl)) rfl
        have e23 : a.tmps[23]? = some ((.bool true)) := by rw [ha]; exact putSel_on (e := (9, 23, (.bool true))) 9 rfl rfl (hon 9 (by kernel_rfl)) rfl
        replace ha := Aside0.mk ha
        have H0 := Aside0.mk Q_H0
        have HB := Aside0.mk Q_HB
        have S16 := Aside0.mk (Q_S16 (hon 2 (by kernel_rfl)))
        have S20 := Aside0.mk (Q_S20 (hon 6 (by kernel_rfl)))
        have S26 := Aside0.mk (Q_S26 (hon 12 (by kernel_rfl)))
        refine goes_ Try.func26 (by kernel_rfl) rfl #[.slice A0 l0.length c0, .int .i64 n] (wanted_on rfl rfl rfl (e23.trans (by first | rfl | (simp [*]; done)))) rfl rfl (by first | (simp only [List.map_toArray, List.map_cons, List.map_nil, Act.eval, Array.getD_eq_getD_getElem?, Option.getD_some, e28, e29, e23]; done) | (simp only [List.map_toArray, List.map_cons, List.map_nil, Act.eval, Array.getD_eq_getD_getElem?, Option.getD_some, e28, e29, e23]; rfl)) ?_
        refine (VaryRef.nPutSigned _ l0 n _ H0.out (by have := HL.out; omega)).mono ?_
        rintro e w1_ ⟨v30, rfl, hg, hb⟩
        refine ⟨_, rfl, ?_⟩
        have hs := hg.sl
        clear hg
        refine hK.out _ _ ⟨v16, v20, v26, v30, v37, v41, (by rw [ha.out]; exact putSel_upk 16 hb_ rfl rfl rfl), H0.out.below hb, below_step HB.out hb, fun _ => S16.out.below hb, fun _ => S20.out.below hb, fun _ => S26.out.below hb, fun _ => hs, fun h0_ => absurd ((hoff 23 (by kernel_rfl)).symm.trans h0_) (by decide), fun h0_ => absurd ((hoff 27 (by kernel_rfl)).symm.trans h0_) (by decide)⟩
      refine steps_cons ?_ ?_
      · rintro b a w' ⟨v16, v20, v26, v30, v37, v41, ha, Q_H0, Q_HB, Q_S16, Q_S20, Q_S26, Q_S30, Q_S37, Q_S41⟩ hb_ hon hoff
        refine ⟨_, rfl, fun K hK => ?_⟩
        have e30 : a.tmps[30]? = some (v30) := by rw [ha]; exact putSel_on (e := (16, 30, v30)) 16 rfl rfl (hon 16 (by kernel_rfl)) rfl
        have e23 : a.tmps[23]? = some ((.bool true)) := by rw [ha]; exact putSel_on (e := (9, 23, (.bool true))) 9 rfl rfl (hon 9 (by kernel_rfl)) rfl
        replace ha := Aside0.mk ha
        have H0 := Aside0.mk Q_H0
        have HB := Aside0.mk Q_HB
        have S16 := Aside0.mk (Q_S16 (hon 2 (by kernel_rfl)))
        have S20 := Aside0.mk (Q_S20 (hon 6 (by kernel_rfl)))
        have S26 := Aside0.mk (Q_S26 (hon 12 (by kernel_rfl)))
        have S30 := Aside0.mk (Q_S30 (hon 16 (by kernel_rfl)))
        have hc_ := Own.Sl.string (P := Try.prog) Try.underlying22 Try.underlying5 Try.underlying9 S30.out
        refine value_ (w1 := w') (v := (.string (strOfNums (Vy.putSL l0 n)))) (wanted_on rfl rfl rfl (e23.trans (by first | rfl | (simp [*]; done)))) rfl ?_ ?_
        · go_simp
          (try simp only [i64_w])
          try rfl
        refine hK.out _ _ ⟨v16, v20, v26, v30, v37, v41, (by rw [ha.out]; exact putSel_upk 17 hb_ rfl rfl rfl), Q_H0, Q_HB, Q_S16, Q_S20, Q_S26, Q_S30, fun h0_ => absurd ((hoff 23 (by kernel_rfl)).symm.trans h0_) (by decide), fun h0_ => absurd ((hoff 27 (by kernel_rfl)).symm.trans h0_) (by decide)⟩
      refine steps_cons ?_ ?_
      · rintro b a w' ⟨v16, v20, v26, v30, v37, v41, ha, Q_H0, Q_HB, Q_S16, Q_S20, Q_S26, Q_S30, Q_S37, Q_S41⟩ hb_ hon hoff
        refine ⟨_, rfl, fun K hK => ?_⟩
        have e27 : a.tmps[27]? = some ((.string (strOfNums (Vy.putSL l0 n)))) := by rw [ha]; exact putSel_on (e := (13, 27, (.string (strOfNums (Vy.putSL l0 n))))) 13 rfl rfl (hon 13 (by kernel_rfl)) rfl
        have e31 : a.tmps[31]? = some ((.string (strOfNums (Vy.putSL l0 n)))) := by rw [ha]; exact putSel_on (e := (17, 31, (.string (strOfNums (Vy.putSL l0 n))))) 17 rfl rfl (hon 17 (by kernel_rfl)) rfl
        have e23 : a.tmps[23]? = some ((.bool true)) := by rw [ha]; exact putSel_on (e := (9, 23, (.bool true))) 9 rfl rfl (hon 9 (by kernel_rfl)) rfl
        replace ha := Aside0.mk ha
        have H0 := Aside0.mk Q_H0
        have HB := Aside0.mk Q_HB
        have S16 := Aside0.mk (Q_S16 (hon 2 (by kernel_rfl)))
        have S20 := Aside0.mk (Q_S20 (hon 6 (by kernel_rfl)))
        have S26 := Aside0.mk (Q_S26 (hon 12 (by kernel_rfl)))
        have S30 := Aside0.mk (Q_S30 (hon 16 (by kernel_rfl)))
        refine value_ (w1 := w') (v := (.bool true)) (wanted_on rfl rfl rfl (e23.trans (by first | rfl | (simp [*]; done)))) rfl ?_ ?_
        · go_simp
          (try simp only [i64_w])
          try rfl
        refine hK.out _ _ ⟨v16, v20, v26, v30, v37, v41, (by rw [ha.out]; exact putSel_upk 18 hb_ rfl rfl rfl), Q_H0, Q_HB, Q_S16, Q_S20, Q_S26, Q_S30, fun h0_ => absurd ((hoff 23 (by kernel_rfl)).symm.trans h0_) (by decide), fun h0_ => absurd ((hoff 27 (by kernel_rfl)).symm.trans h0_) (by decide)⟩
      refine steps_cons ?_ ?_
      · rintro b a w' ⟨v16, v20, v26, v30, v37, v41, ha, Q_H0, Q_HB, Q_S16, Q_S20, Q_S26, Q_S30, Q_S37, Q_S41⟩ hb_ hon hoff
        refine ⟨_, rfl, fun K hK => ?_⟩
        have e23 : a.tmps[23]? = some ((.bool true)) := by rw [ha]; exact putSel_on (e := (9, 23, (.bool true))) 9 rfl rfl (hon 9 (by kernel_rfl)) rfl
        have e32 : a.tmps[32]? = some ((.bool true)) := by rw [ha]; exact putSel_on (e := (18, 32, (.bool true))) 18 rfl rfl (hon 18 (by kernel_rfl)) rfl
        replace ha := Aside0.mk ha
        have H0 := Aside0.mk Q_H0
        have HB := Aside0.mk Q_HB
        have S16 := Aside0.mk (Q_S16 (hon 2 (by kernel_rfl)))
        have S20 := Aside0.mk (Q_S20 (hon 6 (by kernel_rfl)))
        have S26 := Aside0.mk (Q_S26 (hon 12 (by kernel_rfl)))
        have S30 := Aside0.mk (Q_S30 (hon 16 (by kernel_rfl)))
        refine value_ (w1 := w') (v := (.bool true)) (by rfl) rfl ?_ ?_
        · go_simp
          (try simp only [i64_w])
          try rfl
        refine hK.out _ _ ⟨v16, v20, v26, v30, v37, v41, (by rw [ha.out]; exact putSel_upk 19 hb_ rfl rfl rfl), Q_H0, Q_HB, Q_S16, Q_S20, Q_S26, Q_S30, fun h0_ => absurd ((hoff 23 (by kernel_rfl)).symm.trans h0_) (by decide), fun h0_ => absurd ((hoff 27 (by kernel_rfl)).symm.trans h0_) (by decide)⟩
      refine steps_cons ?_ ?_
      · rintro b a w' ⟨v16, v20, v26, v30, v37, v41, ha, Q_H0, Q_HB, Q_S16, Q_S20, Q_S26, Q_S30, Q_S37, Q_S41⟩ hb_ hon hoff
        refine ⟨_, rfl, fun K hK => ?_⟩
        have e33 : a.tmps[33]? = some ((.bool true)) := by rw [ha]; exact putSel_on (e := (19, 33, (.bool true))) 19 rfl rfl (hon 19 (by kernel_rfl)) rfl
        replace ha := Aside0.mk ha
        have H0 := Aside0.mk Q_H0
        have HB := Aside0.mk Q_HB
        have S16 := Aside0.mk (Q_S16 (hon 2 (by kernel_rfl)))
        have S20 := Aside0.mk (Q_S20 (hon 6 (by kernel_rfl)))
        have S26 := Aside0.mk (Q_S26 (hon 12 (by kernel_rfl)))
        have S30 := Aside0.mk (Q_S30 (hon 16 (by kernel_rfl)))
        refine value_ (w1 := w') (v := (.bool true)) (by rfl) rfl ?_ ?_
        · go_simp
          (try simp only [i64_w])
          try rfl
        refine hK.out _ _ ⟨v16, v20, v26, v30, v37, v41, (by rw [ha.out]; exact putSel_upk 20 hb_ rfl rfl rfl), Q_H0, Q_HB, Q_S16, Q_S20, Q_S26, Q_S30, fun h0_ => absurd ((hoff 23 (by kernel_rfl)).symm.trans h0_) (by decide), fun h0_ => absurd ((hoff 27 (by kernel_rfl)).symm.trans h0_) (by decide)⟩
      refine steps_cons ?_ ?_
      · rintro b a w' ⟨v16, v20, v26, v30, v37, v41, ha, Q_H0, Q_HB, Q_S16, Q_S20, Q_S26, Q_S30, Q_S37, Q_S41⟩ hb_ hon hoff
        refine ⟨_, rfl, fun K hK => ?_⟩
        have e0 : a.tmps[0]? = some ((.slice A0 l0.length c0)) := by rw [ha]; exact (putSel_off rfl).trans rfl
        have e34 : a.tmps[34]? = some ((.bool true)) := by rw [ha]; exact putSel_on (e := (20, 34, (.bool true))) 20 rfl rfl (hon 20 (by kernel_rfl)) rfl
        replace ha := Aside0.mk ha
        have H0 := Aside0.mk Q_H0
        have HB := Aside0.mk Q_HB
        have S16 := Aside0.mk (Q_S16 (hon 2 (by kernel_rfl)))
        have S20 := Aside0.mk (Q_S20 (hon 6 (by kernel_rfl)))
        have S26 := Aside0.mk (Q_S26 (hon 12 (by kernel_rfl)))
        have S30 := Aside0.mk (Q_S30 (hon 16 (by kernel_rfl)))
        refine value_ (w1 := w') (v := (.slice A0 l0.length c0)) (wanted_on rfl rfl rfl (e34.trans (by first | rfl | (simp [*]; done)))) rfl ?_ ?_
        · go_simp
          (try simp only [i64_w])
          try rfl
        refine hK.out _ _ ⟨v16, v20, v26, v30, v37, v41, (by rw [ha.out]; exact putSel_upk 21 hb_ rfl rfl rfl), Q_H0, Q_HB, Q_S16, Q_S20, Q_S26, Q_S30, fun h0_ => absurd ((hoff 23 (by kernel_rfl)).symm.trans h0_) (by decide), fun h0_ => absurd ((hoff 27 (by kernel_rfl)).symm.trans h0_) (by decide)⟩
      refine steps_cons ?_ ?_
      · rintro b a w' ⟨v16, v20, v26, v30, v37, v41, ha, Q_H0, Q_HB, Q_S16, Q_S20, Q_S26, Q_S30, Q_S37, Q_S41⟩ hb_ hon hoff
        refine ⟨_, rfl, fun K hK => ?_⟩
        have e2 : a.tmps[2]? = some ((.string s)) := by rw [ha]; exact (putSel_off rfl).trans rfl
        have e34 : a.tmps[34]? = some ((.bool true)) := by rw [ha]; exact putSel_on (e := (20, 34, (.bool true))) 20 rfl rfl (hon 20 (by kernel_rfl)) rfl
        replace ha := Aside0.mk ha
        have H0 := Aside0.mk Q_H0
        have HB := Aside0.mk Q_HB
        have S16 := Aside0.mk (Q_S16 (hon 2 (by kernel_rfl)))
        have S20 := Aside0.mk (Q_S20 (hon 6 (by kernel_rfl)))
        have S26 := Aside0.mk (Q_S26 (hon 12 (by kernel_rfl)))
        have S30 := Aside0.mk (Q_S30 (hon 16 (by kernel_rfl)))
        refine value_ (w1 := w') (v := (.string s)) (wanted_on rfl rfl rfl (e34.trans (by first | rfl | (simp [*]; done)))) rfl ?_ ?_
        · go_simp
          (try simp only [i64_w])
          try rfl
        refine hK.out _ _ ⟨v16, v20, v26, v30, v37, v41, (by rw [ha.out]; exact putSel_upk 22 hb_ rfl rfl rfl), Q_H0, Q_HB, Q_S16, Q_S20, Q_S26, Q_S30, fun h0_ => absurd ((hoff 23 (by kernel_rfl)).symm.trans h0_) (by decide), fun h0_ => absurd ((hoff 27 (by kernel_rfl)).symm.trans h0_) (by decide)⟩
      refine steps_cons ?_ ?_
      · rintro b a w' ⟨v16, v20, v26, v30, v37, v41, ha, Q_H0, Q_HB, Q_S16, Q_S20, Q_S26, Q_S30, Q_S37, Q_S41⟩ hb_ hon hoff
        refine ⟨_, rfl, fun K hK => ?_⟩
        have e35 : a.tmps[35]? = some ((.slice A0 l0.length c0)) := by rw [ha]; exact putSel_on (e := (21, 35, (.slice A0 l0.length c0))) 21 rfl rfl (hon 21 (by kernel_rfl)) rfl
        have e36 : a.tmps[36]? = some ((.string s)) := by rw [ha]; exact putSel_on (e := (22, 36, (.string s))) 22 rfl rfl (hon 22 (by kernel_rfl)) rfl
        have e34 : a.tmps[34]? = some ((.bool true)) := by rw [ha]; exact putSel_on (e := (20, 34, (.bool true))) 20 rfl rfl (hon 20 (by kernel_rfl)) rfl
        replace ha := Aside0.mk ha
        have H0 := Aside0.mk Q_H0
        have HB := Aside0.mk Q_HB
        have S16 := Aside0.mk (Q_S16 (hon 2 (by kernel_rfl)))
        have S20 := Aside0.mk (Q_S20 (hon 6 (by kernel_rfl)))
        have S26 := Aside0.mk (Q_S26 (hon 12 (by kernel_rfl)))
        have S30 := Aside0.mk (Q_S30 (hon 16 (by kernel_rfl)))
        refine goes_ Try.func27 (by kernel_rfl) rfl #[.slice A0 l0.length c0, .string s] (wanted_on rfl rfl rfl (e34.trans (by first | rfl | (simp [*]; done)))) rfl rfl (by first | (simp only [List.map_toArray, List.map_cons, List.map_nil, Act.eval, Array.getD_eq_getD_getElem?, Option.getD_some, e35, e36, e34]; done) | (simp only [List.map_toArray, List.map_cons, List.map_nil, Act.eval, Array.getD_eq_getD_getElem?, Option.getD_some, e35, e36, e34]; rfl)) ?_
        refine (VaryP.nPutText _ l0 s _ H0.out (by have := HL.out; omega)).mono ?_
        rintro e w1_ ⟨v37, rfl, hg, hb⟩
        refine ⟨_, rfl, ?_⟩
        have hs := hg.sl
        clear hg
        refine hK.out _ _ ⟨v16, v20, v26, v30, v37, v41, (by rw [ha.out]; exact putSel_upk 23 hb_ rfl rfl rfl), H0.out.below hb, below_step HB.out hb, fun _ => S16.out.below hb, fun _ => S20.out.below hb, fun _ => S26.out.below hb, fun _ => S30.out.below hb, fun _ => hs, fun h0_ => absurd ((hoff 27 (by kernel_rfl)).symm.trans h0_) (by decide)⟩
      refine steps_cons ?_ ?_
      · rintro b a w' ⟨v16, v20, v26, v30, v37, v41, ha, Q_H0, Q_HB, Q_S16, Q_S20, Q_S26, Q_S30, Q_S37, Q_S41⟩ hb_ hon hoff
        refine ⟨_, rfl, fun K hK => ?_⟩
        have e37 : a.tmps[37]? = some (v37) := by rw [ha]; exact putSel_on (e := (23, 37, v37)) 23 rfl rfl (hon 23 (by kernel_rfl)) rfl
        have e34 : a.tmps[34]? = some ((.bool true)) := by rw [ha]; exact putSel_on (e := (20, 34, (.bool true))) 20 rfl rfl (hon 20 (by kernel_rfl)) rfl
        replace ha := Aside0.mk ha
        have H0 := Aside0.mk Q_H0
        have HB := Aside0.mk Q_HB
        have S16 := Aside0.mk (Q_S16 (hon 2 (by kernel_rfl)))
        have S20 := Aside0.mk (Q_S20 (hon 6 (by kernel_rfl)))
        have S26 := Aside0.mk (Q_S26 (hon 12 (by kernel_rfl)))
        have S30 := Aside0.mk (Q_S30 (hon 16 (by kernel_rfl)))
        have S37 := Aside0.mk (Q_S37 (hon 23 (by kernel_rfl)))
        have hc_ := Own.Sl.string (P := Try.prog) Try.underlying22 Try.underlying5 Try.underlying9 S37.out
        refine value_ (w1 := w') (v := (.string (strOfNums (Vy.putTL l0 (Own.numsOf s))))) (wanted_on rfl rfl rfl (e34.trans (by first | rfl | (simp [*]; done)))) rfl ?_ ?_
        · go_simp
          (try simp only [i64_w])
          try rfl
        refine hK.out _ _ ⟨v16, v20, v26, v30, v37, v41, (by rw [ha.out]; exact putSel_upk 24 hb_ rfl rfl rfl), Q_H0, Q_HB, Q_S16, Q_S20, Q_S26, Q_S30, Q_S37, Q_S41⟩
      refine steps_cons ?_ ?_
      · rintro b a w' ⟨v16, v20, v26, v30, v37, v41, ha, Q_H0, Q_HB, Q_S16, Q_S20, Q_S26, Q_S30, Q_S37, Q_S41⟩ hb_ hon hoff
        refine ⟨_, rfl, fun K hK => ?_⟩
        have e0 : a.tmps[0]? = some ((.slice A0 l0.length c0)) := by rw [ha]; exact (putSel_off rfl).trans rfl
        have e34 : a.tmps[34]? = some ((.bool true)) := by rw [ha]; exact putSel_on (e := (20, 34, (.bool true))) 20 rfl rfl (hon 20 (by kernel_rfl)) rfl
        replace ha := Aside0.mk ha
        have H0 := Aside0.mk Q_H0
        have HB := Aside0.mk Q_HB
        have S16 := Aside0.mk (Q_S16 (hon 2 (by kernel_rfl)))
        have S20 := Aside0.mk (Q_S20 (hon 6 (by kernel_rfl)))
        have S26 := Aside0.mk (Q_S26 (hon 12 (by kernel_rfl)))
        have S30 := Aside0.mk (Q_S30 (hon 16 (by kernel_rfl)))
        refine value_ (w1 := w') (v := (.slice A0 l0.length c0)) (wanted_on rfl rfl rfl (e34.trans (by first | rfl | (simp [*]; done)))) rfl ?_ ?_
        · go_simp
          (try simp only [i64_w])
          try rfl
        refine hK.out _ _ ⟨v16, v20, v26, v30, v37, v41, (by rw [ha.out]; exact putSel_upk 25 hb_ rfl rfl rfl), Q_H0, Q_HB, Q_S16, Q_S20, Q_S26, Q_S30, Q_S37, fun h0_ => absurd ((hoff 27 (by kernel_rfl)).symm.trans h0_) (by decide)⟩
      refine steps_cons ?_ ?_
      · rintro b a w' ⟨v16, v20, v26, v30, v37, v41, ha, Q_H0, Q_HB, Q_S16, Q_S20, Q_S26, Q_S30, Q_S37, Q_S41⟩ hb_ hon hoff
        refine ⟨_, rfl, fun K hK => ?_⟩
        have e2 : a.tmps[2]? = some ((.string s)) := by rw [ha]; exact (putSel_off rfl).trans rfl
        have e34 : a.tmps[34]? = some ((.bool true)) := by rw [ha]; exact putSel_on (e := (20, 34, (.bool true))) 20 rfl rfl (hon 20 (by kernel_rfl)) rfl
        replace ha := Aside0.mk ha
        have H0 := Aside0.mk Q_H0
        have HB := Aside0.mk Q_HB
        have S16 := Aside0.mk (Q_S16 (hon 2 (by kernel_rfl)))
        have S20 := Aside0.mk (Q_S20 (hon 6 (by kernel_rfl)))
        have S26 := Aside0.mk (Q_S26 (hon 12 (by kernel_rfl)))
        have S30 := Aside0.mk (Q_S30 (hon 16 (by kernel_rfl)))
        refine value_ (w1 := w') (v := (.string s)) (wanted_on rfl rfl rfl (e34.trans (by first | rfl | (simp [*]; done)))) rfl ?_ ?_
        · go_simp
          (try simp only [i64_w])
          try rfl
        refine hK.out _ _ ⟨v16, v20, v26, v30, v37, v41, (by rw [ha.out]; exact putSel_upk 26 hb_ rfl rfl rfl), Q_H0, Q_HB, Q_S16, Q_S20, Q_S26, Q_S30, Q_S37, fun h0_ => absurd ((hoff 27 (by kernel_rfl)).symm.trans h0_) (by decide)⟩
      refine steps_cons ?_ ?_
      · rintro b a w' ⟨v16, v20, v26, v30, v37, v41, ha, Q_H0, Q_HB, Q_S16, Q_S20, Q_S26, Q_S30, Q_S37, Q_S41⟩ hb_ hon hoff
        refine ⟨_, rfl, fun K hK => ?_⟩
        have e39 : a.tmps[39]? = some ((.slice A0 l0.length c0)) := by rw [ha]; exact putSel_on (e := (25, 39, (.slice A0 l0.length c0))) 25 rfl rfl (hon 25 (by kernel_rfl)) rfl
        have e40 : a.tmps[40]? = some ((.string s)) := by rw [ha]; exact putSel_on (e := (26, 40, (.string s))) 26 rfl rfl (hon 26 (by kernel_rfl)) rfl
        have e34 : a.tmps[34]? = some ((.bool true)) := by rw [ha]; exact putSel_on (e := (20, 34, (.bool true))) 20 rfl rfl (hon 20 (by kernel_rfl)) rfl
        replace ha := Aside0.mk ha
        have H0 := Aside0.mk Q_H0
        have HB := Aside0.mk Q_HB
        have S16 := Aside0.mk (Q_S16 (hon 2 (by kernel_rfl)))
        have S20 := Aside0.mk (Q_S20 (hon 6 (by kernel_rfl)))
        have S26 := Aside0.mk (Q_S26 (hon 12 (by kernel_rfl)))
        have S30 := Aside0.mk (Q_S30 (hon 16 (by kernel_rfl)))
        have S37 := Aside0.mk (Q_S37 (hon 23 (by kernel_rfl)))
        refine goes_ Try.func28 (by kernel_rfl) rfl #[.slice A0 l0.length c0, .string s] (wanted_on rfl rfl rfl (e34.trans (by first | rfl | (simp [*]; done)))) rfl rfl (by first | (simp only [List.map_toArray, List.map_cons, List.map_nil, Act.eval, Array.getD_eq_getD_getElem?, Option.getD_some, e39, e40, e34]; done) | (simp only [List.map_toArray, List.map_cons, List.map_nil, Act.eval, Array.getD_eq_getD_getElem?, Option.getD_some, e39, e40, e34]; rfl)) ?_
        refine (VaryRef.nPutText _ l0 s _ H0.out (by have := HL.out; omega)).mono ?_
        rintro e w1_ ⟨v41, rfl, hg, hb⟩
        refine ⟨_, rfl, ?_⟩
        have hs := hg.sl
        clear hg
        refine hK.out _ _ ⟨v16, v20, v26, v30, v37, v41, (by rw [ha.out]; exact putSel_upk 27 hb_ rfl rfl rfl), H0.out.below hb, below_step HB.out hb, fun _ => S16.out.below hb, fun _ => S20.out.below hb, fun _ => S26.out.below hb, fun _ => S30.out.below hb, fun _ => S37.out.below hb, fun _ => hs⟩
      refine steps_cons ?_ ?_
      · rintro b a w' ⟨v16, v20, v26, v30, v37, v41, ha, Q_H0, Q_HB, Q_S16, Q_S20, Q_S26, Q_S30, Q_S37, Q_S41⟩ hb_ hon hoff
        refine ⟨_, rfl, fun K hK => ?_⟩
        have e41 : a.tmps[41]? = some (v41) := by rw [ha]; exact putSel_on (e := (27, 41, v41)) 27 rfl rfl (hon 27 (by kernel_rfl)) rfl
        have e34 : a.tmps[34]? = some ((.bool true)) := by rw [ha]; exact putSel_on (e := (20, 34, (.bool true))) 20 rfl rfl (hon 20 (by kernel_rfl)) rfl
        replace ha := Aside0.mk ha
        have H0 := Aside0.mk Q_H0
        have HB := Aside0.mk Q_HB
        have S16 := Aside0.mk (Q_S16 (hon 2 (by kernel_rfl)))
        have S20 := Aside0.mk (Q_S20 (hon 6 (by kernel_rfl)))
        have S26 := Aside0.mk (Q_S26 (hon 12 (by kernel_rfl)))
        have S30 := Aside0.mk (Q_S30 (hon 16 (by kernel_rfl)))
        have S37 := Aside0.mk (Q_S37 (hon 23 (by kernel_rfl)))
        have S41 := Aside0.mk (Q_S41 (hon 27 (by kernel_rfl)))
        have hc_ := Own.Sl.string (P := Try.prog) Try.underlying22 Try.underlying5 Try.underlying9 S41.out
        refine value_ (w1 := w') (v := (.string (strOfNums (Vy.putTL l0 (Own.numsOf s))))) (wanted_on rfl rfl rfl (e34.trans (by first | rfl | (simp [*]; done)))) rfl ?_ ?_
        · go_simp
          (try simp only [i64_w])
          try rfl
        refine hK.out _ _ ⟨v16, v20, v26, v30, v37, v41, (by rw [ha.out]; exact putSel_upk 28 hb_ rfl rfl rfl), Q_H0, Q_HB, Q_S16, Q_S20, Q_S26, Q_S30, Q_S37, Q_S41⟩
      refine steps_cons ?_ ?_
      · rintro b a w' ⟨v16, v20, v26, v30, v37, v41, ha, Q_H0, Q_HB, Q_S16, Q_S20, Q_S26, Q_S30, Q_S37, Q_S41⟩ hb_ hon hoff
        refine ⟨_, rfl, fun K hK => ?_⟩
        have e38 : a.tmps[38]? = some ((.string (strOfNums (Vy.putTL l0 (Own.numsOf s))))) := by rw [ha]; exact putSel_on (e := (24, 38, (.string (strOfNums (Vy.putTL l0 (Own.numsOf s)))))) 24 rfl rfl (hon 24 (by kernel_rfl)) rfl
        have e42 : a.tmps[42]? = some ((.string (strOfNums (Vy.putTL l0 (Own.numsOf s))))) := by rw [ha]; exact putSel_on (e := (28, 42, (.string (strOfNums (Vy.putTL l0 (Own.numsOf s)))))) 28 rfl rfl (hon 28 (by kernel_rfl)) rfl
        have e34 : a.tmps[34]? = some ((.bool true)) := by rw [ha]; exact putSel_on (e := (20, 34, (.bool true))) 20 rfl rfl (hon 20 (by kernel_rfl)) rfl
        replace ha := Aside0.mk ha
        have H0 := Aside0.mk Q_H0
        have HB := Aside0.mk Q_HB
        have S16 := Aside0.mk (Q_S16 (hon 2 (by kernel_rfl)))
        have S20 := Aside0.mk (Q_S20 (hon 6 (by kernel_rfl)))
        have S26 := Aside0.mk (Q_S26 (hon 12 (by kernel_rfl)))
        have S30 := Aside0.mk (Q_S30 (hon 16 (by kernel_rfl)))
        have S37 := Aside0.mk (Q_S37 (hon 23 (by kernel_rfl)))
        have S41 := Aside0.mk (Q_S41 (hon 27 (by kernel_rfl)))
        refine value_ (w1 := w') (v := (.bool true)) (wanted_on rfl rfl rfl (e34.trans (by first | rfl | (simp [*]; done)))) rfl ?_ ?_
        · go_simp
          (try simp only [i64_w])
          try rfl
        refine hK.out _ _ ⟨v16, v20, v26, v30, v37, v41, (by rw [ha.out]; exact putSel_upk 29 hb_ rfl rfl rfl), Q_H0, Q_HB, Q_S16, Q_S20, Q_S26, Q_S30, Q_S37, Q_S41⟩
      refine steps_cons ?_ ?_
      · rintro b a w' ⟨v16, v20, v26, v30, v37, v41, ha, Q_H0, Q_HB, Q_S16, Q_S20, Q_S26, Q_S30, Q_S37, Q_S41⟩ hb_ hon hoff
        refine ⟨_, rfl, fun K hK => ?_⟩
        have e34 : a.tmps[34]? = some ((.bool true)) := by rw [ha]; exact putSel_on (e := (20, 34, (.bool true))) 20 rfl rfl (hon 20 (by kernel_rfl)) rfl
        have e43 : a.tmps[43]? = some ((.bool true)) := by rw [ha]; exact putSel_on (e := (29, 43, (.bool true))) 29 rfl rfl (hon 29 (by kernel_rfl)) rfl
        replace ha := Aside0.mk ha
        have H0 := Aside0.mk Q_H0
        have HB := Aside0.mk Q_HB
        have S16 := Aside0.mk (Q_S16 (hon 2 (by kernel_rfl)))
        have S20 := Aside0.mk (Q_S20 (hon 6 (by kernel_rfl)))
        have S26 := Aside0.mk (Q_S26 (hon 12 (by kernel_rfl)))
        have S30 := Aside0.mk (Q_S30 (hon 16 (by kernel_rfl)))
        have S37 := Aside0.mk (Q_S37 (hon 23 (by kernel_rfl)))
        have S41 := Aside0.mk (Q_S41 (hon 27 (by kernel_rfl)))
        refine value_ (w1 := w') (v := (.bool true)) (by rfl) rfl ?_ ?_
        · go_simp
          (try simp only [i64_w])
          try rfl
        refine hK.out _ _ ⟨v16, v20, v26, v30, v37, v41, (by rw [ha.out]; exact putSel_upk 30 hb_ rfl rfl rfl), Q_H0, Q_HB, Q_S16, Q_S20, Q_S26, Q_S30, Q_S37, Q_S41⟩
      refine steps_cons ?_ ?_
      · rintro b a w' ⟨v16, v20, v26, v30, v37, v41, ha, Q_H0, Q_HB, Q_S16, Q_S20, Q_S26, Q_S30, Q_S37, Q_S41⟩ hb_ hon hoff
        refine ⟨_, rfl, fun K hK => ?_⟩
        have e44 : a.tmps[44]? = some ((.bool true)) := by rw [ha]; exact putSel_on (e := (30, 44, (.bool true))) 30 rfl rfl (hon 30 (by kernel_rfl)) rfl
        replace ha := Aside0.mk ha
        have H0 := Aside0.mk Q_H0
        have HB := Aside0.mk Q_HB
        have S16 := Aside0.mk (Q_S16 (hon 2 (by kernel_rfl)))
        have S20 := Aside0.mk (Q_S20 (hon 6 (by kernel_rfl)))
        have S26 := Aside0.mk (Q_S26 (hon 12 (by kernel_rfl)))
        have S30 := Aside0.mk (Q_S30 (hon 16 (by kernel_rfl)))
        have S37 := Aside0.mk (Q_S37 (hon 23 (by kernel_rfl)))
        have S41 := Aside0.mk (Q_S41 (hon 27 (by kernel_rfl)))
        refine value_ (w1 := w') (v := (.bool true)) (by rfl) rfl ?_ ?_
        · go_simp
          (try simp only [i64_w])
          try rfl
        refine hK.out _ _ ⟨v16, v20, v26, v30, v37, v41, (by rw [ha.out]; exact putSel_upk 31 hb_ rfl rfl rfl), Q_H0, Q_HB, Q_S16, Q_S20, Q_S26, Q_S30, Q_S37, Q_S41⟩
      refine steps_cons ?_ ?_
      · rintro b a w' ⟨v16, v20, v26, v30, v37, v41, ha, Q_H0, Q_HB, Q_S16, Q_S20, Q_S26, Q_S30, Q_S37, Q_S41⟩ hb_ hon hoff
        refine ⟨_, rfl, fun K hK => ?_⟩
        have e45 : a.tmps[45]? = some ((.bool true)) := by rw [ha]; exact putSel_on (e := (31, 45, (.bool true))) 31 rfl rfl (hon 31 (by kernel_rfl)) rfl
        replace ha := Aside0.mk ha
        have H0 := Aside0.mk Q_H0
        have HB := Aside0.mk Q_HB
        have S16 := Aside0.mk (Q_S16 (hon 2 (by kernel_rfl)))
        have S20 := Aside0.mk (Q_S20 (hon 6 (by kernel_rfl)))
        have S26 := Aside0.mk (Q_S26 (hon 12 (by kernel_rfl)))
        have S30 := Aside0.mk (Q_S30 (hon 16 (by kernel_rfl)))
        have S37 := Aside0.mk (Q_S37 (hon 23 (by kernel_rfl)))
        have S41 := Aside0.mk (Q_S41 (hon 27 (by kernel_rfl)))
        refine goes_ Try.func22 (by kernel_rfl) rfl #[] (wanted_on rfl rfl rfl (e45.trans (by first | rfl | (simp [*]; done)))) rfl rfl (by first | (simp only [List.map_toArray, List.map_cons, List.map_nil, Act.eval, Array.getD_eq_getD_getElem?, Option.getD_some, e45]; done) | (simp only [List.map_toArray, List.map_cons, List.map_nil, Act.eval, Array.getD_eq_getD_getElem?, Option.getD_some, e45]; rfl)) ?_
        refine (VaryLives.lives_c _).mono ?_
        rintro e w1_ ⟨rfl, hb⟩
        refine ⟨_, rfl, ?_⟩
        refine hK.out _ _ ⟨v16, v20, v26, v30, v37, v41, (by rw [ha.out]; exact putSel_upk 32 hb_ rfl rfl rfl), H0.out.below hb, below_step HB.out hb, fun _ => S16.out.below hb, fun _ => S20.out.below hb, fun _ => S26.out.below hb, fun _ => S30.out.below hb, fun _ => S37.out.below hb, fun _ => S41.out.below hb⟩
      refine steps_cons ?_ ?_
      · rintro b a w' ⟨v16, v20, v26, v30, v37, v41, ha, Q_H0, Q_HB, Q_S16, Q_S20, Q_S26, Q_S30, Q_S37, Q_S41⟩ hb_ hon hoff
        refine ⟨_, rfl, fun K hK => ?_⟩
        have e45 : a.tmps[45]? = some ((.bool true)) := by rw [ha]; exact putSel_on (e := (31, 45, (.bool true))) 31 rfl rfl (hon 31 (by kernel_rfl)) rfl
        have e46 : a.tmps[46]? = some ((.bool true)) := by rw [ha]; exact putSel_on (e := (32, 46, (.bool true))) 32 rfl rfl (hon 32 (by kernel_rfl)) rfl
        replace ha := Aside0.mk ha
        have H0 := Aside0.mk Q_H0
        have HB := Aside0.mk Q_HB
        have S16 := Aside0.mk (Q_S16 (hon 2 (by kernel_rfl)))
        have S20 := Aside0.mk (Q_S20 (hon 6 (by kernel_rfl)))
        have S26 := Aside0.mk (Q_S26 (hon 12 (by kernel_rfl)))
        have S30 := Aside0.mk (Q_S30 (hon 16 (by kernel_rfl)))
        have S37 := Aside0.mk (Q_S37 (hon 23 (by kernel_rfl)))
        have S41 := Aside0.mk (Q_S41 (hon 27 (by kernel_rfl)))
        refine value_ (w1 := w') (v := (.bool true)) (by rfl) rfl ?_ ?_
        · go_simp
          (try simp only [i64_w])
          try rfl
        refine hK.out _ _ ⟨v16, v20, v26, v30, v37, v41, (by rw [ha.out]; exact putSel_upk 33 hb_ rfl rfl rfl), Q_H0, Q_HB, Q_S16, Q_S20, Q_S26, Q_S30, Q_S37, Q_S41⟩
      refine steps_cons ?_ ?_
      · rintro b a w' ⟨v16, v20, v26, v30, v37, v41, ha, Q_H0, Q_HB, Q_S16, Q_S20, Q_S26, Q_S30, Q_S37, Q_S41⟩ hb_ hon hoff
        refine ⟨_, rfl, fun K hK => ?_⟩
        have e47 : a.tmps[47]? = some ((.bool true)) := by rw [ha]; exact putSel_on (e := (33, 47, (.bool true))) 33 rfl rfl (hon 33 (by kernel_rfl)) rfl
        replace ha := Aside0.mk ha
        have H0 := Aside0.mk Q_H0
        have HB := Aside0.mk Q_HB
        have S16 := Aside0.mk (Q_S16 (hon 2 (by kernel_rfl)))
        have S20 := Aside0.mk (Q_S20 (hon 6 (by kernel_rfl)))
        have S26 := Aside0.mk (Q_S26 (hon 12 (by kernel_rfl)))
        have S30 := Aside0.mk (Q_S30 (hon 16 (by kernel_rfl)))
        have S37 := Aside0.mk (Q_S37 (hon 23 (by kernel_rfl)))
        have S41 := Aside0.mk (Q_S41 (hon 27 (by kernel_rfl)))
        refine value_ (w1 := w') (v := (.bool true)) (by rfl) rfl ?_ ?_
        · go_simp
          (try simp only [i64_w])
          try rfl
        refine hK.out _ _ ⟨v16, v20, v26, v30, v37, v41, (by rw [ha.out]; exact putSel_upk 34 hb_ rfl rfl rfl), Q_H0, Q_HB, Q_S16, Q_S20, Q_S26, Q_S30, Q_S37, Q_S41⟩
      exact steps_nil
    rintro b a we hall ⟨v16, v20, v26, v30, v37, v41, ha, Q_H0, Q_HB, Q_S16, Q_S20, Q_S26, Q_S30, Q_S37, Q_S41⟩
    clear H0 HB
    have hb0_ := hall 0 (by kernel_rfl)
    have hb1_ := hall 1 (by kernel_rfl)
    have hb2_ := hall 2 (by kernel_rfl)
    have hb3_ := hall 3 (by kernel_rfl)
    have hb4_ := hall 4 (by kernel_rfl)
    have hb5_ := hall 5 (by kernel_rfl)
    have hb6_ := hall 6 (by kernel_rfl)
    have hb7_ := hall 7 (by kernel_rfl)
    have hb8_ := hall 8 (by kernel_rfl)
    have hb9_ := hall 9 (by kernel_rfl)
    have hb10_ := hall 10 (by kernel_rfl)
    have hb11_ := hall 11 (by kernel_rfl)
    have hb12_ := hall 12 (by kernel_rfl)
    have hb13_ := hall 13 (by kernel_rfl)
    have hb14_ := hall 14 (by kernel_rfl)
    have hb15_ := hall 15 (by kernel_rfl)
    have hb16_ := hall 16 (by kernel_rfl)
    have hb17_ := hall 17 (by kernel_rfl)
    have hb18_ := hall 18 (by kernel_rfl)
    have hb19_ := hall 19 (by kernel_rfl)
    have hb20_ := hall 20 (by kernel_rfl)
    have hb21_ := hall 21 (by kernel_rfl)
    have hb22_ := hall 22 (by kernel_rfl)
    have hb23_ := hall 23 (by kernel_rfl)
    have hb24_ := hall 24 (by kernel_rfl)
    have hb25_ := hall 25 (by kernel_rfl)
    have hb26_ := hall 26 (by kernel_rfl)
    have hb27_ := hall 27 (by kernel_rfl)
    have hb28_ := hall 28 (by kernel_rfl)
    have hb29_ := hall 29 (by kernel_rfl)
    have hb30_ := hall 30 (by kernel_rfl)
    have hb31_ := hall 31 (by kernel_rfl)
    have hb32_ := hall 32 (by kernel_rfl)
    have hb33_ := hall 33 (by kernel_rfl)
    have hb34_ := hall 34 (by kernel_rfl)
    subst ha
    simp only [putSel, hb0_, hb1_, hb2_, hb3_, hb4_, hb5_, hb6_, hb7_, hb8_, hb9_, hb10_, hb11_, hb12_, hb13_, hb14_, hb15_, hb16_, hb17_, hb18_, hb19_, hb20_, hb21_, hb22_, hb23_, hb24_, hb25_, hb26_, hb27_, hb28_, hb29_, hb30_, hb31_, hb32_, hb33_, hb34_, if_true, Act.put, List.setIfInBounds_toArray, List.set_cons_zero, List.set_cons_succ]
    have H0 := Aside0.mk Q_H0
    clear Q_H0
    have HB := Aside0.mk Q_HB
    clear Q_HB
    have S16 := Aside0.mk (Q_S16 hb2_)
    clear Q_S16
    have S20 := Aside0.mk (Q_S20 hb6_)
    clear Q_S20
    have S26 := Aside0.mk (Q_S26 hb12_)
    clear Q_S26
    have S30 := Aside0.mk (Q_S30 hb16_)
    clear Q_S30
    have S37 := Aside0.mk (Q_S37 hb23_)
    clear Q_S37
    have S41 := Aside0.mk (Q_S41 hb27_)
    clear Q_S41
    clear hall hb0_ hb1_ hb2_ hb3_ hb4_ hb5_ hb6_ hb7_ hb8_ hb9_ hb10_ hb11_ hb12_ hb13_ hb14_ hb15_ hb16_ hb17_ hb18_ hb19_ hb20_ hb21_ hb22_ hb23_ hb24_ hb25_ hb26_ hb27_ hb28_ hb29_ hb30_ hb31_ hb32_ hb33_ hb34_
    go_wp2_with fail
    go_ret
    exact ⟨rfl, HB.out⟩
  · have g1 : (4000 : Int) < (l0.length : Int) + (s.size : Int) := by omega
    clear hlen
    go_enter Try.func7, Try.ntmps7
    go_wp2_with fail
    refine (VaryLives.lives_c _).mono ?_
    rintro e w1 ⟨rfl, hb⟩
    go_wp2_with fail
    go_ret
    exact ⟨rfl, hb⟩
def variorumlaw01_VaryPuts.Pure : Prop := True
theorem variorumlaw01_VaryPuts.walk (_ : variorumlaw01_VaryPuts.Pure) (a0 : Option Addr) (len0 cap0 : Nat) (z0 : List Int) (a1 : Int) (a2 : ByteArray) (w : World) (w0 : (a0 = none ∧ len0 = 0 ∧ cap0 = 0 ∧ z0 = []) ∨ ∃ x, a0 = some x ∧ len0 ≤ cap0 ∧ cap0 ≤ maxLen ∧ z0.length = cap0 ∧ (∀ i, i < z0.length → w.cell? (x.add i) = some (.int .u8 (z0.getD i 0))) ∧ ∀ n ∈ z0, (Lit.int .u8 n).wf = true) (y0 : len0 * 1 ≤ 140737488351232) (w1 : (Lit.int .i64 a1).wf = true) (w2 : a2.size ≤ 140737488351232) :
    Calls Try.prog 7 #[.slice a0 len0 cap0, .int .i64 a1, .string a2] w fun e w' => e = .returned (.bool true) ∧ Below w.heap.size w w' := by
  obtain ⟨l0, rfl, hr0, hm0, hw0, hc0⟩ := ReadsInt.ofRowC w0
  exact variorumlaw01_VaryPuts.holds _ _ l0 a1 a2 w (Kd.C_of_reads (d := (0 : Int)) (h1 := fun _ => rfl) hr0) hc0 y0 hw0 w1 w2

end Go.Proofs.Ytgefpgbofhcmdaa.P

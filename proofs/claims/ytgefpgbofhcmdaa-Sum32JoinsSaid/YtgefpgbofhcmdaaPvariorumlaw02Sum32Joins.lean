-- Written by wip/myprint.py of this session, over the kit's print.py: a Lean function for each Go function, and the proof that the code comes to it.
import Derived.Test.YtgefpgbofhcmdaaPBase
import Derived.Test.YtgefpgbofhcmdaaPvariorumlaw02lives
import Derived.Test.YtgefpgbofhcmdaaNice2
import Derived.Test.YtgefpgbofhcmdaaJoin
namespace Go.Proofs.Ytgefpgbofhcmdaa.P
open Go.RowKit Go.Proofs.YtgefpgbofhcmdaaW.PrintWords Go.Proofs.YtgefpgbofhcmdaaW.PrintLast Go.Proofs.YtgefpgbofhcmdaaW.PrintMore
attribute [local go_sem] max2_int min2_int max_two min_two max_three min_three max_four min_four   -- for this text's walks alone
set_option linter.unusedVariables false
set_option linter.unusedSimpArgs false

/-! ### variorumlaw02_Sum32Joins: function 6 -/
-- NEEDS Derived.Test.YtgefpgbofhcmdaaNice2
-- NEEDS Derived.Test.YtgefpgbofhcmdaaJoin
def variorumlaw02_Sum32Joins.T3 : Bool × List (List Nat × List Nat) := (true, [([], []), ([0], [0]), ([], []), ([2, 1], [2]), ([], []), ([4], [4]), ([1, 3, 5, 3], [1, 3, 5]), ([], []), ([], []), ([8], [8]), ([], []), ([10], [10]), ([7, 9, 11], [7, 9, 11]), ([], []), ([12, 13, 6], [12, 13]), ([14, 14], [14]), ([6, 15], [6, 15]), ([16, 15], [16]), ([17], [17]), ([17], [17]), ([17], [17]), ([18, 19, 20, 17, 17], [17, 18, 19, 20]), ([17], [17]), ([17], [17]), ([17], [17]), ([22, 23, 24, 21, 17], [17, 22, 23, 24]), ([21, 25, 17], [17, 21, 25]), ([17, 26], [17, 26]), ([27, 25], [27]), ([28, 28], [28]), ([28, 29], [28, 29]), ([30, 29, 0, 1, 2, 3, 4, 5, 6, 7, 8, 9, 10, 11, 12, 13, 14, 15, 16, 17, 18, 19, 20, 21, 22, 23, 24, 25, 26, 27, 28, 29, 30], [30])])
def variorumlaw02_Sum32Joins.B3 : List Nat := [0, 1, 0, 7, 0, 16, 63, 0, 0, 256, 0, 1024, 3968, 0, 16383, 32767, 65535, 131071, 262143, 262143, 262143, 2097151, 262143, 262143, 262143, 33554431, 67108863, 134217727, 268435455, 536870911, 1073741823, 2147483647]
theorem variorumlaw02_Sum32Joins.tab3 : rtab .any (opsOf Try.f6 3) = variorumlaw02_Sum32Joins.T3 := by kernel_rfl
theorem variorumlaw02_Sum32Joins.bits3 : waitsOk variorumlaw02_Sum32Joins.T3.2 variorumlaw02_Sum32Joins.B3 = true := by kernel_rfl
theorem variorumlaw02_Sum32Joins.u32 {x : Int} (h : (Lit.int .u32 x).wf = true) : ∃ X : BitVec 32, x = (X.toNat : Int) := by
  have h' : 0 ≤ x ∧ x ≤ 4294967295 := by
    simp [Lit.wf, IntKind.min, IntKind.max, IntKind.signed, IntKind.bits] at h
    omega
  exact ⟨BitVec.ofInt 32 x, by rw [BitVec.toNat_ofInt]; omega⟩
theorem variorumlaw02_Sum32Joins.join (l0 l1 : List Int) (w : World) (h : l1.length ≤ 5000) :
    Calls Try.prog 20 #[.int .u32 ((Crc.sum l0).toNat : Int), .int .u32 ((Crc.sum l1).toNat : Int), .int .i64 (l1.length : Int)] w fun e w' => e = .returned (.int .u32 ((Crc.sum (l0 ++ l1)).toNat : Int)) ∧ Below w.heap.size w w' := by
  rw [← JoinW.sum_join l0 l1 (by omega)]
  exact JoinW.nJoin _ _ _ w
set_option maxHeartbeats 8000000 in
set_option maxRecDepth 100000 in
theorem variorumlaw02_Sum32Joins.region (A0 : Option Addr) (c0 : Nat) (l0 : List Int) (A1 : Option Addr) (c1 : Nat) (l1 : List Int) (X Y : BitVec 32) (many : Int) (w : World) (hs0 : Own.Sl w (.slice A0 l0.length c0) l0) (hs1 : Own.Sl w (.slice A1 l1.length c1) l1) (hlen : l0.length + l1.length ≤ 5000) (hm : many ≤ 5000 ∨ 1048576 < many) :
    Calls Try.prog 6 #[.slice A0 l0.length c0, .slice A1 l1.length c1, .int .u32 (X.toNat : Int), .int .u32 (Y.toNat : Int), .int .i64 many] w fun e w' => e = .returned (.bool true) ∧ Below w.heap.size w w' := by
  have H0 := Aside0.mk hs0
  have H1 := Aside0.mk hs1
  have HL := Aside0.mk hlen
  have HB := Aside0.mk (Below.refl w.heap.size w)
  have g1 : ¬ ((5000 : Int) < (l0.length : Int) + (l1.length : Int)) := by omega
  have HM := Aside0.mk hm
  clear hs0 hs1 hlen hm
  go_enter Try.func6, Try.ntmps6
  go_wp2_with fail
  · exfalso; have := HM.out; omega
  all_goals
    refine start_ (n := 32) (S := fun w' => True) (ds := []) #[false, false, false, false, false, false, false, false, false, false, false, false, false, false, false, false, false, false, false, false, false, false, false, false, false, false, false, false, false, false, false, false] (by kernel_rfl) rfl rfl trivial (fun hHeld => ?_); refine with_tabW variorumlaw02_Sum32Joins.tab3 variorumlaw02_Sum32Joins.bits3 (fun HT_ HW_ => ?_)
    refine inv_at [0, 1, 2, 3, 4, 5, 6, 7, 8, 9, 10, 11, 12, 13, 14, 15, 16, 17, 18, 19, 20, 21, 22, 23, 24, 25, 26, 27, 28, 29, 30, 31] (fun a0_ b a w' => ∃ (v40 : Value), a = putSel a0_ b [(0, 26, (.slice A0 l0.length c0)), (1, 27, (.int .u32 ((Crc.sum l0).toNat : Int))), (2, 28, (.slice A1 l1.length c1)), (3, 29, (.int .u32 ((Crc.sum l1).toNat : Int))), (4, 30, (.slice A1 l1.length c1)), (5, 31, (.int .i64 ((l1.length : Nat) : Int))), (6, 32, (.int .u32 ((Crc.sum (l0 ++ l1)).toNat : Int))), (7, 33, (.slice A0 l0.length c0)), (8, 34, (.slice A0 l0.length c0)), (9, 35, (.int .i64 ((l0.length : Nat) : Int))), (10, 36, (.slice A0 l0.length c0)), (11, 37, (.int .i64 ((l0.length : Nat) : Int))), (12, 38, (.slice A0 l0.length l0.length)), (13, 39, (.slice A1 l1.length c1)), (14, 40, v40), (15, 41, (.int .u32 ((Crc.sum (l0 ++ l1)).toNat : Int))), (16, 42, (.bool true)), (17, 43, (.bool true)), (18, 44, (.int .u32 (X.toNat : Int))), (19, 45, (.int .u32 (Y.toNat : Int))), (20, 46, (.int .i64 many)), (21, 47, (.int .u32 ((JoinW.joinL X Y many).toNat : Int))), (22, 48, (.int .u32 (X.toNat : Int))), (23, 49, (.int .u32 (Y.toNat : Int))), (24, 50, (.int .i64 many)), (25, 51, (.int .u32 ((JoinW.joinL X Y many).toNat : Int))), (26, 52, (.bool true)), (27, 53, (.bool true)), (28, 54, (.bool true)), (29, 55, (.bool true)), (30, 56, (.bool true)), (31, 10, (.bool true))] ∧ (Own.Sl w' (.slice A0 l0.length c0) l0) ∧ (Own.Sl w' (.slice A1 l1.length c1) l1) ∧ (Below w.heap.size w w') ∧ (b 14 = true → Own.Sl w' v40 (l0 ++ l1))) HT_.out HW_.out (by kernel_rfl) (by kernel_rfl) ?_ ?_ ?_
    · exact ⟨.bool false, by simp only [putSel, Bool.false_eq_true, if_false], H0.out.drew, H1.out.drew, below_drew1 HB.out, fun h_ => absurd h_ (by decide)⟩
    · skip
      clear H0 H1 HB
      refine steps_cons ?_ ?_
      · rintro b a w' ⟨v40, ha, Q_H0, Q_H1, Q_HB, Q_S40⟩ hb_ hon hoff
        refine ⟨_, rfl, fun K hK => ?_⟩
        have e0 : a.tmps[0]? = some ((.slice A0 l0.length c0)) := by rw [ha]; exact (putSel_off rfl).trans rfl
        replace ha := Aside0.mk ha
        have H0 := Aside0.mk Q_H0
        have H1 := Aside0.mk Q_H1
        have HB := Aside0.mk Q_HB
        refine value_ (w1 := w') (v := (.slice A0 l0.length c0)) (by rfl) rfl ?_ ?_
        · go_simp
          (try simp only [i64_w])
          try rfl
        refine hK.out _ _ ⟨v40, (by rw [ha.out]; exact putSel_upk 0 hb_ rfl rfl rfl), Q_H0, Q_H1, Q_HB, fun h0_ => absurd ((hoff 14 (by kernel_rfl)).symm.trans h0_) (by decide)⟩
      refine steps_cons ?_ ?_
      · rintro b a w' ⟨v40, ha, Q_H0, Q_H1, Q_HB, Q_S40⟩ hb_ hon hoff
        refine ⟨_, rfl, fun K hK => ?_⟩
        have e26 : a.tmps[26]? = some ((.slice A0 l0.length c0)) := by rw [ha]; exact putSel_on (e := (0, 26, (.slice A0 l0.length c0))) 0 rfl rfl (hon 0 (by kernel_rfl)) rfl
        replace ha := Aside0.mk ha
        have H0 := Aside0.mk Q_H0
        have H1 := Aside0.mk Q_H1
        have HB := Aside0.mk Q_HB
        refine goes_ Try.func14 (by kernel_rfl) rfl #[.slice A0 l0.length c0] (by rfl) rfl rfl (by first | (simp only [List.map_toArray, List.map_cons, List.map_nil, Act.eval, Array.getD_eq_getD_getElem?, Option.getD_some, e26]; done) | (simp only [List.map_toArray, List.map_cons, List.map_nil, Act.eval, Array.getD_eq_getD_getElem?, Option.getD_some, e26]; rfl)) ?_
        refine (Nice.nSum _ l0 _ H0.out (by have := HL.out; omega)).mono ?_
        rintro e w1_ ⟨rfl, hb⟩
        refine ⟨_, rfl, ?_⟩
        refine hK.out _ _ ⟨v40, (by rw [ha.out]; exact putSel_upk 1 hb_ rfl rfl rfl), H0.out.below hb, H1.out.below hb, below_step HB.out hb, fun h0_ => absurd ((hoff 14 (by kernel_rfl)).symm.trans h0_) (by decide)⟩
      refine steps_cons ?_ ?_
      · rintro b a w' ⟨v40, ha, Q_H0, Q_H1, Q_HB, Q_S40⟩ hb_ hon hoff
        refine ⟨_, rfl, fun K hK => ?_⟩
        have e1 : a.tmps[1]? = some ((.slice A1 l1.length c1)) := by rw [ha]; exact (putSel_off rfl).trans rfl
        replace ha := Aside0.mk ha
        have H0 := Aside0.mk Q_H0
        have H1 := Aside0.mk Q_H1
        have HB := Aside0.mk Q_HB
        refine value_ (w1 := w') (v := (.slice A1 l1.length c1)) (by rfl) rfl ?_ ?_
        · go_simp
          (try simp only [i64_w])
          try rfl
        refine hK.out _ _ ⟨v40, (by rw [ha.out]; exact putSel_upk 2 hb_ rfl rfl rfl), Q_H0, Q_H1, Q_HB, fun h0_ => absurd ((hoff 14 (by kernel_rfl)).symm.trans h0_) (by decide)⟩
      refine steps_cons ?_ ?_
      · rintro b a w' ⟨v40, ha, Q_H0, Q_H1, Q_HB, Q_S40⟩ hb_ hon hoff
        refine ⟨_, rfl, fun K hK => ?_⟩
        have e28 : a.tmps[28]? = some ((.slice A1 l1.length c1)) := by rw [ha]; exact putSel_on (e := (2, 28, (.slice A1 l1.length c1))) 2 rfl rfl (hon 2 (by kernel_rfl)) rfl
        replace ha := Aside0.mk ha
        have H0 := Aside0.mk Q_H0
        have H1 := Aside0.mk Q_H1
        have HB := Aside0.mk Q_HB
        refine goes_ Try.func14 (by kernel_rfl) rfl #[.slice A1 l1.length c1] (by rfl) rfl rfl (by first | (simp only [List.map_toArray, List.map_cons, List.map_nil, Act.eval, Array.getD_eq_getD_getElem?, Option.getD_some, e28]; done) | (simp only [List.map_toArray, List.map_cons, List.map_nil, Act.eval, Array.getD_eq_getD_getElem?, Option.getD_some, e28]; rfl)) ?_
        refine (Nice.nSum _ l1 _ H1.out (by have := HL.out; omega)).mono ?_
        rintro e w1_ ⟨rfl, hb⟩
        refine ⟨_, rfl, ?_⟩
        refine hK.out _ _ ⟨v40, (by rw [ha.out]; exact putSel_upk 3 hb_ rfl rfl rfl), H0.out.below hb, H1.out.below hb, below_step HB.out hb, fun h0_ => absurd ((hoff 14 (by kernel_rfl)).symm.trans h0_) (by decide)⟩
      refine steps_cons ?_ ?_
      · rintro b a w' ⟨v40, ha, Q_H0, Q_H1, Q_HB, Q_S40⟩ hb_ hon hoff
        refine ⟨_, rfl, fun K hK => ?_⟩
        have e1 : a.tmps[1]? = some ((.slice A1 l1.length c1)) := by rw [ha]; exact (putSel_off rfl).trans rfl
        replace ha := Aside0.mk ha
        have H0 := Aside0.mk Q_H0
        have H1 := Aside0.mk Q_H1
        have HB := Aside0.mk Q_HB
        refine value_ (w1 := w') (v := (.slice A1 l1.length c1)) (by rfl) rfl ?_ ?_
        · go_simp
          (try simp only [i64_w])
          try rfl
        refine hK.out _ _ ⟨v40, (by rw [ha.out]; exact putSel_upk 4 hb_ rfl rfl rfl), Q_H0, Q_H1, Q_HB, fun h0_ => absurd ((hoff 14 (by kernel_rfl)).symm.trans h0_) (by decide)⟩
      refine steps_cons ?_ ?_
      · rintro b a w' ⟨v40, ha, Q_H0, Q_H1, Q_HB, Q_S40⟩ hb_ hon hoff
        refine ⟨_, rfl, fun K hK => ?_⟩
        have e30 : a.tmps[30]? = some ((.slice A1 l1.length c1)) := by rw [ha]; exact putSel_on (e := (4, 30, (.slice A1 l1.length c1))) 4 rfl rfl (hon 4 (by kernel_rfl)) rfl
        replace ha := Aside0.mk ha
        have H0 := Aside0.mk Q_H0
        have H1 := Aside0.mk Q_H1
        have HB := Aside0.mk Q_HB
        refine value_ (w1 := w') (v := (.int .i64 ((l1.length : Nat) : Int))) (by rfl) rfl ?_ ?_
        · go_simp
          (try simp only [i64_w])
          try rfl
        refine hK.out _ _ ⟨v40, (by rw [ha.out]; exact putSel_upk 5 hb_ rfl rfl rfl), Q_H0, Q_H1, Q_HB, fun h0_ => absurd ((hoff 14 (by kernel_rfl)).symm.trans h0_) (by decide)⟩
      refine steps_cons ?_ ?_
      · rintro b a w' ⟨v40, ha, Q_H0, Q_H1, Q_HB, Q_S40⟩ hb_ hon hoff
        refine ⟨_, rfl, fun K hK => ?_⟩
        have e27 : a.tmps[27]? = some ((.int .u32 ((Crc.sum l0).toNat : Int))) := by rw [ha]; exact putSel_on (e := (1, 27, (.int .u32 ((Crc.sum l0).toNat : Int)))) 1 rfl rfl (hon 1 (by kernel_rfl)) rfl
        have e29 : a.tmps[29]? = some ((.int .u32 ((Crc.sum l1).toNat : Int))) := by rw [ha]; exact putSel_on (e := (3, 29, (.int .u32 ((Crc.sum l1).toNat : Int)))) 3 rfl rfl (hon 3 (by kernel_rfl)) rfl
        have e31 : a.tmps[31]? = some ((.int .i64 ((l1.length : Nat) : Int))) := by rw [ha]; exact putSel_on (e := (5, 31, (.int .i64 ((l1.length : Nat) : Int)))) 5 rfl rfl (hon 5 (by kernel_rfl)) rfl
        replace ha := Aside0.mk ha
        have H0 := Aside0.mk Q_H0
        have H1 := Aside0.mk Q_H1
        have HB := Aside0.mk Q_HB
        refine goes_ Try.func20 (by kernel_rfl) rfl #[.int .u32 ((Crc.sum l0).toNat : Int), .int .u32 ((Crc.sum l1).toNat : Int), .int .i64 ((l1.length : Nat) : Int)] (by rfl) rfl rfl (by first | (simp only [List.map_toArray, List.map_cons, List.map_nil, Act.eval, Array.getD_eq_getD_getElem?, Option.getD_some, e27, e29, e31]; done) | (simp only [List.map_toArray, List.map_cons, List.map_nil, Act.eval, Array.getD_eq_getD_getElem?, Option.getD_some, e27, e29, e31]; rfl)) ?_
        refine (variorumlaw02_Sum32Joins.join l0 l1 _ (by have := HL.out; omega)).mono ?_
        rintro e w1_ ⟨rfl, hb⟩
        refine ⟨_, rfl, ?_⟩
        refine hK.out _ _ ⟨v40, (by rw [ha.out]; exact putSel_upk 6 hb_ rfl rfl rfl), H0.out.below hb, H1.out.below hb, below_step HB.out hb, fun h0_ => absurd ((hoff 14 (by kernel_rfl)).symm.trans h0_) (by decide)⟩
      refine steps_cons ?_ ?_
      · rintro b a w' ⟨v40, ha, Q_H0, Q_H1, Q_HB, Q_S40⟩ hb_ hon hoff
        refine ⟨_, rfl, fun K hK => ?_⟩
        have e0 : a.tmps[0]? = some ((.slice A0 l0.length c0)) := by rw [ha]; exact (putSel_off rfl).trans rfl
        replace ha := Aside0.mk ha
        have H0 := Aside0.mk Q_H0
        have H1 := Aside0.mk Q_H1
        have HB := Aside0.mk Q_HB
        refine value_ (w1 := w') (v := (.slice A0 l0.length c0)) (by rfl) rfl ?_ ?_
        · go_simp
          (try simp only [i64_w])
          try rfl
        refine hK.out _ _ ⟨v40, (by rw [ha.out]; exact putSel_upk 7 hb_ rfl rfl rfl), Q_H0, Q_H1, Q_HB, fun h0_ => absurd ((hoff 14 (by kernel_rfl)).symm.trans h0_) (by decide)⟩
      refine steps_cons ?_ ?_
      · rintro b a w' ⟨v40, ha, Q_H0, Q_H1, Q_HB, Q_S40⟩ hb_ hon hoff
        refine ⟨_, rfl, fun K hK => ?_⟩
        have e0 : a.tmps[0]? = some ((.slice A0 l0.length c0)) := by rw [ha]; exact (putSel_off rfl).trans rfl
        replace ha := Aside0.mk ha
        have H0 := Aside0.mk Q_H0
        have H1 := Aside0.mk Q_H1
        have HB := Aside0.mk Q_HB
        refine value_ (w1 := w') (v := (.slice A0 l0.length c0)) (by rfl) rfl ?_ ?_
        · go_simp
          (try simp only [i64_w])
          try rfl
        refine hK.out _ _ ⟨v40, (by rw [ha.out]; exact putSel_upk 8 hb_ rfl rfl rfl), Q_H0, Q_H1, Q_HB, fun h0_ => absurd ((hoff 14 (by kernel_rfl)).symm.trans h0_) (by decide)⟩
      refine steps_cons ?_ ?_
      · rintro b a w' ⟨v40, ha, Q_H0, Q_H1, Q_HB, Q_S40⟩ hb_ hon hoff
        refine ⟨_, rfl, fun K hK => ?_⟩
        have e34 : a.tmps[34]? = some ((.slice A0 l0.length c0)) := by rw [ha]; exact putSel_on (e := (8, 34, (.slice A0 l0.length c0))) 8 rfl rfl (hon 8 (by kernel_rfl)) rfl
        replace ha := Aside0.mk ha
        have H0 := Aside0.mk Q_H0
        have H1 := Aside0.mk Q_H1
        have HB := Aside0.mk Q_HB
        refine value_ (w1 := w') (v := (.int .i64 ((l0.length : Nat) : Int))) (by rfl) rfl ?_ ?_
        · go_simp
          (try simp only [i64_w])
          try rfl
        refine hK.out _ _ ⟨v40, (by rw [ha.out]; exact putSel_upk 9 hb_ rfl rfl rfl), Q_H0, Q_H1, Q_HB, fun h0_ => absurd ((hoff 14 (by kernel_rfl)).symm.trans h0_) (by decide)⟩
      refine steps_cons ?_ ?_
      · rintro b a w' ⟨v40, ha, Q_H0, Q_H1, Q_HB, Q_S40⟩ hb_ hon hoff
        refine ⟨_, rfl, fun K hK => ?_⟩
        have e0 : a.tmps[0]? = some ((.slice A0 l0.length c0)) := by rw [ha]; exact (putSel_off rfl).trans rfl
        replace ha := Aside0.mk ha
        have H0 := Aside0.mk Q_H0
        have H1 := Aside0.mk Q_H1
        have HB := Aside0.mk Q_HB
        refine value_ (w1 := w') (v := (.slice A0 l0.length c0)) (by rfl) rfl ?_ ?_
        · go_simp
          (try simp only [i64_w])
          try rfl
        refine hK.out _ _ ⟨v40, (by rw [ha.out]; exact putSel_upk 10 hb_ rfl rfl rfl), Q_H0, Q_H1, Q_HB, fun h0_ => absurd ((hoff 14 (by kernel_rfl)).symm.trans h0_) (by decide)⟩
      refine steps_cons ?_ ?_
      · rintro b a w' ⟨v40, ha, Q_H0, Q_H1, Q_HB, Q_S40⟩ hb_ hon hoff
        refine ⟨_, rfl, fun K hK => ?_⟩
        have e36 : a.tmps[36]? = some ((.slice A0 l0.length c0)) := by rw [ha]; exact putSel_on (e := (10, 36, (.slice A0 l0.length c0))) 10 rfl rfl (hon 10 (by kernel_rfl)) rfl
        replace ha := Aside0.mk ha
        have H0 := Aside0.mk Q_H0
        have H1 := Aside0.mk Q_H1
        have HB := Aside0.mk Q_HB
        refine value_ (w1 := w') (v := (.int .i64 ((l0.length : Nat) : Int))) (by rfl) rfl ?_ ?_
        · go_simp
          (try simp only [i64_w])
          try rfl
        refine hK.out _ _ ⟨v40, (by rw [ha.out]; exact putSel_upk 11 hb_ rfl rfl rfl), Q_H0, Q_H1, Q_HB, fun h0_ => absurd ((hoff 14 (by kernel_rfl)).symm.trans h0_) (by decide)⟩
      refine steps_cons ?_ ?_
      · rintro b a w' ⟨v40, ha, Q_H0, Q_H1, Q_HB, Q_S40⟩ hb_ hon hoff
        refine ⟨_, rfl, fun K hK => ?_⟩
        have e33 : a.tmps[33]? = some ((.slice A0 l0.length c0)) := by rw [ha]; exact putSel_on (e := (7, 33, (.slice A0 l0.length c0))) 7 rfl rfl (hon 7 (by kernel_rfl)) rfl
        have e35 : a.tmps[35]? = some ((.int .i64 ((l0.length : Nat) : Int))) := by rw [ha]; exact putSel_on (e := (9, 35, (.int .i64 ((l0.length : Nat) : Int)))) 9 rfl rfl (hon 9 (by kernel_rfl)) rfl
        have e37 : a.tmps[37]? = some ((.int .i64 ((l0.length : Nat) : Int))) := by rw [ha]; exact putSel_on (e := (11, 37, (.int .i64 ((l0.length : Nat) : Int)))) 11 rfl rfl (hon 11 (by kernel_rfl)) rfl
        replace ha := Aside0.mk ha
        have H0 := Aside0.mk Q_H0
        have H1 := Aside0.mk Q_H1
        have HB := Aside0.mk Q_HB
        have hc_ := H0.out.toC.2.1
        have hm_ := H0.out.toC.2.2.2.1
        refine value_ (w1 := w') (v := (.slice A0 l0.length l0.length)) (by rfl) rfl ?_ ?_
        · go_simp
          (try simp only [i64_w])
          try rfl
        refine hK.out _ _ ⟨v40, (by rw [ha.out]; exact putSel_upk 12 hb_ rfl rfl rfl), Q_H0, Q_H1, Q_HB, fun h0_ => absurd ((hoff 14 (by kernel_rfl)).symm.trans h0_) (by decide)⟩
      refine steps_cons ?_ ?_
      · rintro b a w' ⟨v40, ha, Q_H0, Q_H1, Q_HB, Q_S40⟩ hb_ hon hoff
        refine ⟨_, rfl, fun K hK => ?_⟩
        have e1 : a.tmps[1]? = some ((.slice A1 l1.length c1)) := by rw [ha]; exact (putSel_off rfl).trans rfl
        replace ha := Aside0.mk ha
        have H0 := Aside0.mk Q_H0
        have H1 := Aside0.mk Q_H1
        have HB := Aside0.mk Q_HB
        refine value_ (w1 := w') (v := (.slice A1 l1.length c1)) (by rfl) rfl ?_ ?_
        · go_simp
          (try simp only [i64_w])
          try rfl
        refine hK.out _ _ ⟨v40, (by rw [ha.out]; exact putSel_upk 13 hb_ rfl rfl rfl), Q_H0, Q_H1, Q_HB, fun h0_ => absurd ((hoff 14 (by kernel_rfl)).symm.trans h0_) (by decide)⟩
      refine steps_cons ?_ ?_
      · rintro b a w' ⟨v40, ha, Q_H0, Q_H1, Q_HB, Q_S40⟩ hb_ hon hoff
        refine ⟨_, rfl, fun K hK => ?_⟩
        have e38 : a.tmps[38]? = some ((.slice A0 l0.length l0.length)) := by rw [ha]; exact putSel_on (e := (12, 38, (.slice A0 l0.length l0.length))) 12 rfl rfl (hon 12 (by kernel_rfl)) rfl
        have e39 : a.tmps[39]? = some ((.slice A1 l1.length c1)) := by rw [ha]; exact putSel_on (e := (13, 39, (.slice A1 l1.length c1))) 13 rfl rfl (hon 13 (by kernel_rfl)) rfl
        replace ha := Aside0.mk ha
        have H0 := Aside0.mk Q_H0
        have H1 := Aside0.mk Q_H1
        have HB := Aside0.mk Q_HB
        refine Own.value_app (P := Try.prog) (by rfl) rfl rfl Try.underlying22 info5 (by simp only [Act.eval, Array.getD_eq_getD_getElem?, Option.getD_some, e38]) H0.out (by simp only [Act.eval, Array.getD_eq_getD_getElem?, Option.getD_some, e39]) H1.out (by have := HL.out; unfold maxLen; omega) (by have := HL.out; omega) ?_
        intro v40 w1_ hs hb
        refine hK.out _ _ ⟨v40, (by rw [ha.out]; exact putSel_upk 14 hb_ rfl rfl rfl), H0.out.below hb, H1.out.below hb, below_step HB.out hb, fun _ => hs⟩
      refine steps_cons ?_ ?_
      · rintro b a w' ⟨v40, ha, Q_H0, Q_H1, Q_HB, Q_S40⟩ hb_ hon hoff
        refine ⟨_, rfl, fun K hK => ?_⟩
        have e40 : a.tmps[40]? = some (v40) := by rw [ha]; exact putSel_on (e := (14, 40, v40)) 14 rfl rfl (hon 14 (by kernel_rfl)) rfl
        replace ha := Aside0.mk ha
        have H0 := Aside0.mk Q_H0
        have H1 := Aside0.mk Q_H1
        have HB := Aside0.mk Q_HB
        have S40 := Aside0.mk (Q_S40 (hon 14 (by kernel_rfl)))
        refine goes_ Try.func14 (by kernel_rfl) rfl #[v40] (by rfl) rfl rfl (by first | (simp only [List.map_toArray, List.map_cons, List.map_nil, Act.eval, Array.getD_eq_getD_getElem?, Option.getD_some, e40]; done) | (simp only [List.map_toArray, List.map_cons, List.map_nil, Act.eval, Array.getD_eq_getD_getElem?, Option.getD_some, e40]; rfl)) ?_
        refine (Nice.nSum _ (l0 ++ l1) _ S40.out (by have := HL.out; simp; omega)).mono ?_
        rintro e w1_ ⟨rfl, hb⟩
        refine ⟨_, rfl, ?_⟩
        refine hK.out _ _ ⟨v40, (by rw [ha.out]; exact putSel_upk 15 hb_ rfl rfl rfl), H0.out.below hb, H1.out.below hb, below_step HB.out hb, fun _ => S40.out.below hb⟩
      refine steps_cons ?_ ?_
      · rintro b a w' ⟨v40, ha, Q_H0, Q_H1, Q_HB, Q_S40⟩ hb_ hon hoff
        refine ⟨_, rfl, fun K hK => ?_⟩
        have e32 : a.tmps[32]? = some ((.int .u32 ((Crc.sum (l0 ++ l1)).toNat : Int))) := by rw [ha]; exact putSel_on (e := (6, 32, (.int .u32 ((Crc.sum (l0 ++ l1)).toNat : Int)))) 6 rfl rfl (hon 6 (by kernel_rfl)) rfl
        have e41 : a.tmps[41]? = some ((.int .u32 ((Crc.sum (l0 ++ l1)).toNat : Int))) := by rw [ha]; exact putSel_on (e := (15, 41, (.int .u32 ((Crc.sum (l0 ++ l1)).toNat : Int)))) 15 rfl rfl (hon 15 (by kernel_rfl)) rfl
        replace ha := Aside0.mk ha
        have H0 := Aside0.mk Q_H0
        have H1 := Aside0.mk Q_H1
        have HB := Aside0.mk Q_HB
        have S40 := Aside0.mk (Q_S40 (hon 14 (by kernel_rfl)))
        refine value_ (w1 := w') (v := (.bool true)) (by rfl) rfl ?_ ?_
        · go_simp
          (try simp only [i64_w])
          try rfl
        refine hK.out _ _ ⟨v40, (by rw [ha.out]; exact putSel_upk 16 hb_ rfl rfl rfl), Q_H0, Q_H1, Q_HB, Q_S40⟩
      refine steps_cons ?_ ?_
      · rintro b a w' ⟨v40, ha, Q_H0, Q_H1, Q_HB, Q_S40⟩ hb_ hon hoff
        refine ⟨_, rfl, fun K hK => ?_⟩
        have e42 : a.tmps[42]? = some ((.bool true)) := by rw [ha]; exact putSel_on (e := (16, 42, (.bool true))) 16 rfl rfl (hon 16 (by kernel_rfl)) rfl
        replace ha := Aside0.mk ha
        have H0 := Aside0.mk Q_H0
        have H1 := Aside0.mk Q_H1
        have HB := Aside0.mk Q_HB
        have S40 := Aside0.mk (Q_S40 (hon 14 (by kernel_rfl)))
        refine value_ (w1 := w') (v := (.bool true)) (by rfl) rfl ?_ ?_
        · go_simp
          (try simp only [i64_w])
          try rfl
        refine hK.out _ _ ⟨v40, (by rw [ha.out]; exact putSel_upk 17 hb_ rfl rfl rfl), Q_H0, Q_H1, Q_HB, Q_S40⟩
      refine steps_cons ?_ ?_
      · rintro b a w' ⟨v40, ha, Q_H0, Q_H1, Q_HB, Q_S40⟩ hb_ hon hoff
        refine ⟨_, rfl, fun K hK => ?_⟩
        have e2 : a.tmps[2]? = some ((.int .u32 (X.toNat : Int))) := by rw [ha]; exact (putSel_off rfl).trans rfl
        have e43 : a.tmps[43]? = some ((.bool true)) := by rw [ha]; exact putSel_on (e := (17, 43, (.bool true))) 17 rfl rfl (hon 17 (by kernel_rfl)) rfl
        replace ha := Aside0.mk ha
        have H0 := Aside0.mk Q_H0
        have H1 := Aside0.mk Q_H1
        have HB := Aside0.mk Q_HB
        have S40 := Aside0.mk (Q_S40 (hon 14 (by kernel_rfl)))
        refine value_ (w1 := w') (v := (.int .u32 (X.toNat : Int))) (wanted_on rfl rfl rfl (e43.trans (by first | rfl | (simp [*]; done)))) rfl ?_ ?_
        · go_simp
          (try simp only [i64_w])
          try rfl
        refine hK.out _ _ ⟨v40, (by rw [ha.out]; exact putSel_upk 18 hb_ rfl rfl rfl), Q_H0, Q_H1, Q_HB, Q_S40⟩
      refine steps_cons ?_ ?_
      · rintro b a w' ⟨v40, ha, Q_H0, Q_H1, Q_HB, Q_S40⟩ hb_ hon hoff
        refine ⟨_, rfl, fun K hK => ?_⟩
        have e3 : a.tmps[3]? = some ((.int .u32 (Y.toNat : Int))) := by rw [ha]; exact (putSel_off rfl).trans rfl
        have e43 : a.tmps[43]? = some ((.bool true)) := by rw [ha]; exact putSel_on (e := (17, 43, (.bool true))) 17 rfl rfl (hon 17 (by kernel_rfl)) rfl
        replace ha := Aside0.mk ha
        have H0 := Aside0.mk Q_H0
        have H1 := Aside0.mk Q_H1
        have HB := Aside0.mk Q_HB
        have S40 := Aside0.mk (Q_S40 (hon 14 (by kernel_rfl)))
        refine value_ (w1 := w') (v := (.int .u32 (Y.toNat : Int))) (wanted_on rfl rfl rfl (e43.trans (by first | rfl | (simp [*]; done)))) rfl ?_ ?_
        · go_simp
          (try simp only [i64_w])
          try rfl
        refine hK.out _ _ ⟨v40, (by rw [ha.out]; exact putSel_upk 19 hb_ rfl rfl rfl), Q_H0, Q_H1, Q_HB, Q_S40⟩
      refine steps_cons ?_ ?_
      · rintro b a w' ⟨v40, ha, Q_H0, Q_H1, Q_HB, Q_S40⟩ hb_ hon hoff
        refine ⟨_, rfl, fun K hK => ?_⟩
        have e4 : a.tmps[4]? = some ((.int .i64 many)) := by rw [ha]; exact (putSel_off rfl).trans rfl
        have e43 : a.tmps[43]? = some ((.bool true)) := by rw [ha]; exact putSel_on (e := (17, 43, (.bool true))) 17 rfl rfl (hon 17 (by kernel_rfl)) rfl
        replace ha := Aside0.mk ha
        have H0 := Aside0.mk Q_H0
        have H1 := Aside0.mk Q_H1
        have HB := Aside0.mk Q_HB
        have S40 := Aside0.mk (Q_S40 (hon 14 (by kernel_rfl)))
        refine value_ (w1 := w') (v := (.int .i64 many)) (wanted_on rfl rfl rfl (e43.trans (by first | rfl | (simp [*]; done)))) rfl ?_ ?_
        · go_simp
          (try simp only [i64_w])
          try rfl
        refine hK.out _ _ ⟨v40, (by rw [ha.out]; exact putSel_upk 20 hb_ rfl rfl rfl), Q_H0, Q_H1, Q_HB, Q_S40⟩
      refine steps_cons ?_ ?_
      · rintro b a w' ⟨v40, ha, Q_H0, Q_H1, Q_HB, Q_S40⟩ hb_ hon hoff
        refine ⟨_, rfl, fun K hK => ?_⟩
        have e44 : a.tmps[44]? = some ((.int .u32 (X.toNat : Int))) := by rw [ha]; exact putSel_on (e := (18, 44, (.int .u32 (X.toNat : Int)))) 18 rfl rfl (hon 18 (by kernel_rfl)) rfl
        have e45 : a.tmps[45]? = some ((.int .u32 (Y.toNat : Int))) := by rw [ha]; exact putSel_on (e := (19, 45, (.int .u32 (Y.toNat : Int)))) 19 rfl rfl (hon 19 (by kernel_rfl)) rfl
        have e46 : a.tmps[46]? = some ((.int .i64 many)) := by rw [ha]; exact putSel_on (e := (20, 46, (.int .i64 many))) 20 rfl rfl (hon 20 (by kernel_rfl)) rfl
        have e43 : a.tmps[43]? = some ((.bool true)) := by rw [ha]; exact putSel_on (e := (17, 43, (.bool true))) 17 rfl rfl (hon 17 (by kernel_rfl)) rfl
        replace ha := Aside0.mk ha
        have H0 := Aside0.mk Q_H0
        have H1 := Aside0.mk Q_H1
        have HB := Aside0.mk Q_HB
        have S40 := Aside0.mk (Q_S40 (hon 14 (by kernel_rfl)))
        refine goes_ Try.func20 (by kernel_rfl) rfl #[.int .u32 (X.toNat : Int), .int .u32 (Y.toNat : Int), .int .i64 many] (wanted_on rfl rfl rfl (e43.trans (by first | rfl | (simp [*]; done)))) rfl rfl (by first | (simp only [List.map_toArray, List.map_cons, List.map_nil, Act.eval, Array.getD_eq_getD_getElem?, Option.getD_some, e44, e45, e46, e43]; done) | (simp only [List.map_toArray, List.map_cons, List.map_nil, Act.eval, Array.getD_eq_getD_getElem?, Option.getD_some, e44, e45, e46, e43]; rfl)) ?_
        refine (JoinW.nJoin X Y many _).mono ?_
        rintro e w1_ ⟨rfl, hb⟩
        refine ⟨_, rfl, ?_⟩
        refine hK.out _ _ ⟨v40, (by rw [ha.out]; exact putSel_upk 21 hb_ rfl rfl rfl), H0.out.below hb, H1.out.below hb, below_step HB.out hb, fun _ => S40.out.below hb⟩
      refine steps_cons ?_ ?_
      · rintro b a w' ⟨v40, ha, Q_H0, Q_H1, Q_HB, Q_S40⟩ hb_ hon hoff
        refine ⟨_, rfl, fun K hK => ?_⟩
        have e2 : a.tmps[2]? = some ((.int .u32 (X.toNat : Int))) := by rw [ha]; exact (putSel_off rfl).trans rfl
        have e43 : a.tmps[43]? = some ((.bool true)) := by rw [ha]; exact putSel_on (e := (17, 43, (.bool true))) 17 rfl rfl (hon 17 (by kernel_rfl)) rfl
        replace ha := Aside0.mk ha
        have H0 := Aside0.mk Q_H0
        have H1 := Aside0.mk Q_H1
        have HB := Aside0.mk Q_HB
        have S40 := Aside0.mk (Q_S40 (hon 14 (by kernel_rfl)))
        refine value_ (w1 := w') (v := (.int .u32 (X.toNat : Int))) (wanted_on rfl rfl rfl (e43.trans (by first | rfl | (simp [*]; done)))) rfl ?_ ?_
        · go_simp
          (try simp only [i64_w])
          try rfl
        refine hK.out _ _ ⟨v40, (by rw [ha.out]; exact putSel_upk 22 hb_ rfl rfl rfl), Q_H0, Q_H1, Q_HB, Q_S40⟩
      refine steps_cons ?_ ?_
      · rintro b a w' ⟨v40, ha, Q_H0, Q_H1, Q_HB, Q_S40⟩ hb_ hon hoff
        refine ⟨_, rfl, fun K hK => ?_⟩
        have e3 : a.tmps[3]? = some ((.int .u32 (Y.toNat : Int))) := by rw [ha]; exact (putSel_off rfl).trans rfl
        have e43 : a.tmps[43]? = some ((.bool true)) := by rw [ha]; exact putSel_on (e := (17, 43, (.bool true))) 17 rfl rfl (hon 17 (by kernel_rfl)) rfl
        replace ha := Aside0.mk ha
        have H0 := Aside0.mk Q_H0
        have H1 := Aside0.mk Q_H1
        have HB := Aside0.mk Q_HB
        have S40 := Aside0.mk (Q_S40 (hon 14 (by kernel_rfl)))
        refine value_ (w1 := w') (v := (.int .u32 (Y.toNat : Int))) (wanted_on rfl rfl rfl (e43.trans (by first | rfl | (simp [*]; done)))) rfl ?_ ?_
        · go_simp
          (try simp only [i64_w])
          try rfl
        refine hK.out _ _ ⟨v40, (by rw [ha.out]; exact putSel_upk 23 hb_ rfl rfl rfl), Q_H0, Q_H1, Q_HB, Q_S40⟩
      refine steps_cons ?_ ?_
      · rintro b a w' ⟨v40, ha, Q_H0, Q_H1, Q_HB, Q_S40⟩ hb_ hon hoff
        refine ⟨_, rfl, fun K hK => ?_⟩
        have e4 : a.tmps[4]? = some ((.int .i64 many)) := by rw [ha]; exact (putSel_off rfl).trans rfl
        have e43 : a.tmps[43]? = some ((.bool true)) := by rw [ha]; exact putSel_on (e := (17, 43, (.bool true))) 17 rfl rfl (hon 17 (by kernel_rfl)) rfl
        replace ha := Aside0.mk ha
        have H0 := Aside0.mk Q_H0
        have H1 := Aside0.mk Q_H1
        have HB := Aside0.mk Q_HB
        have S40 := Aside0.mk (Q_S40 (hon 14 (by kernel_rfl)))
        refine value_ (w1 := w') (v := (.int .i64 many)) (wanted_on rfl rfl rfl (e43.trans (by first | rfl | (simp [*]; done)))) rfl ?_ ?_
        · go_simp
          (try simp only [i64_w])
          try rfl
        refine hK.out _ _ ⟨v40, (by rw [ha.out]; exact putSel_upk 24 hb_ rfl rfl rfl), Q_H0, Q_H1, Q_HB, Q_S40⟩
      refine steps_cons ?_ ?_
      · rintro b a w' ⟨v40, ha, Q_H0, Q_H1, Q_HB, Q_S40⟩ hb_ hon hoff
        refine ⟨_, rfl, fun K hK => ?_⟩
        have e48 : a.tmps[48]? = some ((.int .u32 (X.toNat : Int))) := by rw [ha]; exact putSel_on (e := (22, 48, (.int .u32 (X.toNat : Int)))) 22 rfl rfl (hon 22 (by kernel_rfl)) rfl
        have e49 : a.tmps[49]? = some ((.int .u32 (Y.toNat : Int))) := by rw [ha]; exact putSel_on (e := (23, 49, (.int .u32 (Y.toNat : Int)))) 23 rfl rfl (hon 23 (by kernel_rfl)) rfl
        have e50 : a.tmps[50]? = some ((.int .i64 many)) := by rw [ha]; exact putSel_on (e := (24, 50, (.int .i64 many))) 24 rfl rfl (hon 24 (by kernel_rfl)) rfl
        have e43 : a.tmps[43]? = some ((.bool true)) := by rw [ha]; exact putSel_on (e := (17, 43, (.bool true))) 17 rfl rfl (hon 17 (by kernel_rfl)) rfl
        replace ha := Aside0.mk ha
        have H0 := Aside0.mk Q_H0
        have H1 := Aside0.mk Q_H1
        have HB := Aside0.mk Q_HB
        have S40 := Aside0.mk (Q_S40 (hon 14 (by kernel_rfl)))
        refine goes_ Try.func21 (by kernel_rfl) rfl #[.int .u32 (X.toNat : Int), .int .u32 (Y.toNat : Int), .int .i64 many] (wanted_on rfl rfl rfl (e43.trans (by first | rfl | (simp [*]; done)))) rfl rfl (by first | (simp only [List.map_toArray, List.map_cons, List.map_nil, Act.eval, Array.getD_eq_getD_getElem?, Option.getD_some, e48, e49, e50, e43]; done) | (simp only [List.map_toArray, List.map_cons, List.map_nil, Act.eval, Array.getD_eq_getD_getElem?, Option.getD_some, e48, e49, e50, e43]; rfl)) ?_
        refine (JoinW.nRefJoin X Y many _).mono ?_
        rintro e w1_ ⟨rfl, hb⟩
        refine ⟨_, rfl, ?_⟩
        refine hK.out _ _ ⟨v40, (by rw [ha.out]; exact putSel_upk 25 hb_ rfl rfl rfl), H0.out.below hb, H1.out.below hb, below_step HB.out hb, fun _ => S40.out.below hb⟩
      refine steps_cons ?_ ?_
      · rintro b a w' ⟨v40, ha, Q_H0, Q_H1, Q_HB, Q_S40⟩ hb_ hon hoff
        refine ⟨_, rfl, fun K hK => ?_⟩
        have e47 : a.tmps[47]? = some ((.int .u32 ((JoinW.joinL X Y many).toNat : Int))) := by rw [ha]; exact putSel_on (e := (21, 47, (.int .u32 ((JoinW.joinL X Y many).toNat : Int)))) 21 rfl rfl (hon 21 (by kernel_rfl)) rfl
        have e51 : a.tmps[51]? = some ((.int .u32 ((JoinW.joinL X Y many).toNat : Int))) := by rw [ha]; exact putSel_on (e := (25, 51, (.int .u32 ((JoinW.joinL X Y many).toNat : Int)))) 25 rfl rfl (hon 25 (by kernel_rfl)) rfl
        have e43 : a.tmps[43]? = some ((.bool true)) := by rw [ha]; exact putSel_on (e := (17, 43, (.bool true))) 17 rfl rfl (hon 17 (by kernel_rfl)) rfl
        replace ha := Aside0.mk ha
        have H0 := Aside0.mk Q_H0
        have H1 := Aside0.mk Q_H1
        have HB := Aside0.mk Q_HB
        have S40 := Aside0.mk (Q_S40 (hon 14 (by kernel_rfl)))
        refine value_ (w1 := w') (v := (.bool true)) (wanted_on rfl rfl rfl (e43.trans (by first | rfl | (simp [*]; done)))) rfl ?_ ?_
        · go_simp
          (try simp only [i64_w])
          try rfl
        refine hK.out _ _ ⟨v40, (by rw [ha.out]; exact putSel_upk 26 hb_ rfl rfl rfl), Q_H0, Q_H1, Q_HB, Q_S40⟩
      refine steps_cons ?_ ?_
      · rintro b a w' ⟨v40, ha, Q_H0, Q_H1, Q_HB, Q_S40⟩ hb_ hon hoff
        refine ⟨_, rfl, fun K hK => ?_⟩
        have e43 : a.tmps[43]? = some ((.bool true)) := by rw [ha]; exact putSel_on (e := (17, 43, (.bool true))) 17 rfl rfl (hon 17 (by kernel_rfl)) rfl
        have e52 : a.tmps[52]? = some ((.bool true)) := by rw [ha]; exact putSel_on (e := (26, 52, (.bool true))) 26 rfl rfl (hon 26 (by kernel_rfl)) rfl
        replace ha := Aside0.mk ha
        have H0 := Aside0.mk Q_H0
        have H1 := Aside0.mk Q_H1
        have HB := Aside0.mk Q_HB
        have S40 := Aside0.mk (Q_S40 (hon 14 (by kernel_rfl)))
        refine value_ (w1 := w') (v := (.bool true)) (by rfl) rfl ?_ ?_
        · go_simp
          (try simp only [i64_w])
          try rfl
        refine hK.out _ _ ⟨v40, (by rw [ha.out]; exact putSel_upk 27 hb_ rfl rfl rfl), Q_H0, Q_H1, Q_HB, Q_S40⟩
      refine steps_cons ?_ ?_
      · rintro b a w' ⟨v40, ha, Q_H0, Q_H1, Q_HB, Q_S40⟩ hb_ hon hoff
        refine ⟨_, rfl, fun K hK => ?_⟩
        have e53 : a.tmps[53]? = some ((.bool true)) := by rw [ha]; exact putSel_on (e := (27, 53, (.bool true))) 27 rfl rfl (hon 27 (by kernel_rfl)) rfl
        replace ha := Aside0.mk ha
        have H0 := Aside0.mk Q_H0
        have H1 := Aside0.mk Q_H1
        have HB := Aside0.mk Q_HB
        have S40 := Aside0.mk (Q_S40 (hon 14 (by kernel_rfl)))
        refine value_ (w1 := w') (v := (.bool true)) (by rfl) rfl ?_ ?_
        · go_simp
          (try simp only [i64_w])
          try rfl
        refine hK.out _ _ ⟨v40, (by rw [ha.out]; exact putSel_upk 28 hb_ rfl rfl rfl), Q_H0, Q_H1, Q_HB, Q_S40⟩
      refine steps_cons ?_ ?_
      · rintro b a w' ⟨v40, ha, Q_H0, Q_H1, Q_HB, Q_S40⟩ hb_ hon hoff
        refine ⟨_, rfl, fun K hK => ?_⟩
        have e54 : a.tmps[54]? = some ((.bool true)) := by rw [ha]; exact putSel_on (e := (28, 54, (.bool true))) 28 rfl rfl (hon 28 (by kernel_rfl)) rfl
        replace ha := Aside0.mk ha
        have H0 := Aside0.mk Q_H0
        have H1 := Aside0.mk Q_H1
        have HB := Aside0.mk Q_HB
        have S40 := Aside0.mk (Q_S40 (hon 14 (by kernel_rfl)))
        refine goes_ Try.func13 (by kernel_rfl) rfl #[] (wanted_on rfl rfl rfl (e54.trans (by first | rfl | (simp [*]; done)))) rfl rfl (by first | (simp only [List.map_toArray, List.map_cons, List.map_nil, Act.eval, Array.getD_eq_getD_getElem?, Option.getD_some, e54]; done) | (simp only [List.map_toArray, List.map_cons, List.map_nil, Act.eval, Array.getD_eq_getD_getElem?, Option.getD_some, e54]; rfl)) ?_
        refine (variorumlaw02_lives.calls true _ rfl).mono ?_
        rintro e w1_ ⟨rfl, hb⟩
        refine ⟨_, rfl, ?_⟩
        refine hK.out _ _ ⟨v40, (by rw [ha.out]; exact putSel_upk 29 hb_ rfl rfl rfl), H0.out.below hb, H1.out.below hb, below_step HB.out hb, fun _ => S40.out.below hb⟩
      refine steps_cons ?_ ?_
      · rintro b a w' ⟨v40, ha, Q_H0, Q_H1, Q_HB, Q_S40⟩ hb_ hon hoff
        refine ⟨_, rfl, fun K hK => ?_⟩
        have e54 : a.tmps[54]? = some ((.bool true)) := by rw [ha]; exact putSel_on (e := (28, 54, (.bool true))) 28 rfl rfl (hon 28 (by kernel_rfl)) rfl
        have e55 : a.tmps[55]? = some ((.bool true)) := by rw [ha]; exact putSel_on (e := (29, 55, (.bool true))) 29 rfl rfl (hon 29 (by kernel_rfl)) rfl
        replace ha := Aside0.mk ha
        have H0 := Aside0.mk Q_H0
        have H1 := Aside0.mk Q_H1
        have HB := Aside0.mk Q_HB
        have S40 := Aside0.mk (Q_S40 (hon 14 (by kernel_rfl)))
        refine value_ (w1 := w') (v := (.bool true)) (by rfl) rfl ?_ ?_
        · go_simp
          (try simp only [i64_w])
          try rfl
        refine hK.out _ _ ⟨v40, (by rw [ha.out]; exact putSel_upk 30 hb_ rfl rfl rfl), Q_H0, Q_H1, Q_HB, Q_S40⟩
      refine steps_cons ?_ ?_
      · rintro b a w' ⟨v40, ha, Q_H0, Q_H1, Q_HB, Q_S40⟩ hb_ hon hoff
        refine ⟨_, rfl, fun K hK => ?_⟩
        have e56 : a.tmps[56]? = some ((.bool true)) := by rw [ha]; exact putSel_on (e := (30, 56, (.bool true))) 30 rfl rfl (hon 30 (by kernel_rfl)) rfl
        replace ha := Aside0.mk ha
        have H0 := Aside0.mk Q_H0
        have H1 := Aside0.mk Q_H1
        have HB := Aside0.mk Q_HB
        have S40 := Aside0.mk (Q_S40 (hon 14 (by kernel_rfl)))
        refine value_ (w1 := w') (v := (.bool true)) (by rfl) rfl ?_ ?_
        · go_simp
          (try simp only [i64_w])
          try rfl
        refine hK.out _ _ ⟨v40, (by rw [ha.out]; exact putSel_upk 31 hb_ rfl rfl rfl), Q_H0, Q_H1, Q_HB, Q_S40⟩
      exact steps_nil
    rintro b a we hall ⟨v40, ha, Q_H0, Q_H1, Q_HB, Q_S40⟩
    clear H0 H1 HB
    have hb0_ := hall 0 (by kernel_rfl)
    have hb1_ := hall 1 (by kernel_rfl)
    have hb2_ := hall 2 (by kernel_rfl)
    have hb3_ := hall 3 (by kernel_rfl)
    have hb4_ := hall 4 (by kernel_rfl)
    have hb5_ := hall 5 (by kernel_rfl)
    have hb6_ := hall 6 (by kernel_rfl)
    have hb7_ := hall 7 (by kernel_rfl)
    have hb8_ := hall 8 (by kernel_rfl)
    have hb9_ := hall 9 (by kernel_rfl)
    have hb10_ := hall 10 (by kernel_rfl)
    have hb11_ := hall 11 (by kernel_rfl)
    have hb12_ := hall 12 (by kernel_rfl)
    have hb13_ := hall 13 (by kernel_rfl)
    have hb14_ := hall 14 (by kernel_rfl)
    have hb15_ := hall 15 (by kernel_rfl)
    have hb16_ := hall 16 (by kernel_rfl)
    have hb17_ := hall 17 (by kernel_rfl)
    have hb18_ := hall 18 (by kernel_rfl)
    have hb19_ := hall 19 (by kernel_rfl)
    have hb20_ := hall 20 (by kernel_rfl)
    have hb21_ := hall 21 (by kernel_rfl)
    have hb22_ := hall 22 (by kernel_rfl)
    have hb23_ := hall 23 (by kernel_rfl)
    have hb24_ := hall 24 (by kernel_rfl)
    have hb25_ := hall 25 (by kernel_rfl)
    have hb26_ := hall 26 (by kernel_rfl)
    have hb27_ := hall 27 (by kernel_rfl)
    have hb28_ := hall 28 (by kernel_rfl)
    have hb29_ := hall 29 (by kernel_rfl)
    have hb30_ := hall 30 (by kernel_rfl)
    have hb31_ := hall 31 (by kernel_rfl)
    subst ha
    simp only [putSel, hb0_, hb1_, hb2_, hb3_, hb4_, hb5_, hb6_, hb7_, hb8_, hb9_, hb10_, hb11_, hb12_, hb13_, hb14_, hb15_, hb16_, hb17_, hb18_, hb19_, hb20_, hb21_, hb22_, hb23_, hb24_, hb25_, hb26_, hb27_, hb28_, hb29_, hb30_, hb31_, if_true, Act.put, List.setIfInBounds_toArray, List.set_cons_zero, List.set_cons_succ]
    have H0 := Aside0.mk Q_H0
    clear Q_H0
    have H1 := Aside0.mk Q_H1
    clear Q_H1
    have HB := Aside0.mk Q_HB
    clear Q_HB
    have S40 := Aside0.mk (Q_S40 hb14_)
    clear Q_S40
    clear hall hb0_ hb1_ hb2_ hb3_ hb4_ hb5_ hb6_ hb7_ hb8_ hb9_ hb10_ hb11_ hb12_ hb13_ hb14_ hb15_ hb16_ hb17_ hb18_ hb19_ hb20_ hb21_ hb22_ hb23_ hb24_ hb25_ hb26_ hb27_ hb28_ hb29_ hb30_ hb31_
    go_wp2_with fail
    go_ret
    exact ⟨rfl, HB.out⟩
set_option maxHeartbeats 2000000 in
set_option maxRecDepth 100000 in
theorem variorumlaw02_Sum32Joins.far (A0 : Option Addr) (c0 : Nat) (l0 : List Int) (A1 : Option Addr) (c1 : Nat) (l1 : List Int) (x y : Int) (many : Int) (w : World) (y0 : l0.length * 1 ≤ 140737488351232) (y1 : l1.length * 1 ≤ 140737488351232) (h : ¬ (l0.length + l1.length ≤ 5000 ∧ (many ≤ 5000 ∨ 1048576 < many))) :
    Calls Try.prog 6 #[.slice A0 l0.length c0, .slice A1 l1.length c1, .int .u32 x, .int .u32 y, .int .i64 many] w fun e w' => e = .returned (.bool true) ∧ Below w.heap.size w w' := by
  rw [Nat.mul_one] at y0 y1
  by_cases h1 : (5000 : Int) < (l0.length : Int) + (l1.length : Int)
  · clear h
    go_enter Try.func6, Try.ntmps6
    go_wp2_with fail
    refine (variorumlaw02_lives.calls true _ rfl).mono ?_
    rintro e w1 ⟨rfl, hb⟩
    go_wp2_with fail
    go_ret
    exact ⟨rfl, hb⟩
  · have h2 : (5000 : Int) < many := by omega
    have h3 : many ≤ 1048576 := by omega
    clear h
    go_enter Try.func6, Try.ntmps6
    go_wp2_with fail
    refine (variorumlaw02_lives.calls true _ rfl).mono ?_
    rintro e w1 ⟨rfl, hb⟩
    go_wp2_with fail
    go_ret
    exact ⟨rfl, hb⟩
theorem variorumlaw02_Sum32Joins.holds (A0 : Option Addr) (c0 : Nat) (l0 : List Int) (A1 : Option Addr) (c1 : Nat) (l1 : List Int) (x y many : Int) (w : World) (hr0 : Kd.C (Kd.int .u8) w A0 l0.length l0) (hc0 : l0.length ≤ c0) (y0 : l0.length * 1 ≤ 140737488351232) (_ : ∀ x ∈ l0, (Lit.int .u8 x).wf = true)
    (hr1 : Kd.C (Kd.int .u8) w A1 l1.length l1) (hc1 : l1.length ≤ c1) (y1 : l1.length * 1 ≤ 140737488351232) (_ : ∀ x ∈ l1, (Lit.int .u8 x).wf = true) (wx : (Lit.int .u32 x).wf = true) (wy : (Lit.int .u32 y).wf = true) (_ : (Lit.int .i64 many).wf = true) :
    Calls Try.prog 6 #[.slice A0 l0.length c0, .slice A1 l1.length c1, .int .u32 x, .int .u32 y, .int .i64 many] w fun e w' => e = .returned (.bool true) ∧ Below w.heap.size w w' := by
  by_cases h : l0.length + l1.length ≤ 5000 ∧ (many ≤ 5000 ∨ 1048576 < many)
  · obtain ⟨X, rfl⟩ := variorumlaw02_Sum32Joins.u32 wx
    obtain ⟨Y, rfl⟩ := variorumlaw02_Sum32Joins.u32 wy
    exact variorumlaw02_Sum32Joins.region A0 c0 l0 A1 c1 l1 X Y many w (Own.Sl.mk hr0 hc0) (Own.Sl.mk hr1 hc1) h.1 h.2
  · exact variorumlaw02_Sum32Joins.far A0 c0 l0 A1 c1 l1 x y many w y0 y1 h
def variorumlaw02_Sum32Joins.Pure : Prop := True
theorem variorumlaw02_Sum32Joins.walk (_ : variorumlaw02_Sum32Joins.Pure) (a0 : Option Addr) (len0 cap0 : Nat) (z0 : List Int) (a1 : Option Addr) (len1 cap1 : Nat) (z1 : List Int) (a2 : Int) (a3 : Int) (a4 : Int) (w : World) (w0 : (a0 = none ∧ len0 = 0 ∧ cap0 = 0 ∧ z0 = []) ∨ ∃ x, a0 = some x ∧ len0 ≤ cap0 ∧ cap0 ≤ maxLen ∧ z0.length = cap0 ∧ (∀ i, i < z0.length → w.cell? (x.add i) = some (.int .u8 (z0.getD i 0))) ∧ ∀ n ∈ z0, (Lit.int .u8 n).wf = true) (y0 : len0 * 1 ≤ 140737488351232) (w1 : (a1 = none ∧ len1 = 0 ∧ cap1 = 0 ∧ z1 = []) ∨ ∃ x, a1 = some x ∧ len1 ≤ cap1 ∧ cap1 ≤ maxLen ∧ z1.length = cap1 ∧ (∀ i, i < z1.length → w.cell? (x.add i) = some (.int .u8 (z1.getD i 0))) ∧ ∀ n ∈ z1, (Lit.int .u8 n).wf = true) (y1 : len1 * 1 ≤ 140737488351232) (w2 : (Lit.int .u32 a2).wf = true) (w3 : (Lit.int .u32 a3).wf = true) (w4 : (Lit.int .i64 a4).wf = true) :
    Calls Try.prog 6 #[.slice a0 len0 cap0, .slice a1 len1 cap1, .int .u32 a2, .int .u32 a3, .int .i64 a4] w fun e w' => e = .returned (.bool true) ∧ Below w.heap.size w w' := by
  obtain ⟨l0, rfl, hr0, hm0, hw0, hc0⟩ := ReadsInt.ofRowC w0
  obtain ⟨l1, rfl, hr1, hm1, hw1, hc1⟩ := ReadsInt.ofRowC w1
  exact variorumlaw02_Sum32Joins.holds _ _ l0 _ _ l1 a2 a3 a4 w (Kd.C_of_reads (d := (0 : Int)) (h1 := fun _ => rfl) hr0) hc0 y0 hw0 (Kd.C_of_reads (d := (0 : Int)) (h1 := fun _ => rfl) hr1) hc1 y1 hw1 w2 w3 w4

end Go.Proofs.Ytgefpgbofhcmdaa.P

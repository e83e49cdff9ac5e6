-- Written by wip/myprint.py of this session, over the kit's print.py: a Lean function for each Go function, and the proof that the code comes to it.
import Derived.Test.YtgefpgbofhcmdaaPBase
import Derived.Test.YtgefpgbofhcmdaaPvariorumlaw02lives
import Derived.Test.YtgefpgbofhcmdaaNice2
namespace Go.Proofs.Ytgefpgbofhcmdaa.P
open Go.RowKit Go.Proofs.YtgefpgbofhcmdaaW.PrintWords Go.Proofs.YtgefpgbofhcmdaaW.PrintLast Go.Proofs.YtgefpgbofhcmdaaW.PrintMore
attribute [local go_sem] max2_int min2_int max_two min_two max_three min_three max_four min_four   -- for this text's walks alone
set_option linter.unusedVariables false
set_option linter.unusedSimpArgs false

/-! ### variorumlaw02_Sum32Tells: function 4 -/
-- NEEDS Derived.Test.YtgefpgbofhcmdaaNice2
def variorumlaw02_Sum32Tells.T6 : Bool × List (List Nat × List Nat) := (true, [([], []), ([0], [0]), ([], []), ([2, 1], [2]), ([1, 3], [1, 3]), ([4, 3], [4]), ([5], [5]), ([6, 5, 5], [5, 6]), ([7, 5], [5, 7]), ([5], [5]), ([9, 7, 5], [5, 9]), ([10, 5], [5, 10]), ([8, 11, 5], [5, 8, 11]), ([5, 12], [5, 12]), ([13, 10], [13]), ([14], [14]), ([15, 14], [14, 15]), ([14], [14]), ([17, 14], [14, 17]), ([16, 18, 14], [14, 16, 18]), ([14, 19], [14, 19]), ([20, 14], [20]), ([21], [21]), ([21], [21]), ([22, 23, 21], [21, 22, 23]), ([21, 24], [21, 24]), ([25, 21], [25]), ([26], [26]), ([26, 27], [26, 27]), ([28, 26], [28]), ([29], [29]), ([30, 29], [29, 30]), ([29], [29]), ([32, 29], [29, 32]), ([31, 33, 29], [29, 31, 33]), ([29, 34], [29, 34]), ([35, 29], [35]), ([36, 36], [36]), ([36, 37], [36, 37]), ([38, 37, 0, 1, 2, 3, 4, 5, 6, 7, 8, 9, 10, 11, 12, 13, 14, 15, 16, 17, 18, 19, 20, 21, 22, 23, 24, 25, 26, 27, 28, 29, 30, 31, 32, 33, 34, 35, 36, 37, 38], [38])])
def variorumlaw02_Sum32Tells.B6 : List Nat := [0, 1, 0, 7, 15, 31, 63, 127, 255, 63, 767, 1791, 4095, 8191, 16383, 32767, 65535, 32767, 163839, 524287, 1048575, 2097151, 4194303, 4194303, 16777215, 33554431, 67108863, 134217727, 268435455, 536870911, 1073741823, 2147483647, 1073741823, 5368709119, 17179869183, 34359738367, 68719476735, 137438953471, 274877906943, 549755813887]
theorem variorumlaw02_Sum32Tells.tab6 : rtab .any (opsOf Try.f4 6) = variorumlaw02_Sum32Tells.T6 := by kernel_rfl
theorem variorumlaw02_Sum32Tells.bits6 : waitsOk variorumlaw02_Sum32Tells.T6.2 variorumlaw02_Sum32Tells.B6 = true := by kernel_rfl
set_option maxHeartbeats 8000000 in
set_option maxRecDepth 100000 in
theorem variorumlaw02_Sum32Tells.holds (A0 : Option Addr) (c0 : Nat) (l0 : List Int) (w : World) (hr0 : Kd.C (Kd.int .u8) w A0 l0.length l0) (hc0 : l0.length ≤ c0) (_ : l0.length * 1 ≤ 140737488351232) (_ : ∀ x ∈ l0, (Lit.int .u8 x).wf = true) :
    Calls Try.prog 4 #[.slice A0 l0.length c0] w fun e w' => e = .returned (.bool true) ∧ Below w.heap.size w w' := by
  have HS := Aside0.mk (Own.Sl.mk hr0 hc0)
  clear hr0 hc0
  by_cases hlen : l0.length ≤ 5000
  · have g1 : ¬ ((5000 : Int) < (l0.length : Int)) := by omega
    have HL := Aside0.mk hlen
    clear hlen
    go_enter Try.func4, Try.ntmps4
    go_wp2_with fail
    refine (Nice.nOpen _ l0 w HS.out (by have := HL.out; omega)).mono ?_
    rintro e w1 ⟨x, rfl, hx, hb1⟩
    have HX := Aside0.mk hx
    have HB := Aside0.mk hb1
    have HS1 := Aside0.mk (HS.out.below hb1)
    clear hx hb1 HS
    go_wp2_with fail
    refine (Nice.nRefOpen _ l0 w1 HS1.out (by have := HL.out; omega)).mono ?_
    rintro e w2 ⟨y, rfl, hy, hb2⟩
    have HX2 := Aside0.mk (HX.out.below hb2)
    have HY := Aside0.mk hy
    have HB2 := Aside0.mk (below_step HB.out hb2)
    have HS2 := Aside0.mk (HS1.out.below hb2)
    clear hy hb2 HX HB HS1
    go_wp2_with fail
    refine (Nice.nSeal _ l0 w2 HS2.out (by have := HL.out; omega)).mono ?_
    rintro e w3 ⟨z0, rfl, hz, hb3⟩
    have HX3 := Aside0.mk (HX2.out.below hb3)
    have HY3 := Aside0.mk (HY.out.below hb3)
    have HZ := Aside0.mk hz
    have HB3 := Aside0.mk (below_step HB2.out hb3)
    have HS3 := Aside0.mk (HS2.out.below hb3)
    clear hz hb3 HX2 HB2 HS2 HY
    go_wp2_with fail
    refine (Nice.nOpenSeal _ l0 w3 HZ.out (by have := HL.out; omega)).mono ?_
    rintro e w4 ⟨z, rfl, hz, hb4⟩
    have HX := Aside0.mk (HX3.out.below hb4).drew
    have HY := Aside0.mk (HY3.out.below hb4).drew
    have HZ := Aside0.mk hz.drew
    have HB := Aside0.mk (below_drew1 (below_step HB3.out hb4))
    have HS := Aside0.mk (HS3.out.below hb4).drew
    clear hz hb4 HX3 HB3 HS3 HY3
    go_wp2_with fail
    refine start_ (n := 40) (S := fun w' => True) (ds := []) #[false, false, false, false, false, false, false, false, false, false, false, false, false, false, false, false, false, false, false, false, false, false, false, false, false, false, false, false, false, false, false, false, false, false, false, false, false, false, false, false] (by kernel_rfl) rfl rfl trivial (fun hHeld => ?_); refine with_tabW variorumlaw02_Sum32Tells.tab6 variorumlaw02_Sum32Tells.bits6 (fun HT_ HW_ => ?_)
    generalize w4.drew = w5 at HS HX HY HZ HB hHeld ⊢
    refine inv_at [0, 1, 2, 3, 4, 5, 6, 7, 8, 9, 10, 11, 12, 13, 14, 15, 16, 17, 18, 19, 20, 21, 22, 23, 24, 25, 26, 27, 28, 29, 30, 31, 32, 33, 34, 35, 36, 37, 38, 39] (fun a0_ b a w' => ∃ (v36 : Value) (v39 : Value), a = putSel a0_ b [(0, 29, (.slice A0 l0.length c0)), (1, 30, (.int .u32 ((Crc.sum l0).toNat : Int))), (2, 31, (.slice A0 l0.length c0)), (3, 32, (.int .u32 ((Crc.sum l0).toNat : Int))), (4, 33, (.bool true)), (5, 34, (.bool true)), (6, 35, (.slice A0 l0.length c0)), (7, 36, v36), (8, 37, (.string (strOfNums (Nice.sealL l0)))), (9, 38, (.slice A0 l0.length c0)), (10, 39, v39), (11, 40, (.string (strOfNums (Nice.sealL l0)))), (12, 41, (.bool true)), (13, 42, (.bool true)), (14, 43, (.bool true)), (15, 44, x), (16, 45, (.string (strOfNums (Nice.openL l0)))), (17, 46, y), (18, 47, (.string (strOfNums (Nice.openL l0)))), (19, 48, (.bool true)), (20, 49, (.bool true)), (21, 50, (.bool true)), (22, 51, (.bool (Nice.openB l0))), (23, 52, (.bool (Nice.openB l0))), (24, 53, (.bool true)), (25, 54, (.bool true)), (26, 55, (.bool true)), (27, 56, (.bool true)), (28, 57, (.bool true)), (29, 58, (.bool true)), (30, 59, z), (31, 60, (.string (strOfNums l0))), (32, 61, (.slice A0 l0.length c0)), (33, 62, (.string (strOfNums l0))), (34, 63, (.bool true)), (35, 64, (.bool true)), (36, 65, (.bool true)), (37, 66, (.bool true)), (38, 67, (.bool true)), (39, 2, (.bool true))] ∧ (Own.Sl w' (.slice A0 l0.length c0) l0) ∧ (Own.Sl w' x (Nice.openL l0)) ∧ (Own.Sl w' y (Nice.openL l0)) ∧ (Own.Sl w' z l0) ∧ (Below w.heap.size w w') ∧ (b 7 = true → Own.Sl w' v36 (Nice.sealL l0)) ∧ (b 10 = true → Own.Sl w' v39 (Nice.sealL l0))) HT_.out HW_.out (by kernel_rfl) (by kernel_rfl) ?_ ?_ ?_
    · exact ⟨.bool false, .bool false, by simp only [putSel, Bool.false_eq_true, if_false], HS.out, HX.out, HY.out, HZ.out, HB.out, fun h_ => absurd h_ (by decide), fun h_ => absurd h_ (by decide)⟩
    · skip
      clear HB HS HX HY HZ
      refine steps_cons ?_ ?_
      · rintro b a w' ⟨v36, v39, ha, Q_HS, Q_HX, Q_HY, Q_HZ, Q_HB, Q_S36, Q_S39⟩ hb_ hon hoff
        refine ⟨_, rfl, fun K hK => ?_⟩
        have e0 : a.tmps[0]? = some ((.slice A0 l0.length c0)) := by rw [ha]; exact (putSel_off rfl).trans rfl
        replace ha := Aside0.mk ha
        have HS := Aside0.mk Q_HS
        have HX := Aside0.mk Q_HX
        have HY := Aside0.mk Q_HY
        have HZ := Aside0.mk Q_HZ
        have HB := Aside0.mk Q_HB
        refine value_ (w1 := w') (v := (.slice A0 l0.length c0)) (by rfl) rfl ?_ ?_
        · go_simp
          (try simp only [i64_w])
          try rfl
        refine hK.out _ _ ⟨v36, v39, (by rw [ha.out]; exact putSel_upk 0 hb_ rfl rfl rfl), Q_HS, Q_HX, Q_HY, Q_HZ, Q_HB, fun h0_ => absurd ((hoff 7 (by kernel_rfl)).symm.trans h0_) (by decide), fun h0_ => absurd ((hoff 10 (by kernel_rfl)).symm.trans h0_) (by decide)⟩
      refine steps_cons ?_ ?_
      · rintro b a w' ⟨v36, v39, ha, Q_HS, Q_HX, Q_HY, Q_HZ, Q_HB, Q_S36, Q_S39⟩ hb_ hon hoff
        refine ⟨_, rfl, fun K hK => ?_⟩
        have e29 : a.tmps[29]? = some ((.slice A0 l0.length c0)) := by rw [ha]; exact putSel_on (e := (0, 29, (.slice A0 l0.length c0))) 0 rfl rfl (hon 0 (by kernel_rfl)) rfl
        replace ha := Aside0.mk ha
        have HS := Aside0.mk Q_HS
        have HX := Aside0.mk Q_HX
        have HY := Aside0.mk Q_HY
        have HZ := Aside0.mk Q_HZ
        have HB := Aside0.mk Q_HB
        refine goes_ Try.func14 (by kernel_rfl) rfl #[.slice A0 l0.length c0] (by rfl) rfl rfl (by first | (simp only [List.map_toArray, List.map_cons, List.map_nil, Act.eval, Array.getD_eq_getD_getElem?, Option.getD_some, e29]; done) | (simp only [List.map_toArray, List.map_cons, List.map_nil, Act.eval, Array.getD_eq_getD_getElem?, Option.getD_some, e29]; rfl)) ?_
        refine (Nice.nSum _ l0 _ HS.out (by have := HL.out; omega)).mono ?_
        rintro e w1_ ⟨rfl, hb⟩
        refine ⟨_, rfl, ?_⟩
        refine hK.out _ _ ⟨v36, v39, (by rw [ha.out]; exact putSel_upk 1 hb_ rfl rfl rfl), HS.out.below hb, HX.out.below hb, HY.out.below hb, HZ.out.below hb, below_step HB.out hb, fun h0_ => absurd ((hoff 7 (by kernel_rfl)).symm.trans h0_) (by decide), fun h0_ => absurd ((hoff 10 (by kernel_rfl)).symm.trans h0_) (by decide)⟩
      refine steps_cons ?_ ?_
      · rintro b a w' ⟨v36, v39, ha, Q_HS, Q_HX, Q_HY, Q_HZ, Q_HB, Q_S36, Q_S39⟩ hb_ hon hoff
        refine ⟨_, rfl, fun K hK => ?_⟩
        have e0 : a.tmps[0]? = some ((.slice A0 l0.length c0)) := by rw [ha]; exact (putSel_off rfl).trans rfl
        replace ha := Aside0.mk ha
        have HS := Aside0.mk Q_HS
        have HX := Aside0.mk Q_HX
        have HY := Aside0.mk Q_HY
        have HZ := Aside0.mk Q_HZ
        have HB := Aside0.mk Q_HB
        refine value_ (w1 := w') (v := (.slice A0 l0.length c0)) (by rfl) rfl ?_ ?_
        · go_simp
          (try simp only [i64_w])
          try rfl
        refine hK.out _ _ ⟨v36, v39, (by rw [ha.out]; exact putSel_upk 2 hb_ rfl rfl rfl), Q_HS, Q_HX, Q_HY, Q_HZ, Q_HB, fun h0_ => absurd ((hoff 7 (by kernel_rfl)).symm.trans h0_) (by decide), fun h0_ => absurd ((hoff 10 (by kernel_rfl)).symm.trans h0_) (by decide)⟩
      refine steps_cons ?_ ?_
      · rintro b a w' ⟨v36, v39, ha, Q_HS, Q_HX, Q_HY, Q_HZ, Q_HB, Q_S36, Q_S39⟩ hb_ hon hoff
        refine ⟨_, rfl, fun K hK => ?_⟩
        have e31 : a.tmps[31]? = some ((.slice A0 l0.length c0)) := by rw [ha]; exact putSel_on (e := (2, 31, (.slice A0 l0.length c0))) 2 rfl rfl (hon 2 (by kernel_rfl)) rfl
        replace ha := Aside0.mk ha
        have HS := Aside0.mk Q_HS
        have HX := Aside0.mk Q_HX
        have HY := Aside0.mk Q_HY
        have HZ := Aside0.mk Q_HZ
        have HB := Aside0.mk Q_HB
        refine goes_ Try.func18 (by kernel_rfl) rfl #[.slice A0 l0.length c0] (by rfl) rfl rfl (by first | (simp only [List.map_toArray, List.map_cons, List.map_nil, Act.eval, Array.getD_eq_getD_getElem?, Option.getD_some, e31]; done) | (simp only [List.map_toArray, List.map_cons, List.map_nil, Act.eval, Array.getD_eq_getD_getElem?, Option.getD_some, e31]; rfl)) ?_
        refine (Nice.nRefSum _ l0 _ HS.out (by have := HL.out; omega)).mono ?_
        rintro e w1_ ⟨rfl, hb⟩
        refine ⟨_, rfl, ?_⟩
        refine hK.out _ _ ⟨v36, v39, (by rw [ha.out]; exact putSel_upk 3 hb_ rfl rfl rfl), HS.out.below hb, HX.out.below hb, HY.out.below hb, HZ.out.below hb, below_step HB.out hb, fun h0_ => absurd ((hoff 7 (by kernel_rfl)).symm.trans h0_) (by decide), fun h0_ => absurd ((hoff 10 (by kernel_rfl)).symm.trans h0_) (by decide)⟩
      refine steps_cons ?_ ?_
      · rintro b a w' ⟨v36, v39, ha, Q_HS, Q_HX, Q_HY, Q_HZ, Q_HB, Q_S36, Q_S39⟩ hb_ hon hoff
        refine ⟨_, rfl, fun K hK => ?_⟩
        have e30 : a.tmps[30]? = some ((.int .u32 ((Crc.sum l0).toNat : Int))) := by rw [ha]; exact putSel_on (e := (1, 30, (.int .u32 ((Crc.sum l0).toNat : Int)))) 1 rfl rfl (hon 1 (by kernel_rfl)) rfl
        have e32 : a.tmps[32]? = some ((.int .u32 ((Crc.sum l0).toNat : Int))) := by rw [ha]; exact putSel_on (e := (3, 32, (.int .u32 ((Crc.sum l0).toNat : Int)))) 3 rfl rfl (hon 3 (by kernel_rfl)) rfl
        replace ha := Aside0.mk ha
        have HS := Aside0.mk Q_HS
        have HX := Aside0.mk Q_HX
        have HY := Aside0.mk Q_HY
        have HZ := Aside0.mk Q_HZ
        have HB := Aside0.mk Q_HB
        refine value_ (w1 := w') (v := (.bool true)) (by rfl) rfl ?_ ?_
        · go_simp
          (try simp only [i64_w])
          try rfl
        refine hK.out _ _ ⟨v36, v39, (by rw [ha.out]; exact putSel_upk 4 hb_ rfl rfl rfl), Q_HS, Q_HX, Q_HY, Q_HZ, Q_HB, fun h0_ => absurd ((hoff 7 (by kernel_rfl)).symm.trans h0_) (by decide), fun h0_ => absurd ((hoff 10 (by kernel_rfl)).symm.trans h0_) (by decide)⟩
      refine steps_cons ?_ ?_
      · rintro b a w' ⟨v36, v39, ha, Q_HS, Q_HX, Q_HY, Q_HZ, Q_HB, Q_S36, Q_S39⟩ hb_ hon hoff
        refine ⟨_, rfl, fun K hK => ?_⟩
        have e33 : a.tmps[33]? = some ((.bool true)) := by rw [ha]; exact putSel_on (e := (4, 33, (.bool true))) 4 rfl rfl (hon 4 (by kernel_rfl)) rfl
        replace ha := Aside0.mk ha
        have HS := Aside0.mk Q_HS
        have HX := Aside0.mk Q_HX
        have HY := Aside0.mk Q_HY
        have HZ := Aside0.mk Q_HZ
        have HB := Aside0.mk Q_HB
        refine value_ (w1 := w') (v := (.bool true)) (by rfl) rfl ?_ ?_
        · go_simp
          (try simp only [i64_w])
          try rfl
        refine hK.out _ _ ⟨v36, v39, (by rw [ha.out]; exact putSel_upk 5 hb_ rfl rfl rfl), Q_HS, Q_HX, Q_HY, Q_HZ, Q_HB, fun h0_ => absurd ((hoff 7 (by kernel_rfl)).symm.trans h0_) (by decide), fun h0_ => absurd ((hoff 10 (by kernel_rfl)).symm.trans h0_) (by decide)⟩
      refine steps_cons ?_ ?_
      · rintro b a w' ⟨v36, v39, ha, Q_HS, Q_HX, Q_HY, Q_HZ, Q_HB, Q_S36, Q_S39⟩ hb_ hon hoff
        refine ⟨_, rfl, fun K hK => ?_⟩
        have e0 : a.tmps[0]? = some ((.slice A0 l0.length c0)) := by rw [ha]; exact (putSel_off rfl).trans rfl
        have e34 : a.tmps[34]? = some ((.bool true)) := by rw [ha]; exact putSel_on (e := (5, 34, (.bool true))) 5 rfl rfl (hon 5 (by kernel_rfl)) rfl
        replace ha := Aside0.mk ha
        have HS := Aside0.mk Q_HS
        have HX := Aside0.mk Q_HX
        have HY := Aside0.mk Q_HY
        have HZ := Aside0.mk Q_HZ
        have HB := Aside0.mk Q_HB
        refine value_ (w1 := w') (v := (.slice A0 l0.length c0)) (wanted_on rfl rfl rfl (e34.trans (by first | rfl | (simp [*]; done)))) rfl ?_ ?_
        · go_simp
          (try simp only [i64_w])
          try rfl
        refine hK.out _ _ ⟨v36, v39, (by rw [ha.out]; exact putSel_upk 6 hb_ rfl rfl rfl), Q_HS, Q_HX, Q_HY, Q_HZ, Q_HB, fun h0_ => absurd ((hoff 7 (by kernel_rfl)).symm.trans h0_) (by decide), fun h0_ => absurd ((hoff 10 (by kernel_rfl)).symm.trans h0_) (by decide)⟩
      refine steps_cons ?_ ?_
      · rintro b a w' ⟨v36, v39, ha, Q_HS, Q_HX, Q_HY, Q_HZ, Q_HB, Q_S36, Q_S39⟩ hb_ hon hoff
        refine ⟨_, rfl, fun K hK => ?_⟩
        have e35 : a.tmps[35]? = some ((.slice A0 l0.length c0)) := by rw [ha]; exact putSel_on (e := (6, 35, (.slice A0 l0.length c0))) 6 rfl rfl (hon 6 (by kernel_rfl)) rfl
        have e34 : a.tmps[34]? = some ((.bool true)) := by rw [ha]; exact putSel_on (e := (5, 34, (.bool true))) 5 rfl rfl (hon 5 (by kernel_rfl)) rfl
        replace ha := Aside0.mk ha
        have HS := Aside0.mk Q_HS
        have HX := Aside0.mk Q_HX
        have HY := Aside0.mk Q_HY
        have HZ := Aside0.mk Q_HZ
        have HB := Aside0.mk Q_HB
        refine goes_ Try.func17 (by kernel_rfl) rfl #[.slice A0 l0.length c0] (wanted_on rfl rfl rfl (e34.trans (by first | rfl | (simp [*]; done)))) rfl rfl (by first | (simp only [List.map_toArray, List.map_cons, List.map_nil, Act.eval, Array.getD_eq_getD_getElem?, Option.getD_some, e35, e34]; done) | (simp only [List.map_toArray, List.map_cons, List.map_nil, Act.eval, Array.getD_eq_getD_getElem?, Option.getD_some, e35, e34]; rfl)) ?_
        refine (Nice.nSeal _ l0 _ HS.out (by have := HL.out; omega)).mono ?_
        rintro e w1_ ⟨v36, rfl, hs, hb⟩
        refine ⟨_, rfl, ?_⟩
        refine hK.out _ _ ⟨v36, v39, (by rw [ha.out]; exact putSel_upk 7 hb_ rfl rfl rfl), HS.out.below hb, HX.out.below hb, HY.out.below hb, HZ.out.below hb, below_step HB.out hb, fun _ => hs, fun h0_ => absurd ((hoff 10 (by kernel_rfl)).symm.trans h0_) (by decide)⟩
      refine steps_cons ?_ ?_
      · rintro b a w' ⟨v36, v39, ha, Q_HS, Q_HX, Q_HY, Q_HZ, Q_HB, Q_S36, Q_S39⟩ hb_ hon hoff
        refine ⟨_, rfl, fun K hK => ?_⟩
        have e36 : a.tmps[36]? = some (v36) := by rw [ha]; exact putSel_on (e := (7, 36, v36)) 7 rfl rfl (hon 7 (by kernel_rfl)) rfl
        have e34 : a.tmps[34]? = some ((.bool true)) := by rw [ha]; exact putSel_on (e := (5, 34, (.bool true))) 5 rfl rfl (hon 5 (by kernel_rfl)) rfl
        replace ha := Aside0.mk ha
        have HS := Aside0.mk Q_HS
        have HX := Aside0.mk Q_HX
        have HY := Aside0.mk Q_HY
        have HZ := Aside0.mk Q_HZ
        have HB := Aside0.mk Q_HB
        have S36 := Aside0.mk (Q_S36 (hon 7 (by kernel_rfl)))
        have hc_ := Own.Sl.string (P := Try.prog) Try.underlying22 Try.underlying5 Try.underlying9 S36.out
        refine value_ (w1 := w') (v := (.string (strOfNums (Nice.sealL l0)))) (wanted_on rfl rfl rfl (e34.trans (by first | rfl | (simp [*]; done)))) rfl ?_ ?_
        · go_simp
          (try simp only [i64_w])
          try rfl
        refine hK.out _ _ ⟨v36, v39, (by rw [ha.out]; exact putSel_upk 8 hb_ rfl rfl rfl), Q_HS, Q_HX, Q_HY, Q_HZ, Q_HB, Q_S36, Q_S39⟩
      refine steps_cons ?_ ?_
      · rintro b a w' ⟨v36, v39, ha, Q_HS, Q_HX, Q_HY, Q_HZ, Q_HB, Q_S36, Q_S39⟩ hb_ hon hoff
        refine ⟨_, rfl, fun K hK => ?_⟩
        have e0 : a.tmps[0]? = some ((.slice A0 l0.length c0)) := by rw [ha]; exact (putSel_off rfl).trans rfl
        have e34 : a.tmps[34]? = some ((.bool true)) := by rw [ha]; exact putSel_on (e := (5, 34, (.bool true))) 5 rfl rfl (hon 5 (by kernel_rfl)) rfl
        replace ha := Aside0.mk ha
        have HS := Aside0.mk Q_HS
        have HX := Aside0.mk Q_HX
        have HY := Aside0.mk Q_HY
        have HZ := Aside0.mk Q_HZ
        have HB := Aside0.mk Q_HB
        refine value_ (w1 := w') (v := (.slice A0 l0.length c0)) (wanted_on rfl rfl rfl (e34.trans (by first | rfl | (simp [*]; done)))) rfl ?_ ?_
        · go_simp
          (try simp only [i64_w])
          try rfl
        refine hK.out _ _ ⟨v36, v39, (by rw [ha.out]; exact putSel_upk 9 hb_ rfl rfl rfl), Q_HS, Q_HX, Q_HY, Q_HZ, Q_HB, Q_S36, fun h0_ => absurd ((hoff 10 (by kernel_rfl)).symm.trans h0_) (by decide)⟩
      refine steps_cons ?_ ?_
      · rintro b a w' ⟨v36, v39, ha, Q_HS, Q_HX, Q_HY, Q_HZ, Q_HB, Q_S36, Q_S39⟩ hb_ hon hoff
        refine ⟨_, rfl, fun K hK => ?_⟩
        have e38 : a.tmps[38]? = some ((.slice A0 l0.length c0)) := by rw [ha]; exact putSel_on (e := (9, 38, (.slice A0 l0.length c0))) 9 rfl rfl (hon 9 (by kernel_rfl)) rfl
        have e34 : a.tmps[34]? = some ((.bool true)) := by rw [ha]; exact putSel_on (e := (5, 34, (.bool true))) 5 rfl rfl (hon 5 (by kernel_rfl)) rfl
        replace ha := Aside0.mk ha
        have HS := Aside0.mk Q_HS
        have HX := Aside0.mk Q_HX
        have HY := Aside0.mk Q_HY
        have HZ := Aside0.mk Q_HZ
        have HB := Aside0.mk Q_HB
        have S36 := Aside0.mk (Q_S36 (hon 7 (by kernel_rfl)))
        refine goes_ Try.func19 (by kernel_rfl) rfl #[.slice A0 l0.length c0] (wanted_on rfl rfl rfl (e34.trans (by first | rfl | (simp [*]; done)))) rfl rfl (by first | (simp only [List.map_toArray, List.map_cons, List.map_nil, Act.eval, Array.getD_eq_getD_getElem?, Option.getD_some, e38, e34]; done) | (simp only [List.map_toArray, List.map_cons, List.map_nil, Act.eval, Array.getD_eq_getD_getElem?, Option.getD_some, e38, e34]; rfl)) ?_
        refine (Nice.nRefSeal _ l0 _ HS.out (by have := HL.out; omega)).mono ?_
        rintro e w1_ ⟨v39, rfl, hs, hb⟩
        refine ⟨_, rfl, ?_⟩
        refine hK.out _ _ ⟨v36, v39, (by rw [ha.out]; exact putSel_upk 10 hb_ rfl rfl rfl), HS.out.below hb, HX.out.below hb, HY.out.below hb, HZ.out.below hb, below_step HB.out hb, fun _ => S36.out.below hb, fun _ => hs⟩
      refine steps_cons ?_ ?_
      · rintro b a w' ⟨v36, v39, ha, Q_HS, Q_HX, Q_HY, Q_HZ, Q_HB, Q_S36, Q_S39⟩ hb_ hon hoff
        refine ⟨_, rfl, fun K hK => ?_⟩
        have e39 : a.tmps[39]? = some (v39) := by rw [ha]; exact putSel_on (e := (10, 39, v39)) 10 rfl rfl (hon 10 (by kernel_rfl)) rfl
        have e34 : a.tmps[34]? = some ((.bool true)) := by rw [ha]; exact putSel_on (e := (5, 34, (.bool true))) 5 rfl rfl (hon 5 (by kernel_rfl)) rfl
        replace ha := Aside0.mk ha
        have HS := Aside0.mk Q_HS
        have HX := Aside0.mk Q_HX
        have HY := Aside0.mk Q_HY
        have HZ := Aside0.mk Q_HZ
        have HB := Aside0.mk Q_HB
        have S36 := Aside0.mk (Q_S36 (hon 7 (by kernel_rfl)))
        have S39 := Aside0.mk (Q_S39 (hon 10 (by kernel_rfl)))
        have hc_ := Own.Sl.string (P := Try.prog) Try.underlying22 Try.underlying5 Try.underlying9 S39.out
        refine value_ (w1 := w') (v := (.string (strOfNums (Nice.sealL l0)))) (wanted_on rfl rfl rfl (e34.trans (by first | rfl | (simp [*]; done)))) rfl ?_ ?_
        · go_simp
          (try simp only [i64_w])
          try rfl
        refine hK.out _ _ ⟨v36, v39, (by rw [ha.out]; exact putSel_upk 11 hb_ rfl rfl rfl), Q_HS, Q_HX, Q_HY, Q_HZ, Q_HB, Q_S36, Q_S39⟩
      refine steps_cons ?_ ?_
      · rintro b a w' ⟨v36, v39, ha, Q_HS, Q_HX, Q_HY, Q_HZ, Q_HB, Q_S36, Q_S39⟩ hb_ hon hoff
        refine ⟨_, rfl, fun K hK => ?_⟩
        have e37 : a.tmps[37]? = some ((.string (strOfNums (Nice.sealL l0)))) := by rw [ha]; exact putSel_on (e := (8, 37, (.string (strOfNums (Nice.sealL l0))))) 8 rfl rfl (hon 8 (by kernel_rfl)) rfl
        have e40 : a.tmps[40]? = some ((.string (strOfNums (Nice.sealL l0)))) := by rw [ha]; exact putSel_on (e := (11, 40, (.string (strOfNums (Nice.sealL l0))))) 11 rfl rfl (hon 11 (by kernel_rfl)) rfl
        have e34 : a.tmps[34]? = some ((.bool true)) := by rw [ha]; exact putSel_on (e := (5, 34, (.bool true))) 5 rfl rfl (hon 5 (by kernel_rfl)) rfl
        replace ha := Aside0.mk ha
        have HS := Aside0.mk Q_HS
        have HX := Aside0.mk Q_HX
        have HY := Aside0.mk Q_HY
        have HZ := Aside0.mk Q_HZ
        have HB := Aside0.mk Q_HB
        have S36 := Aside0.mk (Q_S36 (hon 7 (by kernel_rfl)))
        have S39 := Aside0.mk (Q_S39 (hon 10 (by kernel_rfl)))
        refine value_ (w1 := w') (v := (.bool true)) (wanted_on rfl rfl rfl (e34.trans (by first | rfl | (simp [*]; done)))) rfl ?_ ?_
        · go_simp
          (try simp only [i64_w])
          try rfl
        refine hK.out _ _ ⟨v36, v39, (by rw [ha.out]; exact putSel_upk 12 hb_ rfl rfl rfl), Q_HS, Q_HX, Q_HY, Q_HZ, Q_HB, Q_S36, Q_S39⟩
      refine steps_cons ?_ ?_
      · rintro b a w' ⟨v36, v39, ha, Q_HS, Q_HX, Q_HY, Q_HZ, Q_HB, Q_S36, Q_S39⟩ hb_ hon hoff
        refine ⟨_, rfl, fun K hK => ?_⟩
        have e34 : a.tmps[34]? = some ((.bool true)) := by rw [ha]; exact putSel_on (e := (5, 34, (.bool true))) 5 rfl rfl (hon 5 (by kernel_rfl)) rfl
        have e41 : a.tmps[41]? = some ((.bool true)) := by rw [ha]; exact putSel_on (e := (12, 41, (.bool true))) 12 rfl rfl (hon 12 (by kernel_rfl)) rfl
        replace ha := Aside0.mk ha
        have HS := Aside0.mk Q_HS
        have HX := Aside0.mk Q_HX
        have HY := Aside0.mk Q_HY
        have HZ := Aside0.mk Q_HZ
        have HB := Aside0.mk Q_HB
        have S36 := Aside0.mk (Q_S36 (hon 7 (by kernel_rfl)))
        have S39 := Aside0.mk (Q_S39 (hon 10 (by kernel_rfl)))
        refine value_ (w1 := w') (v := (.bool true)) (by rfl) rfl ?_ ?_
        · go_simp
          (try simp only [i64_w])
          try rfl
        refine hK.out _ _ ⟨v36, v39, (by rw [ha.out]; exact putSel_upk 13 hb_ rfl rfl rfl), Q_HS, Q_HX, Q_HY, Q_HZ, Q_HB, Q_S36, Q_S39⟩
      refine steps_cons ?_ ?_
      · rintro b a w' ⟨v36, v39, ha, Q_HS, Q_HX, Q_HY, Q_HZ, Q_HB, Q_S36, Q_S39⟩ hb_ hon hoff
        refine ⟨_, rfl, fun K hK => ?_⟩
        have e42 : a.tmps[42]? = some ((.bool true)) := by rw [ha]; exact putSel_on (e := (13, 42, (.bool true))) 13 rfl rfl (hon 13 (by kernel_rfl)) rfl
        replace ha := Aside0.mk ha
        have HS := Aside0.mk Q_HS
        have HX := Aside0.mk Q_HX
        have HY := Aside0.mk Q_HY
        have HZ := Aside0.mk Q_HZ
        have HB := Aside0.mk Q_HB
        have S36 := Aside0.mk (Q_S36 (hon 7 (by kernel_rfl)))
        have S39 := Aside0.mk (Q_S39 (hon 10 (by kernel_rfl)))
        refine value_ (w1 := w') (v := (.bool true)) (by rfl) rfl ?_ ?_
        · go_simp
          (try simp only [i64_w])
          try rfl
        refine hK.out _ _ ⟨v36, v39, (by rw [ha.out]; exact putSel_upk 14 hb_ rfl rfl rfl), Q_HS, Q_HX, Q_HY, Q_HZ, Q_HB, Q_S36, Q_S39⟩
      refine steps_cons ?_ ?_
      · rintro b a w' ⟨v36, v39, ha, Q_HS, Q_HX, Q_HY, Q_HZ, Q_HB, Q_S36, Q_S39⟩ hb_ hon hoff
        refine ⟨_, rfl, fun K hK => ?_⟩
        have e3 : a.tmps[3]? = some (x) := by rw [ha]; exact (putSel_off rfl).trans rfl
        have e43 : a.tmps[43]? = some ((.bool true)) := by rw [ha]; exact putSel_on (e := (14, 43, (.bool true))) 14 rfl rfl (hon 14 (by kernel_rfl)) rfl
        replace ha := Aside0.mk ha
        have HS := Aside0.mk Q_HS
        have HX := Aside0.mk Q_HX
        have HY := Aside0.mk Q_HY
        have HZ := Aside0.mk Q_HZ
        have HB := Aside0.mk Q_HB
        have S36 := Aside0.mk (Q_S36 (hon 7 (by kernel_rfl)))
        have S39 := Aside0.mk (Q_S39 (hon 10 (by kernel_rfl)))
        refine value_ (w1 := w') (v := x) (wanted_on rfl rfl rfl (e43.trans (by first | rfl | (simp [*]; done)))) rfl ?_ ?_
        · go_simp
          (try simp only [i64_w])
          try rfl
        refine hK.out _ _ ⟨v36, v39, (by rw [ha.out]; exact putSel_upk 15 hb_ rfl rfl rfl), Q_HS, Q_HX, Q_HY, Q_HZ, Q_HB, Q_S36, Q_S39⟩
      refine steps_cons ?_ ?_
      · rintro b a w' ⟨v36, v39, ha, Q_HS, Q_HX, Q_HY, Q_HZ, Q_HB, Q_S36, Q_S39⟩ hb_ hon hoff
        refine ⟨_, rfl, fun K hK => ?_⟩
        have e44 : a.tmps[44]? = some (x) := by rw [ha]; exact putSel_on (e := (15, 44, x)) 15 rfl rfl (hon 15 (by kernel_rfl)) rfl
        have e43 : a.tmps[43]? = some ((.bool true)) := by rw [ha]; exact putSel_on (e := (14, 43, (.bool true))) 14 rfl rfl (hon 14 (by kernel_rfl)) rfl
        replace ha := Aside0.mk ha
        have HS := Aside0.mk Q_HS
        have HX := Aside0.mk Q_HX
        have HY := Aside0.mk Q_HY
        have HZ := Aside0.mk Q_HZ
        have HB := Aside0.mk Q_HB
        have S36 := Aside0.mk (Q_S36 (hon 7 (by kernel_rfl)))
        have S39 := Aside0.mk (Q_S39 (hon 10 (by kernel_rfl)))
        have hc_ := Own.Sl.string (P := Try.prog) Try.underlying22 Try.underlying5 Try.underlying9 HX.out
        refine value_ (w1 := w') (v := (.string (strOfNums (Nice.openL l0)))) (wanted_on rfl rfl rfl (e43.trans (by first | rfl | (simp [*]; done)))) rfl ?_ ?_
        · go_simp
          (try simp only [i64_w])
          try rfl
        refine hK.out _ _ ⟨v36, v39, (by rw [ha.out]; exact putSel_upk 16 hb_ rfl rfl rfl), Q_HS, Q_HX, Q_HY, Q_HZ, Q_HB, Q_S36, Q_S39⟩
      refine steps_cons ?_ ?_
      · rintro b a w' ⟨v36, v39, ha, Q_HS, Q_HX, Q_HY, Q_HZ, Q_HB, Q_S36, Q_S39⟩ hb_ hon hoff
        refine ⟨_, rfl, fun K hK => ?_⟩
        have e5 : a.tmps[5]? = some (y) := by rw [ha]; exact (putSel_off rfl).trans rfl
        have e43 : a.tmps[43]? = some ((.bool true)) := by rw [ha]; exact putSel_on (e := (14, 43, (.bool true))) 14 rfl rfl (hon 14 (by kernel_rfl)) rfl
        replace ha := Aside0.mk ha
        have HS := Aside0.mk Q_HS
        have HX := Aside0.mk Q_HX
        have HY := Aside0.mk Q_HY
        have HZ := Aside0.mk Q_HZ
        have HB := Aside0.mk Q_HB
        have S36 := Aside0.mk (Q_S36 (hon 7 (by kernel_rfl)))
        have S39 := Aside0.mk (Q_S39 (hon 10 (by kernel_rfl)))
        refine value_ (w1 := w') (v := y) (wanted_on rfl rfl rfl (e43.trans (by first | rfl | (simp [*]; done)))) rfl ?_ ?_
        · go_simp
          (try simp only [i64_w])
          try rfl
        refine hK.out _ _ ⟨v36, v39, (by rw [ha.out]; exact putSel_upk 17 hb_ rfl rfl rfl), Q_HS, Q_HX, Q_HY, Q_HZ, Q_HB, Q_S36, Q_S39⟩
      refine steps_cons ?_ ?_
      · rintro b a w' ⟨v36, v39, ha, Q_HS, Q_HX, Q_HY, Q_HZ, Q_HB, Q_S36, Q_S39⟩ hb_ hon hoff
        refine ⟨_, rfl, fun K hK => ?_⟩
        have e46 : a.tmps[46]? = some (y) := by rw [ha]; exact putSel_on (e := (17, 46, y)) 17 rfl rfl (hon 17 (by kernel_rfl)) rfl
        have e43 : a.tmps[43]? = some ((.bool true)) := by rw [ha]; exact putSel_on (e := (14, 43, (.bool true))) 14 rfl rfl (hon 14 (by kernel_rfl)) rfl
        replace ha := Aside0.mk ha
        have HS := Aside0.mk Q_HS
        have HX := Aside0.mk Q_HX
        have HY := Aside0.mk Q_HY
        have HZ := Aside0.mk Q_HZ
        have HB := Aside0.mk Q_HB
        have S36 := Aside0.mk (Q_S36 (hon 7 (by kernel_rfl)))
        have S39 := Aside0.mk (Q_S39 (hon 10 (by kernel_rfl)))
        have hc_ := Own.Sl.string (P := Try.prog) Try.underlying22 Try.underlying5 Try.underlying9 HY.out
        refine value_ (w1 := w') (v := (.string (strOfNums (Nice.openL l0)))) (wanted_on rfl rfl rfl (e43.trans (by first | rfl | (simp [*]; done)))) rfl ?_ ?_
        · go_simp
          (try simp only [i64_w])
          try rfl
        refine hK.out _ _ ⟨v36, v39, (by rw [ha.out]; exact putSel_upk 18 hb_ rfl rfl rfl), Q_HS, Q_HX, Q_HY, Q_HZ, Q_HB, Q_S36, Q_S39⟩
      refine steps_cons ?_ ?_
      · rintro b a w' ⟨v36, v39, ha, Q_HS, Q_HX, Q_HY, Q_HZ, Q_HB, Q_S36, Q_S39⟩ hb_ hon hoff
        refine ⟨_, rfl, fun K hK => ?_⟩
        have e45 : a.tmps[45]? = some ((.string (strOfNums (Nice.openL l0)))) := by rw [ha]; exact putSel_on (e := (16, 45, (.string (strOfNums (Nice.openL l0))))) 16 rfl rfl (hon 16 (by kernel_rfl)) rfl
        have e47 : a.tmps[47]? = some ((.string (strOfNums (Nice.openL l0)))) := by rw [ha]; exact putSel_on (e := (18, 47, (.string (strOfNums (Nice.openL l0))))) 18 rfl rfl (hon 18 (by kernel_rfl)) rfl
        have e43 : a.tmps[43]? = some ((.bool true)) := by rw [ha]; exact putSel_on (e := (14, 43, (.bool true))) 14 rfl rfl (hon 14 (by kernel_rfl)) rfl
        replace ha := Aside0.mk ha
        have HS := Aside0.mk Q_HS
        have HX := Aside0.mk Q_HX
        have HY := Aside0.mk Q_HY
        have HZ := Aside0.mk Q_HZ
        have HB := Aside0.mk Q_HB
        have S36 := Aside0.mk (Q_S36 (hon 7 (by kernel_rfl)))
        have S39 := Aside0.mk (Q_S39 (hon 10 (by kernel_rfl)))
        refine value_ (w1 := w') (v := (.bool true)) (wanted_on rfl rfl rfl (e43.trans (by first | rfl | (simp [*]; done)))) rfl ?_ ?_
        · go_simp
          (try simp only [i64_w])
          try rfl
        refine hK.out _ _ ⟨v36, v39, (by rw [ha.out]; exact putSel_upk 19 hb_ rfl rfl rfl), Q_HS, Q_HX, Q_HY, Q_HZ, Q_HB, Q_S36, Q_S39⟩
      refine steps_cons ?_ ?_
      · rintro b a w' ⟨v36, v39, ha, Q_HS, Q_HX, Q_HY, Q_HZ, Q_HB, Q_S36, Q_S39⟩ hb_ hon hoff
        refine ⟨_, rfl, fun K hK => ?_⟩
        have e43 : a.tmps[43]? = some ((.bool true)) := by rw [ha]; exact putSel_on (e := (14, 43, (.bool true))) 14 rfl rfl (hon 14 (by kernel_rfl)) rfl
        have e48 : a.tmps[48]? = some ((.bool true)) := by rw [ha]; exact putSel_on (e := (19, 48, (.bool true))) 19 rfl rfl (hon 19 (by kernel_rfl)) rfl
        replace ha := Aside0.mk ha
        have HS := Aside0.mk Q_HS
        have HX := Aside0.mk Q_HX
        have HY := Aside0.mk Q_HY
        have HZ := Aside0.mk Q_HZ
        have HB := Aside0.mk Q_HB
        have S36 := Aside0.mk (Q_S36 (hon 7 (by kernel_rfl)))
        have S39 := Aside0.mk (Q_S39 (hon 10 (by kernel_rfl)))
        refine value_ (w1 := w') (v := (.bool true)) (by rfl) rfl ?_ ?_
        · go_simp
          (try simp only [i64_w])
          try rfl
        refine hK.out _ _ ⟨v36, v39, (by rw [ha.out]; exact putSel_upk 20 hb_ rfl rfl rfl), Q_HS, Q_HX, Q_HY, Q_HZ, Q_HB, Q_S36, Q_S39⟩
      refine steps_cons ?_ ?_
      · rintro b a w' ⟨v36, v39, ha, Q_HS, Q_HX, Q_HY, Q_HZ, Q_HB, Q_S36, Q_S39⟩ hb_ hon hoff
        refine ⟨_, rfl, fun K hK => ?_⟩
        have e49 : a.tmps[49]? = some ((.bool true)) := by rw [ha]; exact putSel_on (e := (20, 49, (.bool true))) 20 rfl rfl (hon 20 (by kernel_rfl)) rfl
        replace ha := Aside0.mk ha
        have HS := Aside0.mk Q_HS
        have HX := Aside0.mk Q_HX
        have HY := Aside0.mk Q_HY
        have HZ := Aside0.mk Q_HZ
        have HB := Aside0.mk Q_HB
        have S36 := Aside0.mk (Q_S36 (hon 7 (by kernel_rfl)))
        have S39 := Aside0.mk (Q_S39 (hon 10 (by kernel_rfl)))
        refine value_ (w1 := w') (v := (.bool true)) (by rfl) rfl ?_ ?_
        · go_simp
          (try simp only [i64_w])
          try rfl
        refine hK.out _ _ ⟨v36, v39, (by rw [ha.out]; exact putSel_upk 21 hb_ rfl rfl rfl), Q_HS, Q_HX, Q_HY, Q_HZ, Q_HB, Q_S36, Q_S39⟩
      refine steps_cons ?_ ?_
      · rintro b a w' ⟨v36, v39, ha, Q_HS, Q_HX, Q_HY, Q_HZ, Q_HB, Q_S36, Q_S39⟩ hb_ hon hoff
        refine ⟨_, rfl, fun K hK => ?_⟩
        have e4 : a.tmps[4]? = some ((.bool (Nice.openB l0))) := by rw [ha]; exact (putSel_off rfl).trans rfl
        have e50 : a.tmps[50]? = some ((.bool true)) := by rw [ha]; exact putSel_on (e := (21, 50, (.bool true))) 21 rfl rfl (hon 21 (by kernel_rfl)) rfl
        replace ha := Aside0.mk ha
        have HS := Aside0.mk Q_HS
        have HX := Aside0.mk Q_HX
        have HY := Aside0.mk Q_HY
        have HZ := Aside0.mk Q_HZ
        have HB := Aside0.mk Q_HB
        have S36 := Aside0.mk (Q_S36 (hon 7 (by kernel_rfl)))
        have S39 := Aside0.mk (Q_S39 (hon 10 (by kernel_rfl)))
        refine value_ (w1 := w') (v := (.bool (Nice.openB l0))) (wanted_on rfl rfl rfl (e50.trans (by first | rfl | (simp [*]; done)))) rfl ?_ ?_
        · go_simp
          (try simp only [i64_w])
          try rfl
        refine hK.out _ _ ⟨v36, v39, (by rw [ha.out]; exact putSel_upk 22 hb_ rfl rfl rfl), Q_HS, Q_HX, Q_HY, Q_HZ, Q_HB, Q_S36, Q_S39⟩
      refine steps_cons ?_ ?_
      · rintro b a w' ⟨v36, v39, ha, Q_HS, Q_HX, Q_HY, Q_HZ, Q_HB, Q_S36, Q_S39⟩ hb_ hon hoff
        refine ⟨_, rfl, fun K hK => ?_⟩
        have e6 : a.tmps[6]? = some ((.bool (Nice.openB l0))) := by rw [ha]; exact (putSel_off rfl).trans rfl
        have e50 : a.tmps[50]? = some ((.bool true)) := by rw [ha]; exact putSel_on (e := (21, 50, (.bool true))) 21 rfl rfl (hon 21 (by kernel_rfl)) rfl
        replace ha := Aside0.mk ha
        have HS := Aside0.mk Q_HS
        have HX := Aside0.mk Q_HX
        have HY := Aside0.mk Q_HY
        have HZ := Aside0.mk Q_HZ
        have HB := Aside0.mk Q_HB
        have S36 := Aside0.mk (Q_S36 (hon 7 (by kernel_rfl)))
        have S39 := Aside0.mk (Q_S39 (hon 10 (by kernel_rfl)))
        refine value_ (w1 := w') (v := (.bool (Nice.openB l0))) (wanted_on rfl rfl rfl (e50.trans (by first | rfl | (simp [*]; done)))) rfl ?_ ?_
        · go_simp
          (try simp only [i64_w])
          try rfl
        refine hK.out _ _ ⟨v36, v39, (by rw [ha.out]; exact putSel_upk 23 hb_ rfl rfl rfl), Q_HS, Q_HX, Q_HY, Q_HZ, Q_HB, Q_S36, Q_S39⟩
      refine steps_cons ?_ ?_
      · rintro b a w' ⟨v36, v39, ha, Q_HS, Q_HX, Q_HY, Q_HZ, Q_HB, Q_S36, Q_S39⟩ hb_ hon hoff
        refine ⟨_, rfl, fun K hK => ?_⟩
        have e51 : a.tmps[51]? = some ((.bool (Nice.openB l0))) := by rw [ha]; exact putSel_on (e := (22, 51, (.bool (Nice.openB l0)))) 22 rfl rfl (hon 22 (by kernel_rfl)) rfl
        have e52 : a.tmps[52]? = some ((.bool (Nice.openB l0))) := by rw [ha]; exact putSel_on (e := (23, 52, (.bool (Nice.openB l0)))) 23 rfl rfl (hon 23 (by kernel_rfl)) rfl
        have e50 : a.tmps[50]? = some ((.bool true)) := by rw [ha]; exact putSel_on (e := (21, 50, (.bool true))) 21 rfl rfl (hon 21 (by kernel_rfl)) rfl
        replace ha := Aside0.mk ha
        have HS := Aside0.mk Q_HS
        have HX := Aside0.mk Q_HX
        have HY := Aside0.mk Q_HY
        have HZ := Aside0.mk Q_HZ
        have HB := Aside0.mk Q_HB
        have S36 := Aside0.mk (Q_S36 (hon 7 (by kernel_rfl)))
        have S39 := Aside0.mk (Q_S39 (hon 10 (by kernel_rfl)))
        refine value_ (w1 := w') (v := (.bool true)) (wanted_on rfl rfl rfl (e50.trans (by first | rfl | (simp [*]; done)))) rfl ?_ ?_
        · go_simp
          (try simp only [i64_w])
          try rfl
        refine hK.out _ _ ⟨v36, v39, (by rw [ha.out]; exact putSel_upk 24 hb_ rfl rfl rfl), Q_HS, Q_HX, Q_HY, Q_HZ, Q_HB, Q_S36, Q_S39⟩
      refine steps_cons ?_ ?_
      · rintro b a w' ⟨v36, v39, ha, Q_HS, Q_HX, Q_HY, Q_HZ, Q_HB, Q_S36, Q_S39⟩ hb_ hon hoff
        refine ⟨_, rfl, fun K hK => ?_⟩
        have e50 : a.tmps[50]? = some ((.bool true)) := by rw [ha]; exact putSel_on (e := (21, 50, (.bool true))) 21 rfl rfl (hon 21 (by kernel_rfl)) rfl
        have e53 : a.tmps[53]? = some ((.bool true)) := by rw [ha]; exact putSel_on (e := (24, 53, (.bool true))) 24 rfl rfl (hon 24 (by kernel_rfl)) rfl
        replace ha := Aside0.mk ha
        have HS := Aside0.mk Q_HS
        have HX := Aside0.mk Q_HX
        have HY := Aside0.mk Q_HY
        have HZ := Aside0.mk Q_HZ
        have HB := Aside0.mk Q_HB
        have S36 := Aside0.mk (Q_S36 (hon 7 (by kernel_rfl)))
        have S39 := Aside0.mk (Q_S39 (hon 10 (by kernel_rfl)))
        refine value_ (w1 := w') (v := (.bool true)) (by rfl) rfl ?_ ?_
        · go_simp
          (try simp only [i64_w])
          try rfl
        refine hK.out _ _ ⟨v36, v39, (by rw [ha.out]; exact putSel_upk 25 hb_ rfl rfl rfl), Q_HS, Q_HX, Q_HY, Q_HZ, Q_HB, Q_S36, Q_S39⟩
      refine steps_cons ?_ ?_
      · rintro b a w' ⟨v36, v39, ha, Q_HS, Q_HX, Q_HY, Q_HZ, Q_HB, Q_S36, Q_S39⟩ hb_ hon hoff
        refine ⟨_, rfl, fun K hK => ?_⟩
        have e54 : a.tmps[54]? = some ((.bool true)) := by rw [ha]; exact putSel_on (e := (25, 54, (.bool true))) 25 rfl rfl (hon 25 (by kernel_rfl)) rfl
        replace ha := Aside0.mk ha
        have HS := Aside0.mk Q_HS
        have HX := Aside0.mk Q_HX
        have HY := Aside0.mk Q_HY
        have HZ := Aside0.mk Q_HZ
        have HB := Aside0.mk Q_HB
        have S36 := Aside0.mk (Q_S36 (hon 7 (by kernel_rfl)))
        have S39 := Aside0.mk (Q_S39 (hon 10 (by kernel_rfl)))
        refine value_ (w1 := w') (v := (.bool true)) (by rfl) rfl ?_ ?_
        · go_simp
          (try simp only [i64_w])
          try rfl
        refine hK.out _ _ ⟨v36, v39, (by rw [ha.out]; exact putSel_upk 26 hb_ rfl rfl rfl), Q_HS, Q_HX, Q_HY, Q_HZ, Q_HB, Q_S36, Q_S39⟩
      refine steps_cons ?_ ?_
      · rintro b a w' ⟨v36, v39, ha, Q_HS, Q_HX, Q_HY, Q_HZ, Q_HB, Q_S36, Q_S39⟩ hb_ hon hoff
        refine ⟨_, rfl, fun K hK => ?_⟩
        have e8 : a.tmps[8]? = some ((.bool true)) := by rw [ha]; exact (putSel_off rfl).trans rfl
        have e55 : a.tmps[55]? = some ((.bool true)) := by rw [ha]; exact putSel_on (e := (26, 55, (.bool true))) 26 rfl rfl (hon 26 (by kernel_rfl)) rfl
        replace ha := Aside0.mk ha
        have HS := Aside0.mk Q_HS
        have HX := Aside0.mk Q_HX
        have HY := Aside0.mk Q_HY
        have HZ := Aside0.mk Q_HZ
        have HB := Aside0.mk Q_HB
        have S36 := Aside0.mk (Q_S36 (hon 7 (by kernel_rfl)))
        have S39 := Aside0.mk (Q_S39 (hon 10 (by kernel_rfl)))
        refine value_ (w1 := w') (v := (.bool true)) (wanted_on rfl rfl rfl (e55.trans (by first | rfl | (simp [*]; done)))) rfl ?_ ?_
        · go_simp
          (try simp only [i64_w])
          try rfl
        refine hK.out _ _ ⟨v36, v39, (by rw [ha.out]; exact putSel_upk 27 hb_ rfl rfl rfl), Q_HS, Q_HX, Q_HY, Q_HZ, Q_HB, Q_S36, Q_S39⟩
      refine steps_cons ?_ ?_
      · rintro b a w' ⟨v36, v39, ha, Q_HS, Q_HX, Q_HY, Q_HZ, Q_HB, Q_S36, Q_S39⟩ hb_ hon hoff
        refine ⟨_, rfl, fun K hK => ?_⟩
        have e55 : a.tmps[55]? = some ((.bool true)) := by rw [ha]; exact putSel_on (e := (26, 55, (.bool true))) 26 rfl rfl (hon 26 (by kernel_rfl)) rfl
        have e56 : a.tmps[56]? = some ((.bool true)) := by rw [ha]; exact putSel_on (e := (27, 56, (.bool true))) 27 rfl rfl (hon 27 (by kernel_rfl)) rfl
        replace ha := Aside0.mk ha
        have HS := Aside0.mk Q_HS
        have HX := Aside0.mk Q_HX
        have HY := Aside0.mk Q_HY
        have HZ := Aside0.mk Q_HZ
        have HB := Aside0.mk Q_HB
        have S36 := Aside0.mk (Q_S36 (hon 7 (by kernel_rfl)))
        have S39 := Aside0.mk (Q_S39 (hon 10 (by kernel_rfl)))
        refine value_ (w1 := w') (v := (.bool true)) (by rfl) rfl ?_ ?_
        · go_simp
          (try simp only [i64_w])
          try rfl
        refine hK.out _ _ ⟨v36, v39, (by rw [ha.out]; exact putSel_upk 28 hb_ rfl rfl rfl), Q_HS, Q_HX, Q_HY, Q_HZ, Q_HB, Q_S36, Q_S39⟩
      refine steps_cons ?_ ?_
      · rintro b a w' ⟨v36, v39, ha, Q_HS, Q_HX, Q_HY, Q_HZ, Q_HB, Q_S36, Q_S39⟩ hb_ hon hoff
        refine ⟨_, rfl, fun K hK => ?_⟩
        have e57 : a.tmps[57]? = some ((.bool true)) := by rw [ha]; exact putSel_on (e := (28, 57, (.bool true))) 28 rfl rfl (hon 28 (by kernel_rfl)) rfl
        replace ha := Aside0.mk ha
        have HS := Aside0.mk Q_HS
        have HX := Aside0.mk Q_HX
        have HY := Aside0.mk Q_HY
        have HZ := Aside0.mk Q_HZ
        have HB := Aside0.mk Q_HB
        have S36 := Aside0.mk (Q_S36 (hon 7 (by kernel_rfl)))
        have S39 := Aside0.mk (Q_S39 (hon 10 (by kernel_rfl)))
        refine value_ (w1 := w') (v := (.bool true)) (by rfl) rfl ?_ ?_
        · go_simp
          (try simp only [i64_w])
          try rfl
        refine hK.out _ _ ⟨v36, v39, (by rw [ha.out]; exact putSel_upk 29 hb_ rfl rfl rfl), Q_HS, Q_HX, Q_HY, Q_HZ, Q_HB, Q_S36, Q_S39⟩
      refine steps_cons ?_ ?_
      · rintro b a w' ⟨v36, v39, ha, Q_HS, Q_HX, Q_HY, Q_HZ, Q_HB, Q_S36, Q_S39⟩ hb_ hon hoff
        refine ⟨_, rfl, fun K hK => ?_⟩
        have e7 : a.tmps[7]? = some (z) := by rw [ha]; exact (putSel_off rfl).trans rfl
        have e58 : a.tmps[58]? = some ((.bool true)) := by rw [ha]; exact putSel_on (e := (29, 58, (.bool true))) 29 rfl rfl (hon 29 (by kernel_rfl)) rfl
        replace ha := Aside0.mk ha
        have HS := Aside0.mk Q_HS
        have HX := Aside0.mk Q_HX
        have HY := Aside0.mk Q_HY
        have HZ := Aside0.mk Q_HZ
        have HB := Aside0.mk Q_HB
        have S36 := Aside0.mk (Q_S36 (hon 7 (by kernel_rfl)))
        have S39 := Aside0.mk (Q_S39 (hon 10 (by kernel_rfl)))
        refine value_ (w1 := w') (v := z) (wanted_on rfl rfl rfl (e58.trans (by first | rfl | (simp [*]; done)))) rfl ?_ ?_
        · go_simp
          (try simp only [i64_w])
          try rfl
        refine hK.out _ _ ⟨v36, v39, (by rw [ha.out]; exact putSel_upk 30 hb_ rfl rfl rfl), Q_HS, Q_HX, Q_HY, Q_HZ, Q_HB, Q_S36, Q_S39⟩
      refine steps_cons ?_ ?_
      · rintro b a w' ⟨v36, v39, ha, Q_HS, Q_HX, Q_HY, Q_HZ, Q_HB, Q_S36, Q_S39⟩ hb_ hon hoff
        refine ⟨_, rfl, fun K hK => ?_⟩
        have e59 : a.tmps[59]? = some (z) := by rw [ha]; exact putSel_on (e := (30, 59, z)) 30 rfl rfl (hon 30 (by kernel_rfl)) rfl
        have e58 : a.tmps[58]? = some ((.bool true)) := by rw [ha]; exact putSel_on (e := (29, 58, (.bool true))) 29 rfl rfl (hon 29 (by kernel_rfl)) rfl
        replace ha := Aside0.mk ha
        have HS := Aside0.mk Q_HS
        have HX := Aside0.mk Q_HX
        have HY := Aside0.mk Q_HY
        have HZ := Aside0.mk Q_HZ
        have HB := Aside0.mk Q_HB
        have S36 := Aside0.mk (Q_S36 (hon 7 (by kernel_rfl)))
        have S39 := Aside0.mk (Q_S39 (hon 10 (by kernel_rfl)))
        have hc_ := Own.Sl.string (P := Try.prog) Try.underlying22 Try.underlying5 Try.underlying9 HZ.out
        refine value_ (w1 := w') (v := (.string (strOfNums l0))) (wanted_on rfl rfl rfl (e58.trans (by first | rfl | (simp [*]; done)))) rfl ?_ ?_
        · go_simp
          (try simp only [i64_w])
          try rfl
        refine hK.out _ _ ⟨v36, v39, (by rw [ha.out]; exact putSel_upk 31 hb_ rfl rfl rfl), Q_HS, Q_HX, Q_HY, Q_HZ, Q_HB, Q_S36, Q_S39⟩
      refine steps_cons ?_ ?_
      · rintro b a w' ⟨v36, v39, ha, Q_HS, Q_HX, Q_HY, Q_HZ, Q_HB, Q_S36, Q_S39⟩ hb_ hon hoff
        refine ⟨_, rfl, fun K hK => ?_⟩
        have e0 : a.tmps[0]? = some ((.slice A0 l0.length c0)) := by rw [ha]; exact (putSel_off rfl).trans rfl
        have e58 : a.tmps[58]? = some ((.bool true)) := by rw [ha]; exact putSel_on (e := (29, 58, (.bool true))) 29 rfl rfl (hon 29 (by kernel_rfl)) rfl
        replace ha := Aside0.mk ha
        have HS := Aside0.mk Q_HS
        have HX := Aside0.mk Q_HX
        have HY := Aside0.mk Q_HY
        have HZ := Aside0.mk Q_HZ
        have HB := Aside0.mk Q_HB
        have S36 := Aside0.mk (Q_S36 (hon 7 (by kernel_rfl)))
        have S39 := Aside0.mk (Q_S39 (hon 10 (by kernel_rfl)))
        refine value_ (w1 := w') (v := (.slice A0 l0.length c0)) (wanted_on rfl rfl rfl (e58.trans (by first | rfl | (simp [*]; done)))) rfl ?_ ?_
        · go_simp
          (try simp only [i64_w])
          try rfl
        refine hK.out _ _ ⟨v36, v39, (by rw [ha.out]; exact putSel_upk 32 hb_ rfl rfl rfl), Q_HS, Q_HX, Q_HY, Q_HZ, Q_HB, Q_S36, Q_S39⟩
      refine steps_cons ?_ ?_
      · rintro b a w' ⟨v36, v39, ha, Q_HS, Q_HX, Q_HY, Q_HZ, Q_HB, Q_S36, Q_S39⟩ hb_ hon hoff
        refine ⟨_, rfl, fun K hK => ?_⟩
        have e61 : a.tmps[61]? = some ((.slice A0 l0.length c0)) := by rw [ha]; exact putSel_on (e := (32, 61, (.slice A0 l0.length c0))) 32 rfl rfl (hon 32 (by kernel_rfl)) rfl
        have e58 : a.tmps[58]? = some ((.bool true)) := by rw [ha]; exact putSel_on (e := (29, 58, (.bool true))) 29 rfl rfl (hon 29 (by kernel_rfl)) rfl
        replace ha := Aside0.mk ha
        have HS := Aside0.mk Q_HS
        have HX := Aside0.mk Q_HX
        have HY := Aside0.mk Q_HY
        have HZ := Aside0.mk Q_HZ
        have HB := Aside0.mk Q_HB
        have S36 := Aside0.mk (Q_S36 (hon 7 (by kernel_rfl)))
        have S39 := Aside0.mk (Q_S39 (hon 10 (by kernel_rfl)))
        have hc_ := Own.Sl.string (P := Try.prog) Try.underlying22 Try.underlying5 Try.underlying9 HS.out
        refine value_ (w1 := w') (v := (.string (strOfNums l0))) (wanted_on rfl rfl rfl (e58.trans (by first | rfl | (simp [*]; done)))) rfl ?_ ?_
        · go_simp
          (try simp only [i64_w])
          try rfl
        refine hK.out _ _ ⟨v36, v39, (by rw [ha.out]; exact putSel_upk 33 hb_ rfl rfl rfl), Q_HS, Q_HX, Q_HY, Q_HZ, Q_HB, Q_S36, Q_S39⟩
      refine steps_cons ?_ ?_
      · rintro b a w' ⟨v36, v39, ha, Q_HS, Q_HX, Q_HY, Q_HZ, Q_HB, Q_S36, Q_S39⟩ hb_ hon hoff
        refine ⟨_, rfl, fun K hK => ?_⟩
        have e60 : a.tmps[60]? = some ((.string (strOfNums l0))) := by rw [ha]; exact putSel_on (e := (31, 60, (.string (strOfNums l0)))) 31 rfl rfl (hon 31 (by kernel_rfl)) rfl
        have e62 : a.tmps[62]? = some ((.string (strOfNums l0))) := by rw [ha]; exact putSel_on (e := (33, 62, (.string (strOfNums l0)))) 33 rfl rfl (hon 33 (by kernel_rfl)) rfl
        have e58 : a.tmps[58]? = some ((.bool true)) := by rw [ha]; exact putSel_on (e := (29, 58, (.bool true))) 29 rfl rfl (hon 29 (by kernel_rfl)) rfl
        replace ha := Aside0.mk ha
        have HS := Aside0.mk Q_HS
        have HX := Aside0.mk Q_HX
        have HY := Aside0.mk Q_HY
        have HZ := Aside0.mk Q_HZ
        have HB := Aside0.mk Q_HB
        have S36 := Aside0.mk (Q_S36 (hon 7 (by kernel_rfl)))
        have S39 := Aside0.mk (Q_S39 (hon 10 (by kernel_rfl)))
        refine value_ (w1 := w') (v := (.bool true)) (wanted_on rfl rfl rfl (e58.trans (by first | rfl | (simp [*]; done)))) rfl ?_ ?_
        · go_simp
          (try simp only [i64_w])
          try rfl
        refine hK.out _ _ ⟨v36, v39, (by rw [ha.out]; exact putSel_upk 34 hb_ rfl rfl rfl), Q_HS, Q_HX, Q_HY, Q_HZ, Q_HB, Q_S36, Q_S39⟩
      refine steps_cons ?_ ?_
      · rintro b a w' ⟨v36, v39, ha, Q_HS, Q_HX, Q_HY, Q_HZ, Q_HB, Q_S36, Q_S39⟩ hb_ hon hoff
        refine ⟨_, rfl, fun K hK => ?_⟩
        have e58 : a.tmps[58]? = some ((.bool true)) := by rw [ha]; exact putSel_on (e := (29, 58, (.bool true))) 29 rfl rfl (hon 29 (by kernel_rfl)) rfl
        have e63 : a.tmps[63]? = some ((.bool true)) := by rw [ha]; exact putSel_on (e := (34, 63, (.bool true))) 34 rfl rfl (hon 34 (by kernel_rfl)) rfl
        replace ha := Aside0.mk ha
        have HS := Aside0.mk Q_HS
        have HX := Aside0.mk Q_HX
        have HY := Aside0.mk Q_HY
        have HZ := Aside0.mk Q_HZ
        have HB := Aside0.mk Q_HB
        have S36 := Aside0.mk (Q_S36 (hon 7 (by kernel_rfl)))
        have S39 := Aside0.mk (Q_S39 (hon 10 (by kernel_rfl)))
        refine value_ (w1 := w') (v := (.bool true)) (by rfl) rfl ?_ ?_
        · go_simp
          (try simp only [i64_w])
          try rfl
        refine hK.out _ _ ⟨v36, v39, (by rw [ha.out]; exact putSel_upk 35 hb_ rfl rfl rfl), Q_HS, Q_HX, Q_HY, Q_HZ, Q_HB, Q_S36, Q_S39⟩
      refine steps_cons ?_ ?_
      · rintro b a w' ⟨v36, v39, ha, Q_HS, Q_HX, Q_HY, Q_HZ, Q_HB, Q_S36, Q_S39⟩ hb_ hon hoff
        refine ⟨_, rfl, fun K hK => ?_⟩
        have e64 : a.tmps[64]? = some ((.bool true)) := by rw [ha]; exact putSel_on (e := (35, 64, (.bool true))) 35 rfl rfl (hon 35 (by kernel_rfl)) rfl
        replace ha := Aside0.mk ha
        have HS := Aside0.mk Q_HS
        have HX := Aside0.mk Q_HX
        have HY := Aside0.mk Q_HY
        have HZ := Aside0.mk Q_HZ
        have HB := Aside0.mk Q_HB
        have S36 := Aside0.mk (Q_S36 (hon 7 (by kernel_rfl)))
        have S39 := Aside0.mk (Q_S39 (hon 10 (by kernel_rfl)))
        refine value_ (w1 := w') (v := (.bool true)) (by rfl) rfl ?_ ?_
        · go_simp
          (try simp only [i64_w])
          try rfl
        refine hK.out _ _ ⟨v36, v39, (by rw [ha.out]; exact putSel_upk 36 hb_ rfl rfl rfl), Q_HS, Q_HX, Q_HY, Q_HZ, Q_HB, Q_S36, Q_S39⟩
      refine steps_cons ?_ ?_
      · rintro b a w' ⟨v36, v39, ha, Q_HS, Q_HX, Q_HY, Q_HZ, Q_HB, Q_S36, Q_S39⟩ hb_ hon hoff
        refine ⟨_, rfl, fun K hK => ?_⟩
        have e65 : a.tmps[65]? = some ((.bool true)) := by rw [ha]; exact putSel_on (e := (36, 65, (.bool true))) 36 rfl rfl (hon 36 (by kernel_rfl)) rfl
        replace ha := Aside0.mk ha
        have HS := Aside0.mk Q_HS
        have HX := Aside0.mk Q_HX
        have HY := Aside0.mk Q_HY
        have HZ := Aside0.mk Q_HZ
        have HB := Aside0.mk Q_HB
        have S36 := Aside0.mk (Q_S36 (hon 7 (by kernel_rfl)))
        have S39 := Aside0.mk (Q_S39 (hon 10 (by kernel_rfl)))
        refine goes_ Try.func13 (by kernel_rfl) rfl #[] (wanted_on rfl rfl rfl (e65.trans (by first | rfl | (simp [*]; done)))) rfl rfl (by first | (simp only [List.map_toArray, List.map_cons, List.map_nil, Act.eval, Array.getD_eq_getD_getElem?, Option.getD_some, e65]; done) | (simp only [List.map_toArray, List.map_cons, List.map_nil, Act.eval, Array.getD_eq_getD_getElem?, Option.getD_some, e65]; rfl)) ?_
        refine (variorumlaw02_lives.calls true _ rfl).mono ?_
        rintro e w1_ ⟨rfl, hb⟩
        refine ⟨_, rfl, ?_⟩
        refine hK.out _ _ ⟨v36, v39, (by rw [ha.out]; exact putSel_upk 37 hb_ rfl rfl rfl), HS.out.below hb, HX.out.below hb, HY.out.below hb, HZ.out.below hb, below_step HB.out hb, fun _ => S36.out.below hb, fun _ => S39.out.below hb⟩
      refine steps_cons ?_ ?_
      · rintro b a w' ⟨v36, v39, ha, Q_HS, Q_HX, Q_HY, Q_HZ, Q_HB, Q_S36, Q_S39⟩ hb_ hon hoff
        refine ⟨_, rfl, fun K hK => ?_⟩
        have e65 : a.tmps[65]? = some ((.bool true)) := by rw [ha]; exact putSel_on (e := (36, 65, (.bool true))) 36 rfl rfl (hon 36 (by kernel_rfl)) rfl
        have e66 : a.tmps[66]? = some ((.bool true)) := by rw [ha]; exact putSel_on (e := (37, 66, (.bool true))) 37 rfl rfl (hon 37 (by kernel_rfl)) rfl
        replace ha := Aside0.mk ha
        have HS := Aside0.mk Q_HS
        have HX := Aside0.mk Q_HX
        have HY := Aside0.mk Q_HY
        have HZ := Aside0.mk Q_HZ
        have HB := Aside0.mk Q_HB
        have S36 := Aside0.mk (Q_S36 (hon 7 (by kernel_rfl)))
        have S39 := Aside0.mk (Q_S39 (hon 10 (by kernel_rfl)))
        refine value_ (w1 := w') (v := (.bool true)) (by rfl) rfl ?_ ?_
        · go_simp
          (try simp only [i64_w])
          try rfl
        refine hK.out _ _ ⟨v36, v39, (by rw [ha.out]; exact putSel_upk 38 hb_ rfl rfl rfl), Q_HS, Q_HX, Q_HY, Q_HZ, Q_HB, Q_S36, Q_S39⟩
      refine steps_cons ?_ ?_
      · rintro b a w' ⟨v36, v39, ha, Q_HS, Q_HX, Q_HY, Q_HZ, Q_HB, Q_S36, Q_S39⟩ hb_ hon hoff
        refine ⟨_, rfl, fun K hK => ?_⟩
        have e67 : a.tmps[67]? = some ((.bool true)) := by rw [ha]; exact putSel_on (e := (38, 67, (.bool true))) 38 rfl rfl (hon 38 (by kernel_rfl)) rfl
        replace ha := Aside0.mk ha
        have HS := Aside0.mk Q_HS
        have HX := Aside0.mk Q_HX
        have HY := Aside0.mk Q_HY
        have HZ := Aside0.mk Q_HZ
        have HB := Aside0.mk Q_HB
        have S36 := Aside0.mk (Q_S36 (hon 7 (by kernel_rfl)))
        have S39 := Aside0.mk (Q_S39 (hon 10 (by kernel_rfl)))
        refine value_ (w1 := w') (v := (.bool true)) (by rfl) rfl ?_ ?_
        · go_simp
          (try simp only [i64_w])
          try rfl
        refine hK.out _ _ ⟨v36, v39, (by rw [ha.out]; exact putSel_upk 39 hb_ rfl rfl rfl), Q_HS, Q_HX, Q_HY, Q_HZ, Q_HB, Q_S36, Q_S39⟩
      exact steps_nil
    rintro b a we hall ⟨v36, v39, ha, Q_HS, Q_HX, Q_HY, Q_HZ, Q_HB, Q_S36, Q_S39⟩
    clear HB HS HX HY HZ
    have hb0_ := hall 0 (by kernel_rfl)
    have hb1_ := hall 1 (by kernel_rfl)
    have hb2_ := hall 2 (by kernel_rfl)
    have hb3_ := hall 3 (by kernel_rfl)
    have hb4_ := hall 4 (by kernel_rfl)
    have hb5_ := hall 5 (by kernel_rfl)
    have hb6_ := hall 6 (by kernel_rfl)
    have hb7_ := hall 7 (by kernel_rfl)
    have hb8_ := hall 8 (by kernel_rfl)
    have hb9_ := hall 9 (by kernel_rfl)
    have hb10_ := hall 10 (by kernel_rfl)
    have hb11_ := hall 11 (by kernel_rfl)
    have hb12_ := hall 12 (by kernel_rfl)
    have hb13_ := hall 13 (by kernel_rfl)
    have hb14_ := hall 14 (by kernel_rfl)
    have hb15_ := hall 15 (by kernel_rfl)
    have hb16_ := hall 16 (by kernel_rfl)
    have hb17_ := hall 17 (by kernel_rfl)
    have hb18_ := hall 18 (by kernel_rfl)
    have hb19_ := hall 19 (by kernel_rfl)
    have hb20_ := hall 20 (by kernel_rfl)
    have hb21_ := hall 21 (by kernel_rfl)
    have hb22_ := hall 22 (by kernel_rfl)
    have hb23_ := hall 23 (by kernel_rfl)
    have hb24_ := hall 24 (by kernel_rfl)
    have hb25_ := hall 25 (by kernel_rfl)
    have hb26_ := hall 26 (by kernel_rfl)
    have hb27_ := hall 27 (by kernel_rfl)
    have hb28_ := hall 28 (by kernel_rfl)
    have hb29_ := hall 29 (by kernel_rfl)
    have hb30_ := hall 30 (by kernel_rfl)
    have hb31_ := hall 31 (by kernel_rfl)
    have hb32_ := hall 32 (by kernel_rfl)
    have hb33_ := hall 33 (by kernel_rfl)
    have hb34_ := hall 34 (by kernel_rfl)
    have hb35_ := hall 35 (by kernel_rfl)
    have hb36_ := hall 36 (by kernel_rfl)
    have hb37_ := hall 37 (by kernel_rfl)
    have hb38_ := hall 38 (by kernel_rfl)
    have hb39_ := hall 39 (by kernel_rfl)
    subst ha
    simp only [putSel, hb0_, hb1_, hb2_, hb3_, hb4_, hb5_, hb6_, hb7_, hb8_, hb9_, hb10_, hb11_, hb12_, hb13_, hb14_, hb15_, hb16_, hb17_, hb18_, hb19_, hb20_, hb21_, hb22_, hb23_, hb24_, hb25_, hb26_, hb27_, hb28_, hb29_, hb30_, hb31_, hb32_, hb33_, hb34_, hb35_, hb36_, hb37_, hb38_, hb39_, if_true, Act.put, List.setIfInBounds_toArray, List.set_cons_zero, List.set_cons_succ]
    have HS := Aside0.mk Q_HS
    clear Q_HS
    have HX := Aside0.mk Q_HX
    clear Q_HX
    have HY := Aside0.mk Q_HY
    clear Q_HY
    have HZ := Aside0.mk Q_HZ
    clear Q_HZ
    have HB := Aside0.mk Q_HB
    clear Q_HB
    have S36 := Aside0.mk (Q_S36 hb7_)
    clear Q_S36
    have S39 := Aside0.mk (Q_S39 hb10_)
    clear Q_S39
    clear hall hb0_ hb1_ hb2_ hb3_ hb4_ hb5_ hb6_ hb7_ hb8_ hb9_ hb10_ hb11_ hb12_ hb13_ hb14_ hb15_ hb16_ hb17_ hb18_ hb19_ hb20_ hb21_ hb22_ hb23_ hb24_ hb25_ hb26_ hb27_ hb28_ hb29_ hb30_ hb31_ hb32_ hb33_ hb34_ hb35_ hb36_ hb37_ hb38_ hb39_
    go_wp2_with fail
    go_ret
    exact ⟨rfl, HB.out⟩
  · have g1 : (5000 : Int) < (l0.length : Int) := by omega
    go_enter Try.func4, Try.ntmps4
    go_wp2_with fail
    refine (variorumlaw02_lives.calls true _ rfl).mono ?_
    rintro e w1 ⟨rfl, hb⟩
    go_wp2_with fail
    go_ret
    exact ⟨rfl, hb⟩
def variorumlaw02_Sum32Tells.Pure : Prop := True
theorem variorumlaw02_Sum32Tells.walk (_ : variorumlaw02_Sum32Tells.Pure) (a0 : Option Addr) (len0 cap0 : Nat) (z0 : List Int) (w : World) (w0 : (a0 = none ∧ len0 = 0 ∧ cap0 = 0 ∧ z0 = []) ∨ ∃ x, a0 = some x ∧ len0 ≤ cap0 ∧ cap0 ≤ maxLen ∧ z0.length = cap0 ∧ (∀ i, i < z0.length → w.cell? (x.add i) = some (.int .u8 (z0.getD i 0))) ∧ ∀ n ∈ z0, (Lit.int .u8 n).wf = true) (y0 : len0 * 1 ≤ 140737488351232) :
    Calls Try.prog 4 #[.slice a0 len0 cap0] w fun e w' => e = .returned (.bool true) ∧ Below w.heap.size w w' := by
  obtain ⟨l0, rfl, hr0, hm0, hw0, hc0⟩ := ReadsInt.ofRowC w0
  exact variorumlaw02_Sum32Tells.holds _ _ l0 w (Kd.C_of_reads (d := (0 : Int)) (h1 := fun _ => rfl) hr0) hc0 y0 hw0

end Go.Proofs.Ytgefpgbofhcmdaa.P

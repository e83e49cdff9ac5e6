-- Written by wip/myprint.py of this session, over the kit's print.py: a Lean function for each Go function, and the proof that the code comes to it.
import Derived.Test.YtgefpgbofhcmdaaPBase
import Derived.Test.YtgefpgbofhcmdaaVaryLives
namespace Go.Proofs.Ytgefpgbofhcmdaa.P
open Go.RowKit Go.Proofs.YtgefpgbofhcmdaaW.PrintWords Go.Proofs.YtgefpgbofhcmdaaW.PrintLast Go.Proofs.YtgefpgbofhcmdaaW.PrintMore
attribute [local go_sem] max2_int min2_int max_two min_two max_three min_three max_four min_four   -- for this text's walks alone
set_option linter.unusedVariables false
set_option linter.unusedSimpArgs false

/-! ### variorumlaw01_VaryOne: function 9 -/
-- NEEDS Derived.Test.YtgefpgbofhcmdaaVaryLives
def variorumlaw01_VaryOne.T8 : Bool × List (List Nat × List Nat) := (true, [([], []), ([0], [0]), ([1], [1]), ([2, 1], [2]), ([3], [3]), ([4, 3, 3], [3, 4]), ([5, 3], [3, 5]), ([3], [3]), ([3], [3]), ([7, 8, 3], [3, 7, 8]), ([9, 3], [3, 9]), ([6, 10, 3], [3, 6, 10]), ([3, 11], [3, 11])])
def variorumlaw01_VaryOne.B8 : List Nat := [0, 1, 3, 7, 15, 31, 63, 15, 15, 399, 911, 2047, 4095]
theorem variorumlaw01_VaryOne.tab8 : rtab .any (opsOf Try.f9 8) = variorumlaw01_VaryOne.T8 := by kernel_rfl
theorem variorumlaw01_VaryOne.bits8 : waitsOk variorumlaw01_VaryOne.T8.2 variorumlaw01_VaryOne.B8 = true := by kernel_rfl
def variorumlaw01_VaryOne.T12 : Bool × List (List Nat × List Nat) := (true, [([], []), ([0], [0]), ([1, 1], [1]), ([2], [2]), ([3, 2, 2], [2, 3]), ([4, 2], [2, 4]), ([2], [2]), ([2], [2]), ([6, 7, 2], [2, 6, 7]), ([8, 2], [2, 8]), ([5, 9, 2], [2, 5, 9]), ([2, 10], [2, 10]), ([11, 4], [11]), ([12], [12]), ([13, 12, 12], [12, 13]), ([12], [12]), ([15, 14, 12], [12, 15]), ([14, 16, 12], [12, 14, 16]), ([12, 17], [12, 17]), ([18, 16], [18]), ([19, 19], [19]), ([19, 20], [19, 20]), ([21, 20, 0, 1, 2, 3, 4, 5, 6, 7, 8, 9, 10, 11, 12, 13, 14, 15, 16, 17, 18, 19, 20, 21], [21])])
def variorumlaw01_VaryOne.B12 : List Nat := [0, 1, 3, 7, 15, 31, 7, 7, 199, 455, 1023, 2047, 4095, 8191, 16383, 8191, 65535, 131071, 262143, 524287, 1048575, 2097151, 4194303]
theorem variorumlaw01_VaryOne.tab12 : rtab .any (opsOf Try.f9 12) = variorumlaw01_VaryOne.T12 := by kernel_rfl
theorem variorumlaw01_VaryOne.bits12 : waitsOk variorumlaw01_VaryOne.T12.2 variorumlaw01_VaryOne.B12 = true := by kernel_rfl
theorem variorumlaw01_VaryOne.rstep {g : Nat} {w : World} {v : Value} {l : List Int} {k : Nat} (h : VaryR.Rd g w v l (VaryR.stepA false 0 k) (VaryR.stepB false k)) : (k = 0 → VaryR.Rd g w v l 0 true) ∧ (k ≠ 0 → VaryR.Rd g w v l k false) := by
  constructor
  · rintro rfl; exact h
  · intro hk
    have e1 : VaryR.stepB false k = false := by unfold VaryR.stepB; simp [hk]
    have e2 : VaryR.stepA false 0 k = k := by unfold VaryR.stepA; simp
    rw [e1, e2] at h; exact h
theorem variorumlaw01_VaryOne.rnum {g : Nat} {w : World} {v : Value} {l : List Int} (h : VaryR.Rd g w v l 0 false) (hok : Byt.Ok l) :
    Calls Try.prog 31 #[.pointer (some ⟨g, 0, none⟩)] w fun e w' => e = .returned (.int .i64 (Vy.numL l).1) ∧ ((Vy.numL l).2 = 0 → VaryR.Rd g w' v l 0 true) ∧ ((Vy.numL l).2 ≠ 0 → VaryR.Rd g w' v l (Vy.numL l).2 false) ∧ VaryR.But g w w' := by
  have := VaryR.nNum g w v l 0 false h hok
  rw [List.drop_zero, VaryR.stepV_false VaryR.num_zero] at this
  exact this.mono fun e w' ⟨h1, h2, h3⟩ => ⟨h1, (variorumlaw01_VaryOne.rstep h2).1, (variorumlaw01_VaryOne.rstep h2).2, h3⟩
theorem variorumlaw01_VaryOne.rsgn {g : Nat} {w : World} {v : Value} {l : List Int} (h : VaryR.Rd g w v l 0 false) (hok : Byt.Ok l) :
    Calls Try.prog 34 #[.pointer (some ⟨g, 0, none⟩)] w fun e w' => e = .returned (.int .i64 (Vy.zag (Vy.numL l).1)) ∧ ((Vy.numL l).2 = 0 → VaryR.Rd g w' v l 0 true) ∧ ((Vy.numL l).2 ≠ 0 → VaryR.Rd g w' v l (Vy.numL l).2 false) ∧ VaryR.But g w w' := by
  have := VaryR.nSigned g w v l 0 false h hok
  rw [List.drop_zero, VaryR.stepV_false VaryR.sgn_zero] at this
  exact this.mono fun e w' ⟨h1, h2, h3⟩ => ⟨h1, (variorumlaw01_VaryOne.rstep h2).1, (variorumlaw01_VaryOne.rstep h2).2, h3⟩
set_option maxHeartbeats 8000000 in
set_option maxRecDepth 100000 in
theorem variorumlaw01_VaryOne.none_ (A0 : Option Addr) (c0 : Nat) (l0 : List Int) (w : World) (h0 : Own.Sl w (.slice A0 l0.length c0) l0) (hok : Byt.Ok l0) (hlen : l0.length ≤ 4000) (hk : (Vy.numL l0).2 = 0) :
    Calls Try.prog 9 #[.slice A0 l0.length c0] w fun e w' => e = .returned (.bool true) ∧ Below w.heap.size w w' := by
  have H0 := Aside0.mk h0
  have HO := Aside0.mk hok
  have g1 : ¬ ((4000 : Int) < (l0.length : Int)) := by omega
  have g2 : (l0.length : Int) ≤ 4000 := by omega
  have HL := Aside0.mk hlen
  have HK := Aside0.mk hk
  clear h0 hlen hk
  go_enter Try.func9, Try.ntmps9
  go_wp2_with fail
  refine (VaryR.nRead _ _ l0 H0.out (by have := HL.out; omega)).mono ?_
  rintro e w1 ⟨rfl, r1, b1, s1⟩
  have R1 := Aside0.mk r1
  have HB1 := Aside0.mk b1
  have S1 := Aside0.mk s1
  have H1 := Aside0.mk (H0.out.below b1)
  clear r1 b1 s1
  go_wp2_with fail
  refine (VaryR.nRead _ _ l0 H1.out (by have := HL.out; omega)).mono ?_
  rintro e w2 ⟨rfl, r2, b2, s2⟩
  have R2 := Aside0.mk r2
  have R1' := Aside0.mk (R1.out.below b2)
  have HB := Aside0.mk (HB1.out.trans (b2.mono (by have := S1.out; omega)))
  have H2 := Aside0.mk (H1.out.below b2)
  clear r2 b2 s2 R1 HB1 H1
  rw [S1.out] at R2 ⊢
  clear S1
  obtain ⟨g, hg⟩ : ∃ g, g = w.heap.size := ⟨_, rfl⟩
  have HG := Aside0.mk (show w.heap.size ≤ g by omega)
  have HGE := Aside0.mk hg
  rw [← hg] at R1' R2 ⊢
  clear hg
  go_wp2_with fail
  refine (variorumlaw01_VaryOne.rnum R1'.out HO.out).mono ?_
  rintro e w3 ⟨rfl, r1, r1', b3⟩
  have R2' := Aside0.mk (R2.out.but b3 (by omega) R1'.out.noByte)
  have H3 := Aside0.mk (VaryR.Sl.but H2.out b3 R1'.out.noByte)
  have HB3 := Aside0.mk (VaryR.But.step b3 HB.out HG.out (Nat.le_refl _))
  have R1 := Aside0.mk (r1 HK.out)
  clear r1 r1' b3 R2 H2 HB R1'
  obtain ⟨x, hx⟩ : ∃ x, x = (Vy.numL l0).1 := ⟨_, rfl⟩
  rw [← hx]
  clear hx
  go_wp2_with fail
  refine (VaryR.nLeft g _ _ l0 0 true R1.out).mono ?_
  rintro e w4 ⟨rfl, n4, rfl⟩
  rw [show VaryR.leftL l0 0 true = 0 from rfl]
  have R1d := Aside0.mk (R1.out.below (pw_below_drewN (Below.refl _ _) n4))
  have R2d := Aside0.mk (R2'.out.below (pw_below_drewN (Below.refl _ _) n4))
  have H4 := Aside0.mk (H3.out.drewN n4)
  have HB4 := Aside0.mk (pw_below_drewN HB3.out n4)
  clear R1 R2' H3 HB3
  obtain ⟨w4, hw4⟩ : ∃ w4, w4 = w3.drewN n4 := ⟨_, rfl⟩
  rw [← hw4] at R1d R2d H4 HB4 ⊢
  clear hw4
  go_wp2_with fail
  refine start_ (n := 13) (S := fun w' => True) (ds := []) #[false, false, false, false, false, false, false, false, false, false, false, false, false] (by kernel_rfl) rfl rfl trivial (fun hHeld => ?_); refine with_tabW variorumlaw01_VaryOne.tab8 variorumlaw01_VaryOne.bits8 (fun HT_ HW_ => ?_)
  refine inv_at [0, 1, 2, 3, 4, 5, 6, 7, 8, 9, 10, 11, 12] (fun a0_ b a w' => a = putSel a0_ b [(0, 30, (.pointer (some ⟨g, 0, none⟩))), (1, 31, (.bool true)), (2, 32, (.bool false)), (3, 33, (.bool false)), (4, 34, undef), (5, 35, undef), (6, 36, undef), (7, 37, undef), (8, 38, undef), (9, 39, undef), (10, 40, undef), (11, 41, undef), (12, 42, (.bool false))] ∧ (Own.Sl w' (.slice A0 l0.length c0) l0) ∧ (Below w.heap.size w w') ∧ (VaryR.Rd g w' (.slice A0 l0.length c0) l0 0 true) ∧ (VaryR.Rd (g + 1) w' (.slice A0 l0.length c0) l0 0 false)) HT_.out HW_.out (by kernel_rfl) (by kernel_rfl) ?_ ?_ ?_
  · exact ⟨by simp only [putSel, Bool.false_eq_true, if_false], H4.out.drew, below_drew1 HB4.out, R1d.out.below (below_drew1 (Below.refl _ _)), R2d.out.below (below_drew1 (Below.refl _ _))⟩
  · skip
    clear H4 HB4 R1d R2d
    refine steps_cons ?_ ?_
    · rintro b a w' ⟨ha, Q_H4, Q_HB4, Q_R1d, Q_R2d⟩ hb_ hon hoff
      refine ⟨_, rfl, fun K hK => ?_⟩
      have e3 : a.tmps[3]? = some ((.pointer (some ⟨g, 0, none⟩))) := by rw [ha]; exact (putSel_off rfl).trans rfl
      replace ha := Aside0.mk ha
      have H4 := Aside0.mk Q_H4
      have HB4 := Aside0.mk Q_HB4
      have R1d := Aside0.mk Q_R1d
      have R2d := Aside0.mk Q_R2d
      refine value_ (w1 := w') (v := (.pointer (some ⟨g, 0, none⟩))) (by rfl) rfl ?_ ?_
      · go_simp
        (try simp only [i64_w])
        try rfl
      refine hK.out _ _ ⟨(by rw [ha.out]; exact putSel_upk 0 hb_ rfl rfl rfl), Q_H4, Q_HB4, Q_R1d, Q_R2d⟩
    refine steps_cons ?_ ?_
    · rintro b a w' ⟨ha, Q_H4, Q_HB4, Q_R1d, Q_R2d⟩ hb_ hon hoff
      refine ⟨_, rfl, fun K hK => ?_⟩
      have e30 : a.tmps[30]? = some ((.pointer (some ⟨g, 0, none⟩))) := by rw [ha]; exact putSel_on (e := (0, 30, (.pointer (some ⟨g, 0, none⟩)))) 0 rfl rfl (hon 0 (by kernel_rfl)) rfl
      replace ha := Aside0.mk ha
      have H4 := Aside0.mk Q_H4
      have HB4 := Aside0.mk Q_HB4
      have R1d := Aside0.mk Q_R1d
      have R2d := Aside0.mk Q_R2d
      refine goes_ Try.func33 (by kernel_rfl) rfl #[.pointer (some ⟨g, 0, none⟩)] (by rfl) rfl rfl (by first | (simp only [List.map_toArray, List.map_cons, List.map_nil, Act.eval, Array.getD_eq_getD_getElem?, Option.getD_some, e30]; done) | (simp only [List.map_toArray, List.map_cons, List.map_nil, Act.eval, Array.getD_eq_getD_getElem?, Option.getD_some, e30]; rfl)) ?_
      refine (VaryR.nBad g _ _ l0 0 true R1d.out).mono ?_
      rintro e w1_ ⟨rfl, hw⟩
      refine ⟨_, rfl, ?_⟩
      subst hw
      refine hK.out _ _ ⟨(by rw [ha.out]; exact putSel_upk 1 hb_ rfl rfl rfl), H4.out.below (Below.refl _ _), below_step HB4.out (Below.refl _ _), R1d.out.below (Below.refl _ _), R2d.out.below (Below.refl _ _)⟩
    refine steps_cons ?_ ?_
    · rintro b a w' ⟨ha, Q_H4, Q_HB4, Q_R1d, Q_R2d⟩ hb_ hon hoff
      refine ⟨_, rfl, fun K hK => ?_⟩
      have e31 : a.tmps[31]? = some ((.bool true)) := by rw [ha]; exact putSel_on (e := (1, 31, (.bool true))) 1 rfl rfl (hon 1 (by kernel_rfl)) rfl
      replace ha := Aside0.mk ha
      have H4 := Aside0.mk Q_H4
      have HB4 := Aside0.mk Q_HB4
      have R1d := Aside0.mk Q_R1d
      have R2d := Aside0.mk Q_R2d
      refine value_ (w1 := w') (v := (.bool false)) (by rfl) rfl ?_ ?_
      · go_simp
        (try simp only [i64_w])
        try rfl
      refine hK.out _ _ ⟨(by rw [ha.out]; exact putSel_upk 2 hb_ rfl rfl rfl), Q_H4, Q_HB4, Q_R1d, Q_R2d⟩
    refine steps_cons ?_ ?_
    · rintro b a w' ⟨ha, Q_H4, Q_HB4, Q_R1d, Q_R2d⟩ hb_ hon hoff
      refine ⟨_, rfl, fun K hK => ?_⟩
      have e32 : a.tmps[32]? = some ((.bool false)) := by rw [ha]; exact putSel_on (e := (2, 32, (.bool false))) 2 rfl rfl (hon 2 (by kernel_rfl)) rfl
      replace ha := Aside0.mk ha
      have H4 := Aside0.mk Q_H4
      have HB4 := Aside0.mk Q_HB4
      have R1d := Aside0.mk Q_R1d
      have R2d := Aside0.mk Q_R2d
      refine value_ (w1 := w') (v := (.bool false)) (by rfl) rfl ?_ ?_
      · go_simp
        (try simp only [i64_w])
        try rfl
      refine hK.out _ _ ⟨(by rw [ha.out]; exact putSel_upk 3 hb_ rfl rfl rfl), Q_H4, Q_HB4, Q_R1d, Q_R2d⟩
    refine steps_cons ?_ ?_
    · rintro b a w' ⟨ha, Q_H4, Q_HB4, Q_R1d, Q_R2d⟩ hb_ hon hoff
      refine ⟨_, rfl, fun K hK => ?_⟩
      have e33 : a.tmps[33]? = some ((.bool false)) := by rw [ha]; exact putSel_on (e := (3, 33, (.bool false))) 3 rfl rfl (hon 3 (by kernel_rfl)) rfl
      replace ha := Aside0.mk ha
      have H4 := Aside0.mk Q_H4
      have HB4 := Aside0.mk Q_HB4
      have R1d := Aside0.mk Q_R1d
      have R2d := Aside0.mk Q_R2d
      refine off_ (wanted_off rfl rfl rfl (e33.trans (by first | rfl | (simp [*]; done)))) ?_
      refine hK.out _ _ ⟨(by rw [ha.out]; exact putSel_upk 4 hb_ rfl rfl rfl), Q_H4, Q_HB4, Q_R1d, Q_R2d⟩
    refine steps_cons ?_ ?_
    · rintro b a w' ⟨ha, Q_H4, Q_HB4, Q_R1d, Q_R2d⟩ hb_ hon hoff
      refine ⟨_, rfl, fun K hK => ?_⟩
      have e33 : a.tmps[33]? = some ((.bool false)) := by rw [ha]; exact putSel_on (e := (3, 33, (.bool false))) 3 rfl rfl (hon 3 (by kernel_rfl)) rfl
      replace ha := Aside0.mk ha
      have H4 := Aside0.mk Q_H4
      have HB4 := Aside0.mk Q_HB4
      have R1d := Aside0.mk Q_R1d
      have R2d := Aside0.mk Q_R2d
      refine off_ (wanted_off rfl rfl rfl (e33.trans (by first | rfl | (simp [*]; done)))) ?_
      refine hK.out _ _ ⟨(by rw [ha.out]; exact putSel_upk 5 hb_ rfl rfl rfl), Q_H4, Q_HB4, Q_R1d, Q_R2d⟩
    refine steps_cons ?_ ?_
    · rintro b a w' ⟨ha, Q_H4, Q_HB4, Q_R1d, Q_R2d⟩ hb_ hon hoff
      refine ⟨_, rfl, fun K hK => ?_⟩
      have e33 : a.tmps[33]? = some ((.bool false)) := by rw [ha]; exact putSel_on (e := (3, 33, (.bool false))) 3 rfl rfl (hon 3 (by kernel_rfl)) rfl
      replace ha := Aside0.mk ha
      have H4 := Aside0.mk Q_H4
      have HB4 := Aside0.mk Q_HB4
      have R1d := Aside0.mk Q_R1d
      have R2d := Aside0.mk Q_R2d
      refine off_ (wanted_off rfl rfl rfl (e33.trans (by first | rfl | (simp [*]; done)))) ?_
      refine hK.out _ _ ⟨(by rw [ha.out]; exact putSel_upk 6 hb_ rfl rfl rfl), Q_H4, Q_HB4, Q_R1d, Q_R2d⟩
    refine steps_cons ?_ ?_
    · rintro b a w' ⟨ha, Q_H4, Q_HB4, Q_R1d, Q_R2d⟩ hb_ hon hoff
      refine ⟨_, rfl, fun K hK => ?_⟩
      have e33 : a.tmps[33]? = some ((.bool false)) := by rw [ha]; exact putSel_on (e := (3, 33, (.bool false))) 3 rfl rfl (hon 3 (by kernel_rfl)) rfl
      replace ha := Aside0.mk ha
      have H4 := Aside0.mk Q_H4
      have HB4 := Aside0.mk Q_HB4
      have R1d := Aside0.mk Q_R1d
      have R2d := Aside0.mk Q_R2d
      refine off_ (wanted_off rfl rfl rfl (e33.trans (by first | rfl | (simp [*]; done)))) ?_
      refine hK.out _ _ ⟨(by rw [ha.out]; exact putSel_upk 7 hb_ rfl rfl rfl), Q_H4, Q_HB4, Q_R1d, Q_R2d⟩
    refine steps_cons ?_ ?_
    · rintro b a w' ⟨ha, Q_H4, Q_HB4, Q_R1d, Q_R2d⟩ hb_ hon hoff
      refine ⟨_, rfl, fun K hK => ?_⟩
      have e33 : a.tmps[33]? = some ((.bool false)) := by rw [ha]; exact putSel_on (e := (3, 33, (.bool false))) 3 rfl rfl (hon 3 (by kernel_rfl)) rfl
      replace ha := Aside0.mk ha
      have H4 := Aside0.mk Q_H4
      have HB4 := Aside0.mk Q_HB4
      have R1d := Aside0.mk Q_R1d
      have R2d := Aside0.mk Q_R2d
      refine off_ (wanted_off rfl rfl rfl (e33.trans (by first | rfl | (simp [*]; done)))) ?_
      refine hK.out _ _ ⟨(by rw [ha.out]; exact putSel_upk 8 hb_ rfl rfl rfl), Q_H4, Q_HB4, Q_R1d, Q_R2d⟩
    refine steps_cons ?_ ?_
    · rintro b a w' ⟨ha, Q_H4, Q_HB4, Q_R1d, Q_R2d⟩ hb_ hon hoff
      refine ⟨_, rfl, fun K hK => ?_⟩
      have e33 : a.tmps[33]? = some ((.bool false)) := by rw [ha]; exact putSel_on (e := (3, 33, (.bool false))) 3 rfl rfl (hon 3 (by kernel_rfl)) rfl
      replace ha := Aside0.mk ha
      have H4 := Aside0.mk Q_H4
      have HB4 := Aside0.mk Q_HB4
      have R1d := Aside0.mk Q_R1d
      have R2d := Aside0.mk Q_R2d
      refine off_ (wanted_off rfl rfl rfl (e33.trans (by first | rfl | (simp [*]; done)))) ?_
      refine hK.out _ _ ⟨(by rw [ha.out]; exact putSel_upk 9 hb_ rfl rfl rfl), Q_H4, Q_HB4, Q_R1d, Q_R2d⟩
    refine steps_cons ?_ ?_
    · rintro b a w' ⟨ha, Q_H4, Q_HB4, Q_R1d, Q_R2d⟩ hb_ hon hoff
      refine ⟨_, rfl, fun K hK => ?_⟩
      have e33 : a.tmps[33]? = some ((.bool false)) := by rw [ha]; exact putSel_on (e := (3, 33, (.bool false))) 3 rfl rfl (hon 3 (by kernel_rfl)) rfl
      replace ha := Aside0.mk ha
      have H4 := Aside0.mk Q_H4
      have HB4 := Aside0.mk Q_HB4
      have R1d := Aside0.mk Q_R1d
      have R2d := Aside0.mk Q_R2d
      refine off_ (wanted_off rfl rfl rfl (e33.trans (by first | rfl | (simp [*]; done)))) ?_
      refine hK.out _ _ ⟨(by rw [ha.out]; exact putSel_upk 10 hb_ rfl rfl rfl), Q_H4, Q_HB4, Q_R1d, Q_R2d⟩
    refine steps_cons ?_ ?_
    · rintro b a w' ⟨ha, Q_H4, Q_HB4, Q_R1d, Q_R2d⟩ hb_ hon hoff
      refine ⟨_, rfl, fun K hK => ?_⟩
      have e33 : a.tmps[33]? = some ((.bool false)) := by rw [ha]; exact putSel_on (e := (3, 33, (.bool false))) 3 rfl rfl (hon 3 (by kernel_rfl)) rfl
      replace ha := Aside0.mk ha
      have H4 := Aside0.mk Q_H4
      have HB4 := Aside0.mk Q_HB4
      have R1d := Aside0.mk Q_R1d
      have R2d := Aside0.mk Q_R2d
      refine off_ (wanted_off rfl rfl rfl (e33.trans (by first | rfl | (simp [*]; done)))) ?_
      refine hK.out _ _ ⟨(by rw [ha.out]; exact putSel_upk 11 hb_ rfl rfl rfl), Q_H4, Q_HB4, Q_R1d, Q_R2d⟩
    refine steps_cons ?_ ?_
    · rintro b a w' ⟨ha, Q_H4, Q_HB4, Q_R1d, Q_R2d⟩ hb_ hon hoff
      refine ⟨_, rfl, fun K hK => ?_⟩
      have e33 : a.tmps[33]? = some ((.bool false)) := by rw [ha]; exact putSel_on (e := (3, 33, (.bool false))) 3 rfl rfl (hon 3 (by kernel_rfl)) rfl
      have e41 : a.tmps[41]? = some (undef) := by rw [ha]; exact putSel_on (e := (11, 41, undef)) 11 rfl rfl (hon 11 (by kernel_rfl)) rfl
      replace ha := Aside0.mk ha
      have H4 := Aside0.mk Q_H4
      have HB4 := Aside0.mk Q_HB4
      have R1d := Aside0.mk Q_R1d
      have R2d := Aside0.mk Q_R2d
      refine value_ (w1 := w') (v := (.bool false)) (by rfl) rfl ?_ ?_
      · go_simp
        (try simp only [i64_w])
        try rfl
      refine hK.out _ _ ⟨(by rw [ha.out]; exact putSel_upk 12 hb_ rfl rfl rfl), Q_H4, Q_HB4, Q_R1d, Q_R2d⟩
    exact steps_nil
  rintro b a w5 hall ⟨ha, Q_H4, Q_HB4, Q_R1d, Q_R2d⟩
  clear H4 HB4 R1d R2d
  have hb0_ := hall 0 (by kernel_rfl)
  have hb1_ := hall 1 (by kernel_rfl)
  have hb2_ := hall 2 (by kernel_rfl)
  have hb3_ := hall 3 (by kernel_rfl)
  have hb4_ := hall 4 (by kernel_rfl)
  have hb5_ := hall 5 (by kernel_rfl)
  have hb6_ := hall 6 (by kernel_rfl)
  have hb7_ := hall 7 (by kernel_rfl)
  have hb8_ := hall 8 (by kernel_rfl)
  have hb9_ := hall 9 (by kernel_rfl)
  have hb10_ := hall 10 (by kernel_rfl)
  have hb11_ := hall 11 (by kernel_rfl)
  have hb12_ := hall 12 (by kernel_rfl)
  subst ha
  simp only [putSel, hb0_, hb1_, hb2_, hb3_, hb4_, hb5_, hb6_, hb7_, hb8_, hb9_, hb10_, hb11_, hb12_, if_true, Act.put, List.setIfInBounds_toArray, List.set_cons_zero, List.set_cons_succ]
  have H4 := Aside0.mk Q_H4
  clear Q_H4
  have HB4 := Aside0.mk Q_HB4
  clear Q_HB4
  have R1d := Aside0.mk Q_R1d
  clear Q_R1d
  have R2d := Aside0.mk Q_R2d
  clear Q_R2d
  clear hall hb0_ hb1_ hb2_ hb3_ hb4_ hb5_ hb6_ hb7_ hb8_ hb9_ hb10_ hb11_ hb12_
  go_wp2_with fail
  refine (variorumlaw01_VaryOne.rsgn R2d.out HO.out).mono ?_
  rintro e w6 ⟨rfl, r2, r2', b6⟩
  have R1e := Aside0.mk (R1d.out.but b6 (by omega) R2d.out.noByte)
  have HB6 := Aside0.mk (VaryR.But.step b6 HB4.out (Nat.le_trans HG.out (Nat.le_succ g)) (Nat.le_refl _))
  have H6 := Aside0.mk (VaryR.Sl.but H4.out b6 R2d.out.noByte)
  have R2e := Aside0.mk (r2 HK.out)
  clear r2 r2' b6 R1d R2d HB4 H4
  obtain ⟨y, hy⟩ : ∃ y, y = Vy.zag (Vy.numL l0).1 := ⟨_, rfl⟩
  rw [← hy]
  clear hy
  go_wp2_with fail
  refine (VaryR.nLeft (g + 1) _ _ l0 0 true R2e.out).mono ?_
  rintro e w7 ⟨rfl, n7, rfl⟩
  rw [show VaryR.leftL l0 0 true = 0 from rfl]
  have R1 := Aside0.mk (R1e.out.below (pw_below_drewN (Below.refl _ _) n7))
  have R2 := Aside0.mk (R2e.out.below (pw_below_drewN (Below.refl _ _) n7))
  have HB := Aside0.mk (pw_below_drewN HB6.out n7)
  clear R1e R2e HB6 H6
  obtain ⟨w8, hw8⟩ : ∃ w8, w8 = w6.drewN n7 := ⟨_, rfl⟩
  rw [← hw8] at R1 R2 HB ⊢
  clear hw8
  go_wp2_with fail
  refine start_ (n := 23) (S := fun w' => True) (ds := []) #[false, false, false, false, false, false, false, false, false, false, false, false, false, false, false, false, false, false, false, false, false, false, false] (by kernel_rfl) rfl rfl trivial (fun hHeld => ?_); refine with_tabW variorumlaw01_VaryOne.tab12 variorumlaw01_VaryOne.bits12 (fun HT_ HW_ => ?_)
  refine inv_at [0, 1, 2, 3, 4, 5, 6, 7, 8, 9, 10, 11, 12, 13, 14, 15, 16, 17, 18, 19, 20, 21, 22] (fun a0_ b a w' => a = putSel a0_ b [(0, 50, (.pointer (some ⟨g + 1, 0, none⟩))), (1, 51, (.bool true)), (2, 52, (.bool true)), (3, 53, undef), (4, 54, undef), (5, 55, undef), (6, 56, undef), (7, 57, undef), (8, 58, undef), (9, 59, undef), (10, 60, undef), (11, 61, (.bool true)), (12, 62, (.bool true)), (13, 63, (.pointer (some ⟨g + 1, 0, none⟩))), (14, 64, (.bool true)), (15, 65, (.pointer (some ⟨g, 0, none⟩))), (16, 66, (.bool true)), (17, 67, (.bool true)), (18, 68, (.bool true)), (19, 69, (.bool true)), (20, 70, (.bool true)), (21, 71, (.bool true)), (22, 2, (.bool true))] ∧ (Below w.heap.size w w') ∧ (VaryR.Rd g w' (.slice A0 l0.length c0) l0 0 true) ∧ (VaryR.Rd (g + 1) w' (.slice A0 l0.length c0) l0 0 true)) HT_.out HW_.out (by kernel_rfl) (by kernel_rfl) ?_ ?_ ?_
  · exact ⟨by simp only [putSel, Bool.false_eq_true, if_false], below_drew1 HB.out, R1.out.below (below_drew1 (Below.refl _ _)), R2.out.below (below_drew1 (Below.refl _ _))⟩
  · skip
    clear HB R1 R2
    refine steps_cons ?_ ?_
    · rintro b a w' ⟨ha, Q_HB, Q_R1, Q_R2⟩ hb_ hon hoff
      refine ⟨_, rfl, fun K hK => ?_⟩
      have e4 : a.tmps[4]? = some ((.pointer (some ⟨g + 1, 0, none⟩))) := by rw [ha]; exact (putSel_off rfl).trans rfl
      replace ha := Aside0.mk ha
      have HB := Aside0.mk Q_HB
      have R1 := Aside0.mk Q_R1
      have R2 := Aside0.mk Q_R2
      refine value_ (w1 := w') (v := (.pointer (some ⟨g + 1, 0, none⟩))) (by rfl) rfl ?_ ?_
      · go_simp
        (try simp only [i64_w])
        try rfl
      refine hK.out _ _ ⟨(by rw [ha.out]; exact putSel_upk 0 hb_ rfl rfl rfl), Q_HB, Q_R1, Q_R2⟩
    refine steps_cons ?_ ?_
    · rintro b a w' ⟨ha, Q_HB, Q_R1, Q_R2⟩ hb_ hon hoff
      refine ⟨_, rfl, fun K hK => ?_⟩
      have e50 : a.tmps[50]? = some ((.pointer (some ⟨g + 1, 0, none⟩))) := by rw [ha]; exact putSel_on (e := (0, 50, (.pointer (some ⟨g + 1, 0, none⟩)))) 0 rfl rfl (hon 0 (by kernel_rfl)) rfl
      replace ha := Aside0.mk ha
      have HB := Aside0.mk Q_HB
      have R1 := Aside0.mk Q_R1
      have R2 := Aside0.mk Q_R2
      refine goes_ Try.func33 (by kernel_rfl) rfl #[.pointer (some ⟨g + 1, 0, none⟩)] (by rfl) rfl rfl (by first | (simp only [List.map_toArray, List.map_cons, List.map_nil, Act.eval, Array.getD_eq_getD_getElem?, Option.getD_some, e50]; done) | (simp only [List.map_toArray, List.map_cons, List.map_nil, Act.eval, Array.getD_eq_getD_getElem?, Option.getD_some, e50]; rfl)) ?_
      refine (VaryR.nBad (g + 1) _ _ l0 0 true R2.out).mono ?_
      rintro e w1_ ⟨rfl, hw⟩
      refine ⟨_, rfl, ?_⟩
      subst hw
      refine hK.out _ _ ⟨(by rw [ha.out]; exact putSel_upk 1 hb_ rfl rfl rfl), below_step HB.out (Below.refl _ _), R1.out.below (Below.refl _ _), R2.out.below (Below.refl _ _)⟩
    refine steps_cons ?_ ?_
    · rintro b a w' ⟨ha, Q_HB, Q_R1, Q_R2⟩ hb_ hon hoff
      refine ⟨_, rfl, fun K hK => ?_⟩
      have e51 : a.tmps[51]? = some ((.bool true)) := by rw [ha]; exact putSel_on (e := (1, 51, (.bool true))) 1 rfl rfl (hon 1 (by kernel_rfl)) rfl
      replace ha := Aside0.mk ha
      have HB := Aside0.mk Q_HB
      have R1 := Aside0.mk Q_R1
      have R2 := Aside0.mk Q_R2
      refine value_ (w1 := w') (v := (.bool true)) (by rfl) rfl ?_ ?_
      · go_simp
        (try simp only [i64_w])
        try rfl
      refine hK.out _ _ ⟨(by rw [ha.out]; exact putSel_upk 2 hb_ rfl rfl rfl), Q_HB, Q_R1, Q_R2⟩
    refine steps_cons ?_ ?_
    · rintro b a w' ⟨ha, Q_HB, Q_R1, Q_R2⟩ hb_ hon hoff
      refine ⟨_, rfl, fun K hK => ?_⟩
      have e52 : a.tmps[52]? = some ((.bool true)) := by rw [ha]; exact putSel_on (e := (2, 52, (.bool true))) 2 rfl rfl (hon 2 (by kernel_rfl)) rfl
      replace ha := Aside0.mk ha
      have HB := Aside0.mk Q_HB
      have R1 := Aside0.mk Q_R1
      have R2 := Aside0.mk Q_R2
      refine off_ (wanted_off rfl rfl rfl (e52.trans (by first | rfl | (simp [*]; done)))) ?_
      refine hK.out _ _ ⟨(by rw [ha.out]; exact putSel_upk 3 hb_ rfl rfl rfl), Q_HB, Q_R1, Q_R2⟩
    refine steps_cons ?_ ?_
    · rintro b a w' ⟨ha, Q_HB, Q_R1, Q_R2⟩ hb_ hon hoff
      refine ⟨_, rfl, fun K hK => ?_⟩
      have e52 : a.tmps[52]? = some ((.bool true)) := by rw [ha]; exact putSel_on (e := (2, 52, (.bool true))) 2 rfl rfl (hon 2 (by kernel_rfl)) rfl
      replace ha := Aside0.mk ha
      have HB := Aside0.mk Q_HB
      have R1 := Aside0.mk Q_R1
      have R2 := Aside0.mk Q_R2
      refine off_ (wanted_off rfl rfl rfl (e52.trans (by first | rfl | (simp [*]; done)))) ?_
      refine hK.out _ _ ⟨(by rw [ha.out]; exact putSel_upk 4 hb_ rfl rfl rfl), Q_HB, Q_R1, Q_R2⟩
    refine steps_cons ?_ ?_
    · rintro b a w' ⟨ha, Q_HB, Q_R1, Q_R2⟩ hb_ hon hoff
      refine ⟨_, rfl, fun K hK => ?_⟩
      have e52 : a.tmps[52]? = some ((.bool true)) := by rw [ha]; exact putSel_on (e := (2, 52, (.bool true))) 2 rfl rfl (hon 2 (by kernel_rfl)) rfl
      replace ha := Aside0.mk ha
      have HB := Aside0.mk Q_HB
      have R1 := Aside0.mk Q_R1
      have R2 := Aside0.mk Q_R2
      refine off_ (wanted_off rfl rfl rfl (e52.trans (by first | rfl | (simp [*]; done)))) ?_
      refine hK.out _ _ ⟨(by rw [ha.out]; exact putSel_upk 5 hb_ rfl rfl rfl), Q_HB, Q_R1, Q_R2⟩
    refine steps_cons ?_ ?_
    · rintro b a w' ⟨ha, Q_HB, Q_R1, Q_R2⟩ hb_ hon hoff
      refine ⟨_, rfl, fun K hK => ?_⟩
      have e52 : a.tmps[52]? = some ((.bool true)) := by rw [ha]; exact putSel_on (e := (2, 52, (.bool true))) 2 rfl rfl (hon 2 (by kernel_rfl)) rfl
      replace ha := Aside0.mk ha
      have HB := Aside0.mk Q_HB
      have R1 := Aside0.mk Q_R1
      have R2 := Aside0.mk Q_R2
      refine off_ (wanted_off rfl rfl rfl (e52.trans (by first | rfl | (simp [*]; done)))) ?_
      refine hK.out _ _ ⟨(by rw [ha.out]; exact putSel_upk 6 hb_ rfl rfl rfl), Q_HB, Q_R1, Q_R2⟩
    refine steps_cons ?_ ?_
    · rintro b a w' ⟨ha, Q_HB, Q_R1, Q_R2⟩ hb_ hon hoff
      refine ⟨_, rfl, fun K hK => ?_⟩
      have e52 : a.tmps[52]? = some ((.bool true)) := by rw [ha]; exact putSel_on (e := (2, 52, (.bool true))) 2 rfl rfl (hon 2 (by kernel_rfl)) rfl
      replace ha := Aside0.mk ha
      have HB := Aside0.mk Q_HB
      have R1 := Aside0.mk Q_R1
      have R2 := Aside0.mk Q_R2
      refine off_ (wanted_off rfl rfl rfl (e52.trans (by first | rfl | (simp [*]; done)))) ?_
      refine hK.out _ _ ⟨(by rw [ha.out]; exact putSel_upk 7 hb_ rfl rfl rfl), Q_HB, Q_R1, Q_R2⟩
    refine steps_cons ?_ ?_
    · rintro b a w' ⟨ha, Q_HB, Q_R1, Q_R2⟩ hb_ hon hoff
      refine ⟨_, rfl, fun K hK => ?_⟩
      have e52 : a.tmps[52]? = some ((.bool true)) := by rw [ha]; exact putSel_on (e := (2, 52, (.bool true))) 2 rfl rfl (hon 2 (by kernel_rfl)) rfl
      replace ha := Aside0.mk ha
      have HB := Aside0.mk Q_HB
      have R1 := Aside0.mk Q_R1
      have R2 := Aside0.mk Q_R2
      refine off_ (wanted_off rfl rfl rfl (e52.trans (by first | rfl | (simp [*]; done)))) ?_
      refine hK.out _ _ ⟨(by rw [ha.out]; exact putSel_upk 8 hb_ rfl rfl rfl), Q_HB, Q_R1, Q_R2⟩
    refine steps_cons ?_ ?_
    · rintro b a w' ⟨ha, Q_HB, Q_R1, Q_R2⟩ hb_ hon hoff
      refine ⟨_, rfl, fun K hK => ?_⟩
      have e52 : a.tmps[52]? = some ((.bool true)) := by rw [ha]; exact putSel_on (e := (2, 52, (.bool true))) 2 rfl rfl (hon 2 (by kernel_rfl)) rfl
      replace ha := Aside0.mk ha
      have HB := Aside0.mk Q_HB
      have R1 := Aside0.mk Q_R1
      have R2 := Aside0.mk Q_R2
      refine off_ (wanted_off rfl rfl rfl (e52.trans (by first | rfl | (simp [*]; done)))) ?_
      refine hK.out _ _ ⟨(by rw [ha.out]; exact putSel_upk 9 hb_ rfl rfl rfl), Q_HB, Q_R1, Q_R2⟩
    refine steps_cons ?_ ?_
    · rintro b a w' ⟨ha, Q_HB, Q_R1, Q_R2⟩ hb_ hon hoff
      refine ⟨_, rfl, fun K hK => ?_⟩
      have e52 : a.tmps[52]? = some ((.bool true)) := by rw [ha]; exact putSel_on (e := (2, 52, (.bool true))) 2 rfl rfl (hon 2 (by kernel_rfl)) rfl
      replace ha := Aside0.mk ha
      have HB := Aside0.mk Q_HB
      have R1 := Aside0.mk Q_R1
      have R2 := Aside0.mk Q_R2
      refine off_ (wanted_off rfl rfl rfl (e52.trans (by first | rfl | (simp [*]; done)))) ?_
      refine hK.out _ _ ⟨(by rw [ha.out]; exact putSel_upk 10 hb_ rfl rfl rfl), Q_HB, Q_R1, Q_R2⟩
    refine steps_cons ?_ ?_
    · rintro b a w' ⟨ha, Q_HB, Q_R1, Q_R2⟩ hb_ hon hoff
      refine ⟨_, rfl, fun K hK => ?_⟩
      have e52 : a.tmps[52]? = some ((.bool true)) := by rw [ha]; exact putSel_on (e := (2, 52, (.bool true))) 2 rfl rfl (hon 2 (by kernel_rfl)) rfl
      have e60 : a.tmps[60]? = some (undef) := by rw [ha]; exact putSel_on (e := (10, 60, undef)) 10 rfl rfl (hon 10 (by kernel_rfl)) rfl
      replace ha := Aside0.mk ha
      have HB := Aside0.mk Q_HB
      have R1 := Aside0.mk Q_R1
      have R2 := Aside0.mk Q_R2
      refine value_ (w1 := w') (v := (.bool true)) (by rfl) rfl ?_ ?_
      · go_simp
        (try simp only [i64_w])
        try rfl
      refine hK.out _ _ ⟨(by rw [ha.out]; exact putSel_upk 11 hb_ rfl rfl rfl), Q_HB, Q_R1, Q_R2⟩
    refine steps_cons ?_ ?_
    · rintro b a w' ⟨ha, Q_HB, Q_R1, Q_R2⟩ hb_ hon hoff
      refine ⟨_, rfl, fun K hK => ?_⟩
      have e61 : a.tmps[61]? = some ((.bool true)) := by rw [ha]; exact putSel_on (e := (11, 61, (.bool true))) 11 rfl rfl (hon 11 (by kernel_rfl)) rfl
      replace ha := Aside0.mk ha
      have HB := Aside0.mk Q_HB
      have R1 := Aside0.mk Q_R1
      have R2 := Aside0.mk Q_R2
      refine value_ (w1 := w') (v := (.bool true)) (by rfl) rfl ?_ ?_
      · go_simp
        (try simp only [i64_w])
        try rfl
      refine hK.out _ _ ⟨(by rw [ha.out]; exact putSel_upk 12 hb_ rfl rfl rfl), Q_HB, Q_R1, Q_R2⟩
    refine steps_cons ?_ ?_
    · rintro b a w' ⟨ha, Q_HB, Q_R1, Q_R2⟩ hb_ hon hoff
      refine ⟨_, rfl, fun K hK => ?_⟩
      have e4 : a.tmps[4]? = some ((.pointer (some ⟨g + 1, 0, none⟩))) := by rw [ha]; exact (putSel_off rfl).trans rfl
      have e62 : a.tmps[62]? = some ((.bool true)) := by rw [ha]; exact putSel_on (e := (12, 62, (.bool true))) 12 rfl rfl (hon 12 (by kernel_rfl)) rfl
      replace ha := Aside0.mk ha
      have HB := Aside0.mk Q_HB
      have R1 := Aside0.mk Q_R1
      have R2 := Aside0.mk Q_R2
      refine value_ (w1 := w') (v := (.pointer (some ⟨g + 1, 0, none⟩))) (wanted_on rfl rfl rfl (e62.trans (by first | rfl | (simp [*]; done)))) rfl ?_ ?_
      · go_simp
        (try simp only [i64_w])
        try rfl
      refine hK.out _ _ ⟨(by rw [ha.out]; exact putSel_upk 13 hb_ rfl rfl rfl), Q_HB, Q_R1, Q_R2⟩
    refine steps_cons ?_ ?_
    · rintro b a w' ⟨ha, Q_HB, Q_R1, Q_R2⟩ hb_ hon hoff
      refine ⟨_, rfl, fun K hK => ?_⟩
      have e63 : a.tmps[63]? = some ((.pointer (some ⟨g + 1, 0, none⟩))) := by rw [ha]; exact putSel_on (e := (13, 63, (.pointer (some ⟨g + 1, 0, none⟩)))) 13 rfl rfl (hon 13 (by kernel_rfl)) rfl
      have e62 : a.tmps[62]? = some ((.bool true)) := by rw [ha]; exact putSel_on (e := (12, 62, (.bool true))) 12 rfl rfl (hon 12 (by kernel_rfl)) rfl
      replace ha := Aside0.mk ha
      have HB := Aside0.mk Q_HB
      have R1 := Aside0.mk Q_R1
      have R2 := Aside0.mk Q_R2
      refine goes_ Try.func33 (by kernel_rfl) rfl #[.pointer (some ⟨g + 1, 0, none⟩)] (wanted_on rfl rfl rfl (e62.trans (by first | rfl | (simp [*]; done)))) rfl rfl (by first | (simp only [List.map_toArray, List.map_cons, List.map_nil, Act.eval, Array.getD_eq_getD_getElem?, Option.getD_some, e63, e62]; done) | (simp only [List.map_toArray, List.map_cons, List.map_nil, Act.eval, Array.getD_eq_getD_getElem?, Option.getD_some, e63, e62]; rfl)) ?_
      refine (VaryR.nBad (g + 1) _ _ l0 0 true R2.out).mono ?_
      rintro e w1_ ⟨rfl, hw⟩
      refine ⟨_, rfl, ?_⟩
      subst hw
      refine hK.out _ _ ⟨(by rw [ha.out]; exact putSel_upk 14 hb_ rfl rfl rfl), below_step HB.out (Below.refl _ _), R1.out.below (Below.refl _ _), R2.out.below (Below.refl _ _)⟩
    refine steps_cons ?_ ?_
    · rintro b a w' ⟨ha, Q_HB, Q_R1, Q_R2⟩ hb_ hon hoff
      refine ⟨_, rfl, fun K hK => ?_⟩
      have e3 : a.tmps[3]? = some ((.pointer (some ⟨g, 0, none⟩))) := by rw [ha]; exact (putSel_off rfl).trans rfl
      have e62 : a.tmps[62]? = some ((.bool true)) := by rw [ha]; exact putSel_on (e := (12, 62, (.bool true))) 12 rfl rfl (hon 12 (by kernel_rfl)) rfl
      replace ha := Aside0.mk ha
      have HB := Aside0.mk Q_HB
      have R1 := Aside0.mk Q_R1
      have R2 := Aside0.mk Q_R2
      refine value_ (w1 := w') (v := (.pointer (some ⟨g, 0, none⟩))) (wanted_on rfl rfl rfl (e62.trans (by first | rfl | (simp [*]; done)))) rfl ?_ ?_
      · go_simp
        (try simp only [i64_w])
        try rfl
      refine hK.out _ _ ⟨(by rw [ha.out]; exact putSel_upk 15 hb_ rfl rfl rfl), Q_HB, Q_R1, Q_R2⟩
    refine steps_cons ?_ ?_
    · rintro b a w' ⟨ha, Q_HB, Q_R1, Q_R2⟩ hb_ hon hoff
      refine ⟨_, rfl, fun K hK => ?_⟩
      have e65 : a.tmps[65]? = some ((.pointer (some ⟨g, 0, none⟩))) := by rw [ha]; exact putSel_on (e := (15, 65, (.pointer (some ⟨g, 0, none⟩)))) 15 rfl rfl (hon 15 (by kernel_rfl)) rfl
      have e62 : a.tmps[62]? = some ((.bool true)) := by rw [ha]; exact putSel_on (e := (12, 62, (.bool true))) 12 rfl rfl (hon 12 (by kernel_rfl)) rfl
      replace ha := Aside0.mk ha
      have HB := Aside0.mk Q_HB
      have R1 := Aside0.mk Q_R1
      have R2 := Aside0.mk Q_R2
      refine goes_ Try.func33 (by kernel_rfl) rfl #[.pointer (some ⟨g, 0, none⟩)] (wanted_on rfl rfl rfl (e62.trans (by first | rfl | (simp [*]; done)))) rfl rfl (by first | (simp only [List.map_toArray, List.map_cons, List.map_nil, Act.eval, Array.getD_eq_getD_getElem?, Option.getD_some, e65, e62]; done) | (simp only [List.map_toArray, List.map_cons, List.map_nil, Act.eval, Array.getD_eq_getD_getElem?, Option.getD_some, e65, e62]; rfl)) ?_
      refine (VaryR.nBad g _ _ l0 0 true R1.out).mono ?_
      rintro e w1_ ⟨rfl, hw⟩
      refine ⟨_, rfl, ?_⟩
      subst hw
      refine hK.out _ _ ⟨(by rw [ha.out]; exact putSel_upk 16 hb_ rfl rfl rfl), below_step HB.out (Below.refl _ _), R1.out.below (Below.refl _ _), R2.out.below (Below.refl _ _)⟩
    refine steps_cons ?_ ?_
    · rintro b a w' ⟨ha, Q_HB, Q_R1, Q_R2⟩ hb_ hon hoff
      refine ⟨_, rfl, fun K hK => ?_⟩
      have e64 : a.tmps[64]? = some ((.bool true)) := by rw [ha]; exact putSel_on (e := (14, 64, (.bool true))) 14 rfl rfl (hon 14 (by kernel_rfl)) rfl
      have e66 : a.tmps[66]? = some ((.bool true)) := by rw [ha]; exact putSel_on (e := (16, 66, (.bool true))) 16 rfl rfl (hon 16 (by kernel_rfl)) rfl
      have e62 : a.tmps[62]? = some ((.bool true)) := by rw [ha]; exact putSel_on (e := (12, 62, (.bool true))) 12 rfl rfl (hon 12 (by kernel_rfl)) rfl
      replace ha := Aside0.mk ha
      have HB := Aside0.mk Q_HB
      have R1 := Aside0.mk Q_R1
      have R2 := Aside0.mk Q_R2
      refine value_ (w1 := w') (v := (.bool true)) (wanted_on rfl rfl rfl (e62.trans (by first | rfl | (simp [*]; done)))) rfl ?_ ?_
      · go_simp
        (try simp only [i64_w])
        try rfl
      refine hK.out _ _ ⟨(by rw [ha.out]; exact putSel_upk 17 hb_ rfl rfl rfl), Q_HB, Q_R1, Q_R2⟩
    refine steps_cons ?_ ?_
    · rintro b a w' ⟨ha, Q_HB, Q_R1, Q_R2⟩ hb_ hon hoff
      refine ⟨_, rfl, fun K hK => ?_⟩
      have e62 : a.tmps[62]? = some ((.bool true)) := by rw [ha]; exact putSel_on (e := (12, 62, (.bool true))) 12 rfl rfl (hon 12 (by kernel_rfl)) rfl
      have e67 : a.tmps[67]? = some ((.bool true)) := by rw [ha]; exact putSel_on (e := (17, 67, (.bool true))) 17 rfl rfl (hon 17 (by kernel_rfl)) rfl
      replace ha := Aside0.mk ha
      have HB := Aside0.mk Q_HB
      have R1 := Aside0.mk Q_R1
      have R2 := Aside0.mk Q_R2
      refine value_ (w1 := w') (v := (.bool true)) (by rfl) rfl ?_ ?_
      · go_simp
        (try simp only [i64_w])
        try rfl
      refine hK.out _ _ ⟨(by rw [ha.out]; exact putSel_upk 18 hb_ rfl rfl rfl), Q_HB, Q_R1, Q_R2⟩
    refine steps_cons ?_ ?_
    · rintro b a w' ⟨ha, Q_HB, Q_R1, Q_R2⟩ hb_ hon hoff
      refine ⟨_, rfl, fun K hK => ?_⟩
      have e68 : a.tmps[68]? = some ((.bool true)) := by rw [ha]; exact putSel_on (e := (18, 68, (.bool true))) 18 rfl rfl (hon 18 (by kernel_rfl)) rfl
      replace ha := Aside0.mk ha
      have HB := Aside0.mk Q_HB
      have R1 := Aside0.mk Q_R1
      have R2 := Aside0.mk Q_R2
      refine value_ (w1 := w') (v := (.bool true)) (by rfl) rfl ?_ ?_
      · go_simp
        (try simp only [i64_w])
        try rfl
      refine hK.out _ _ ⟨(by rw [ha.out]; exact putSel_upk 19 hb_ rfl rfl rfl), Q_HB, Q_R1, Q_R2⟩
    refine steps_cons ?_ ?_
    · rintro b a w' ⟨ha, Q_HB, Q_R1, Q_R2⟩ hb_ hon hoff
      refine ⟨_, rfl, fun K hK => ?_⟩
      have e69 : a.tmps[69]? = some ((.bool true)) := by rw [ha]; exact putSel_on (e := (19, 69, (.bool true))) 19 rfl rfl (hon 19 (by kernel_rfl)) rfl
      replace ha := Aside0.mk ha
      have HB := Aside0.mk Q_HB
      have R1 := Aside0.mk Q_R1
      have R2 := Aside0.mk Q_R2
      refine goes_ Try.func22 (by kernel_rfl) rfl #[] (wanted_on rfl rfl rfl (e69.trans (by first | rfl | (simp [*]; done)))) rfl rfl (by first | (simp only [List.map_toArray, List.map_cons, List.map_nil, Act.eval, Array.getD_eq_getD_getElem?, Option.getD_some, e69]; done) | (simp only [List.map_toArray, List.map_cons, List.map_nil, Act.eval, Array.getD_eq_getD_getElem?, Option.getD_some, e69]; rfl)) ?_
      refine (VaryLives.lives_c _).mono ?_
      rintro e w1_ ⟨rfl, hb⟩
      refine ⟨_, rfl, ?_⟩
      refine hK.out _ _ ⟨(by rw [ha.out]; exact putSel_upk 20 hb_ rfl rfl rfl), below_step HB.out hb, R1.out.below hb, R2.out.below hb⟩
    refine steps_cons ?_ ?_
    · rintro b a w' ⟨ha, Q_HB, Q_R1, Q_R2⟩ hb_ hon hoff
      refine ⟨_, rfl, fun K hK => ?_⟩
      have e69 : a.tmps[69]? = some ((.bool true)) := by rw [ha]; exact putSel_on (e := (19, 69, (.bool true))) 19 rfl rfl (hon 19 (by kernel_rfl)) rfl
      have e70 : a.tmps[70]? = some ((.bool true)) := by rw [ha]; exact putSel_on (e := (20, 70, (.bool true))) 20 rfl rfl (hon 20 (by kernel_rfl)) rfl
      replace ha := Aside0.mk ha
      have HB := Aside0.mk Q_HB
      have R1 := Aside0.mk Q_R1
      have R2 := Aside0.mk Q_R2
      refine value_ (w1 := w') (v := (.bool true)) (by rfl) rfl ?_ ?_
      · go_simp
        (try simp only [i64_w])
        try rfl
      refine hK.out _ _ ⟨(by rw [ha.out]; exact putSel_upk 21 hb_ rfl rfl rfl), Q_HB, Q_R1, Q_R2⟩
    refine steps_cons ?_ ?_
    · rintro b a w' ⟨ha, Q_HB, Q_R1, Q_R2⟩ hb_ hon hoff
      refine ⟨_, rfl, fun K hK => ?_⟩
      have e71 : a.tmps[71]? = some ((.bool true)) := by rw [ha]; exact putSel_on (e := (21, 71, (.bool true))) 21 rfl rfl (hon 21 (by kernel_rfl)) rfl
      replace ha := Aside0.mk ha
      have HB := Aside0.mk Q_HB
      have R1 := Aside0.mk Q_R1
      have R2 := Aside0.mk Q_R2
      refine value_ (w1 := w') (v := (.bool true)) (by rfl) rfl ?_ ?_
      · go_simp
        (try simp only [i64_w])
        try rfl
      refine hK.out _ _ ⟨(by rw [ha.out]; exact putSel_upk 22 hb_ rfl rfl rfl), Q_HB, Q_R1, Q_R2⟩
    exact steps_nil
  rintro b a w9 hall ⟨ha, Q_HB, Q_R1, Q_R2⟩
  clear HB R1 R2
  have hb0_ := hall 0 (by kernel_rfl)
  have hb1_ := hall 1 (by kernel_rfl)
  have hb2_ := hall 2 (by kernel_rfl)
  have hb3_ := hall 3 (by kernel_rfl)
  have hb4_ := hall 4 (by kernel_rfl)
  have hb5_ := hall 5 (by kernel_rfl)
  have hb6_ := hall 6 (by kernel_rfl)
  have hb7_ := hall 7 (by kernel_rfl)
  have hb8_ := hall 8 (by kernel_rfl)
  have hb9_ := hall 9 (by kernel_rfl)
  have hb10_ := hall 10 (by kernel_rfl)
  have hb11_ := hall 11 (by kernel_rfl)
  have hb12_ := hall 12 (by kernel_rfl)
  have hb13_ := hall 13 (by kernel_rfl)
  have hb14_ := hall 14 (by kernel_rfl)
  have hb15_ := hall 15 (by kernel_rfl)
  have hb16_ := hall 16 (by kernel_rfl)
  have hb17_ := hall 17 (by kernel_rfl)
  have hb18_ := hall 18 (by kernel_rfl)
  have hb19_ := hall 19 (by kernel_rfl)
  have hb20_ := hall 20 (by kernel_rfl)
  have hb21_ := hall 21 (by kernel_rfl)
  have hb22_ := hall 22 (by kernel_rfl)
  subst ha
  simp only [putSel, hb0_, hb1_, hb2_, hb3_, hb4_, hb5_, hb6_, hb7_, hb8_, hb9_, hb10_, hb11_, hb12_, hb13_, hb14_, hb15_, hb16_, hb17_, hb18_, hb19_, hb20_, hb21_, hb22_, if_true, Act.put, List.setIfInBounds_toArray, List.set_cons_zero, List.set_cons_succ]
  have HB := Aside0.mk Q_HB
  clear Q_HB
  have R1 := Aside0.mk Q_R1
  clear Q_R1
  have R2 := Aside0.mk Q_R2
  clear Q_R2
  clear hall hb0_ hb1_ hb2_ hb3_ hb4_ hb5_ hb6_ hb7_ hb8_ hb9_ hb10_ hb11_ hb12_ hb13_ hb14_ hb15_ hb16_ hb17_ hb18_ hb19_ hb20_ hb21_ hb22_
  go_wp2_with fail
  go_ret
  exact ⟨rfl, HB.out⟩
set_option maxHeartbeats 8000000 in
set_option maxRecDepth 100000 in
theorem variorumlaw01_VaryOne.some_ (A0 : Option Addr) (c0 : Nat) (l0 : List Int) (w : World) (h0 : Own.Sl w (.slice A0 l0.length c0) l0) (hok : Byt.Ok l0) (hlen : l0.length ≤ 4000) (k m : Nat) (hk : (Vy.numL l0).2 = k) (hk0 : k ≠ 0) (hm : (Vy.numL l0).1 = (m : Int)) (ht : l0.take k = Vy.enc m) (hM : (m : Int) ≤ Vy.M) (hkl : k ≤ l0.length) :
    Calls Try.prog 9 #[.slice A0 l0.length c0] w fun e w' => e = .returned (.bool true) ∧ Below w.heap.size w w' := by
  have H0 := Aside0.mk h0
  have HO := Aside0.mk hok
  have g1 : ¬ ((4000 : Int) < (l0.length : Int)) := by omega
  have g2 : (l0.length : Int) ≤ 4000 := by omega
  have HL := Aside0.mk hlen
  have HK := Aside0.mk hk
  have HK0 := Aside0.mk hk0
  have HMM := Aside0.mk hm
  have HT := Aside0.mk (fun (w' : World) (h : Own.Sl w' (.slice A0 l0.length c0) l0) => (ht ▸ h.take k hkl : Own.Sl w' (.slice A0 k c0) (Vy.enc m)))
  have HM := Aside0.mk hM
  have HP1 := Aside0.mk (show Vy.putL [] (m : Int) = Vy.enc m by rw [Vy.putL_good hM, List.nil_append])
  have HP2 := Aside0.mk (Vy.putSL_zag hM)
  have hc0 := h0.toC.2.1
  obtain ⟨i0, hi0, _, hsz, _⟩ := info_parts info5
  have HCUT := Aside0.mk (cut_to (P := Try.prog) 22 5 .i64 Try.underlying22 hi0 A0 l0.length c0 (k : Int) (by omega) (by omega) hc0)
  clear h0 hlen hk hk0 hm ht hM hi0 hsz
  go_enter Try.func9, Try.ntmps9
  go_wp2_with fail
  refine (VaryR.nRead _ _ l0 H0.out (by have := HL.out; omega)).mono ?_
  rintro e w1 ⟨rfl, r1, b1, s1⟩
  have R1 := Aside0.mk r1
  have HB1 := Aside0.mk b1
  have S1 := Aside0.mk s1
  have H1 := Aside0.mk (H0.out.below b1)
  clear r1 b1 s1
  go_wp2_with fail
  refine (VaryR.nRead _ _ l0 H1.out (by have := HL.out; omega)).mono ?_
  rintro e w2 ⟨rfl, r2, b2, s2⟩
  have R2 := Aside0.mk r2
  have R1' := Aside0.mk (R1.out.below b2)
  have HB := Aside0.mk (HB1.out.trans (b2.mono (by have := S1.out; omega)))
  have H2 := Aside0.mk (H1.out.below b2)
  clear r2 b2 s2 R1 HB1 H1
  rw [S1.out] at R2 ⊢
  clear S1
  obtain ⟨g, hg⟩ : ∃ g, g = w.heap.size := ⟨_, rfl⟩
  have HG := Aside0.mk (show w.heap.size ≤ g by omega)
  have HGE := Aside0.mk hg
  rw [← hg] at R1' R2 ⊢
  clear hg
  go_wp2_with fail
  refine (variorumlaw01_VaryOne.rnum R1'.out HO.out).mono ?_
  rintro e w3 ⟨rfl, r1, r1', b3⟩
  have R2' := Aside0.mk (R2.out.but b3 (by omega) R1'.out.noByte)
  have H3 := Aside0.mk (VaryR.Sl.but H2.out b3 R1'.out.noByte)
  have HB3 := Aside0.mk (VaryR.But.step b3 HB.out HG.out (Nat.le_refl _))
  have R1 := Aside0.mk (HK.out ▸ r1' (by rw [HK.out]; exact HK0.out))
  clear r1 r1' b3 R2 H2 HB R1'
  rw [HMM.out]
  obtain ⟨q, hq⟩ : ∃ q, q = l0.length - k := ⟨_, rfl⟩
  have hql : (q : Int) + (k : Int) = (l0.length : Int) := by omega
  have HQL := Aside0.mk (show (l0.length : Int) - (q : Int) = (k : Int) by omega)
  have HQ := Aside0.mk hq
  clear hq
  go_wp2_with fail
  refine (VaryR.nLeft g _ _ l0 k false R1.out).mono ?_
  rintro e w4 ⟨rfl, n4, rfl⟩
  rw [show VaryR.leftL l0 k false = q from HQ.out.symm]
  have R1d := Aside0.mk (R1.out.below (pw_below_drewN (Below.refl _ _) n4))
  have R2d := Aside0.mk (R2'.out.below (pw_below_drewN (Below.refl _ _) n4))
  have H4 := Aside0.mk (H3.out.drewN n4)
  have HB4 := Aside0.mk (pw_below_drewN HB3.out n4)
  clear R1 R2' H3 HB3
  obtain ⟨w4, hw4⟩ : ∃ w4, w4 = w3.drewN n4 := ⟨_, rfl⟩
  rw [← hw4] at R1d R2d H4 HB4 ⊢
  clear hw4
  go_wp2_with fail
  rw [HQL.out]
  refine start_ (n := 13) (S := fun w' => True) (ds := []) #[false, false, false, false, false, false, false, false, false, false, false, false, false] (by kernel_rfl) rfl rfl trivial (fun hHeld => ?_); refine with_tabW variorumlaw01_VaryOne.tab8 variorumlaw01_VaryOne.bits8 (fun HT_ HW_ => ?_)
  refine inv_at [0, 1, 2, 3, 4, 5, 6, 7, 8, 9, 10, 11, 12] (fun a0_ b a w' => ∃ (v35 : Value), a = putSel a0_ b [(0, 30, (.pointer (some ⟨g, 0, none⟩))), (1, 31, (.bool false)), (2, 32, (.bool true)), (3, 33, (.bool true)), (4, 34, (.int .i64 (m : Int))), (5, 35, v35), (6, 36, (.string (strOfNums (Vy.enc m)))), (7, 37, (.slice A0 l0.length c0)), (8, 38, (.int .i64 (k : Int))), (9, 39, (.slice A0 k c0)), (10, 40, (.string (strOfNums (Vy.enc m)))), (11, 41, (.bool false)), (12, 42, (.bool false))] ∧ (Own.Sl w' (.slice A0 l0.length c0) l0) ∧ (Below w.heap.size w w') ∧ (VaryR.Rd g w' (.slice A0 l0.length c0) l0 k false) ∧ (VaryR.Rd (g + 1) w' (.slice A0 l0.length c0) l0 0 false) ∧ (b 5 = true → Own.Sl w' v35 (Vy.enc m))) HT_.out HW_.out (by kernel_rfl) (by kernel_rfl) ?_ ?_ ?_
  · exact ⟨.bool false, by simp only [putSel, Bool.false_eq_true, if_false], H4.out.drew, below_drew1 HB4.out, R1d.out.below (below_drew1 (Below.refl _ _)), R2d.out.below (below_drew1 (Below.refl _ _)), fun h_ => absurd h_ (by decide)⟩
  · skip
    clear H4 HB4 R1d R2d
    refine steps_cons ?_ ?_
    · rintro b a w' ⟨v35, ha, Q_H4, Q_HB4, Q_R1d, Q_R2d, Q_S35⟩ hb_ hon hoff
      refine ⟨_, rfl, fun K hK => ?_⟩
      have e3 : a.tmps[3]? = some ((.pointer (some ⟨g, 0, none⟩))) := by rw [ha]; exact (putSel_off rfl).trans rfl
      replace ha := Aside0.mk ha
      have H4 := Aside0.mk Q_H4
      have HB4 := Aside0.mk Q_HB4
      have R1d := Aside0.mk Q_R1d
      have R2d := Aside0.mk Q_R2d
      refine value_ (w1 := w') (v := (.pointer (some ⟨g, 0, none⟩))) (by rfl) rfl ?_ ?_
      · go_simp
        (try simp only [i64_w])
        try rfl
      refine hK.out _ _ ⟨v35, (by rw [ha.out]; exact putSel_upk 0 hb_ rfl rfl rfl), Q_H4, Q_HB4, Q_R1d, Q_R2d, fun h0_ => absurd ((hoff 5 (by kernel_rfl)).symm.trans h0_) (by decide)⟩
    refine steps_cons ?_ ?_
    · rintro b a w' ⟨v35, ha, Q_H4, Q_HB4, Q_R1d, Q_R2d, Q_S35⟩ hb_ hon hoff
      refine ⟨_, rfl, fun K hK => ?_⟩
      have e30 : a.tmps[30]? = some ((.pointer (some ⟨g, 0, none⟩))) := by rw [ha]; exact putSel_on (e := (0, 30, (.pointer (some ⟨g, 0, none⟩)))) 0 rfl rfl (hon 0 (by kernel_rfl)) rfl
      replace ha := Aside0.mk ha
      have H4 := Aside0.mk Q_H4
      have HB4 := Aside0.mk Q_HB4
      have R1d := Aside0.mk Q_R1d
      have R2d := Aside0.mk Q_R2d
      refine goes_ Try.func33 (by kernel_rfl) rfl #[.pointer (some ⟨g, 0, none⟩)] (by rfl) rfl rfl (by first | (simp only [List.map_toArray, List.map_cons, List.map_nil, Act.eval, Array.getD_eq_getD_getElem?, Option.getD_some, e30]; done) | (simp only [List.map_toArray, List.map_cons, List.map_nil, Act.eval, Array.getD_eq_getD_getElem?, Option.getD_some, e30]; rfl)) ?_
      refine (VaryR.nBad g _ _ l0 k false R1d.out).mono ?_
      rintro e w1_ ⟨rfl, hw⟩
      refine ⟨_, rfl, ?_⟩
      subst hw
      refine hK.out _ _ ⟨v35, (by rw [ha.out]; exact putSel_upk 1 hb_ rfl rfl rfl), H4.out.below (Below.refl _ _), below_step HB4.out (Below.refl _ _), R1d.out.below (Below.refl _ _), R2d.out.below (Below.refl _ _), fun h0_ => absurd ((hoff 5 (by kernel_rfl)).symm.trans h0_) (by decide)⟩
    refine steps_cons ?_ ?_
    · rintro b a w' ⟨v35, ha, Q_H4, Q_HB4, Q_R1d, Q_R2d, Q_S35⟩ hb_ hon hoff
      refine ⟨_, rfl, fun K hK => ?_⟩
      have e31 : a.tmps[31]? = some ((.bool false)) := by rw [ha]; exact putSel_on (e := (1, 31, (.bool false))) 1 rfl rfl (hon 1 (by kernel_rfl)) rfl
      replace ha := Aside0.mk ha
      have H4 := Aside0.mk Q_H4
      have HB4 := Aside0.mk Q_HB4
      have R1d := Aside0.mk Q_R1d
      have R2d := Aside0.mk Q_R2d
      refine value_ (w1 := w') (v := (.bool true)) (by rfl) rfl ?_ ?_
      · go_simp
        (try simp only [i64_w])
        try rfl
      refine hK.out _ _ ⟨v35, (by rw [ha.out]; exact putSel_upk 2 hb_ rfl rfl rfl), Q_H4, Q_HB4, Q_R1d, Q_R2d, fun h0_ => absurd ((hoff 5 (by kernel_rfl)).symm.trans h0_) (by decide)⟩
    refine steps_cons ?_ ?_
    · rintro b a w' ⟨v35, ha, Q_H4, Q_HB4, Q_R1d, Q_R2d, Q_S35⟩ hb_ hon hoff
      refine ⟨_, rfl, fun K hK => ?_⟩
      have e32 : a.tmps[32]? = some ((.bool true)) := by rw [ha]; exact putSel_on (e := (2, 32, (.bool true))) 2 rfl rfl (hon 2 (by kernel_rfl)) rfl
      replace ha := Aside0.mk ha
      have H4 := Aside0.mk Q_H4
      have HB4 := Aside0.mk Q_HB4
      have R1d := Aside0.mk Q_R1d
      have R2d := Aside0.mk Q_R2d
      refine value_ (w1 := w') (v := (.bool true)) (by rfl) rfl ?_ ?_
      · go_simp
        (try simp only [i64_w])
        try rfl
      refine hK.out _ _ ⟨v35, (by rw [ha.out]; exact putSel_upk 3 hb_ rfl rfl rfl), Q_H4, Q_HB4, Q_R1d, Q_R2d, fun h0_ => absurd ((hoff 5 (by kernel_rfl)).symm.trans h0_) (by decide)⟩
    refine steps_cons ?_ ?_
    · rintro b a w' ⟨v35, ha, Q_H4, Q_HB4, Q_R1d, Q_R2d, Q_S35⟩ hb_ hon hoff
      refine ⟨_, rfl, fun K hK => ?_⟩
      have e5 : a.tmps[5]? = some ((.int .i64 (m : Int))) := by rw [ha]; exact (putSel_off rfl).trans rfl
      have e33 : a.tmps[33]? = some ((.bool true)) := by rw [ha]; exact putSel_on (e := (3, 33, (.bool true))) 3 rfl rfl (hon 3 (by kernel_rfl)) rfl
      replace ha := Aside0.mk ha
      have H4 := Aside0.mk Q_H4
      have HB4 := Aside0.mk Q_HB4
      have R1d := Aside0.mk Q_R1d
      have R2d := Aside0.mk Q_R2d
      refine value_ (w1 := w') (v := (.int .i64 (m : Int))) (wanted_on rfl rfl rfl (e33.trans (by first | rfl | (simp [*]; done)))) rfl ?_ ?_
      · go_simp
        (try simp only [i64_w])
        try rfl
      refine hK.out _ _ ⟨v35, (by rw [ha.out]; exact putSel_upk 4 hb_ rfl rfl rfl), Q_H4, Q_HB4, Q_R1d, Q_R2d, fun h0_ => absurd ((hoff 5 (by kernel_rfl)).symm.trans h0_) (by decide)⟩
    refine steps_cons ?_ ?_
    · rintro b a w' ⟨v35, ha, Q_H4, Q_HB4, Q_R1d, Q_R2d, Q_S35⟩ hb_ hon hoff
      refine ⟨_, rfl, fun K hK => ?_⟩
      have e34 : a.tmps[34]? = some ((.int .i64 (m : Int))) := by rw [ha]; exact putSel_on (e := (4, 34, (.int .i64 (m : Int)))) 4 rfl rfl (hon 4 (by kernel_rfl)) rfl
      have e33 : a.tmps[33]? = some ((.bool true)) := by rw [ha]; exact putSel_on (e := (3, 33, (.bool true))) 3 rfl rfl (hon 3 (by kernel_rfl)) rfl
      replace ha := Aside0.mk ha
      have H4 := Aside0.mk Q_H4
      have HB4 := Aside0.mk Q_HB4
      have R1d := Aside0.mk Q_R1d
      have R2d := Aside0.mk Q_R2d
      refine goes_ Try.func23 (by kernel_rfl) rfl #[(.slice none 0 0), .int .i64 (m : Int)] (wanted_on rfl rfl rfl (e33.trans (by first | rfl | (simp [*]; done)))) rfl rfl (by first | (simp only [List.map_toArray, List.map_cons, List.map_nil, Act.eval, Array.getD_eq_getD_getElem?, Option.getD_some, e34, e33]; done) | (simp only [List.map_toArray, List.map_cons, List.map_nil, Act.eval, Array.getD_eq_getD_getElem?, Option.getD_some, e34, e33]; rfl)) ?_
      refine (VaryP.nPut _ [] (m : Int) _ (Own.Sl.nil _) (by decide)).mono ?_
      rintro e w1_ ⟨v35, rfl, hg, hb⟩
      refine ⟨_, rfl, ?_⟩
      have hs := hg.sl
      rw [HP1.out] at hs
      clear hg
      refine hK.out _ _ ⟨v35, (by rw [ha.out]; exact putSel_upk 5 hb_ rfl rfl rfl), H4.out.below hb, below_step HB4.out hb, R1d.out.below hb, R2d.out.below hb, fun _ => hs⟩
    refine steps_cons ?_ ?_
    · rintro b a w' ⟨v35, ha, Q_H4, Q_HB4, Q_R1d, Q_R2d, Q_S35⟩ hb_ hon hoff
      refine ⟨_, rfl, fun K hK => ?_⟩
      have e35 : a.tmps[35]? = some (v35) := by rw [ha]; exact putSel_on (e := (5, 35, v35)) 5 rfl rfl (hon 5 (by kernel_rfl)) rfl
      have e33 : a.tmps[33]? = some ((.bool true)) := by rw [ha]; exact putSel_on (e := (3, 33, (.bool true))) 3 rfl rfl (hon 3 (by kernel_rfl)) rfl
      replace ha := Aside0.mk ha
      have H4 := Aside0.mk Q_H4
      have HB4 := Aside0.mk Q_HB4
      have R1d := Aside0.mk Q_R1d
      have R2d := Aside0.mk Q_R2d
      have S35 := Aside0.mk (Q_S35 (hon 5 (by kernel_rfl)))
      have hc_ := Own.Sl.string (P := Try.prog) Try.underlying22 Try.underlying5 Try.underlying9 S35.out
      refine value_ (w1 := w') (v := (.string (strOfNums (Vy.enc m)))) (wanted_on rfl rfl rfl (e33.trans (by first | rfl | (simp [*]; done)))) rfl ?_ ?_
      · go_simp
        (try simp only [i64_w])
        try rfl
      refine hK.out _ _ ⟨v35, (by rw [ha.out]; exact putSel_upk 6 hb_ rfl rfl rfl), Q_H4, Q_HB4, Q_R1d, Q_R2d, Q_S35⟩
    refine steps_cons ?_ ?_
    · rintro b a w' ⟨v35, ha, Q_H4, Q_HB4, Q_R1d, Q_R2d, Q_S35⟩ hb_ hon hoff
      refine ⟨_, rfl, fun K hK => ?_⟩
      have e0 : a.tmps[0]? = some ((.slice A0 l0.length c0)) := by rw [ha]; exact (putSel_off rfl).trans rfl
      have e33 : a.tmps[33]? = some ((.bool true)) := by rw [ha]; exact putSel_on (e := (3, 33, (.bool true))) 3 rfl rfl (hon 3 (by kernel_rfl)) rfl
      replace ha := Aside0.mk ha
      have H4 := Aside0.mk Q_H4
      have HB4 := Aside0.mk Q_HB4
      have R1d := Aside0.mk Q_R1d
      have R2d := Aside0.mk Q_R2d
      refine value_ (w1 := w') (v := (.slice A0 l0.length c0)) (wanted_on rfl rfl rfl (e33.trans (by first | rfl | (simp [*]; done)))) rfl ?_ ?_
      · go_simp
        (try simp only [i64_w])
        try rfl
      refine hK.out _ _ ⟨v35, (by rw [ha.out]; exact putSel_upk 7 hb_ rfl rfl rfl), Q_H4, Q_HB4, Q_R1d, Q_R2d, Q_S35⟩
    refine steps_cons ?_ ?_
    · rintro b a w' ⟨v35, ha, Q_H4, Q_HB4, Q_R1d, Q_R2d, Q_S35⟩ hb_ hon hoff
      refine ⟨_, rfl, fun K hK => ?_⟩
      have e6 : a.tmps[6]? = some ((.int .i64 (k : Int))) := by rw [ha]; exact (putSel_off rfl).trans rfl
      have e33 : a.tmps[33]? = some ((.bool true)) := by rw [ha]; exact putSel_on (e := (3, 33, (.bool true))) 3 rfl rfl (hon 3 (by kernel_rfl)) rfl
      replace ha := Aside0.mk ha
      have H4 := Aside0.mk Q_H4
      have HB4 := Aside0.mk Q_HB4
      have R1d := Aside0.mk Q_R1d
      have R2d := Aside0.mk Q_R2d
      refine value_ (w1 := w') (v := (.int .i64 (k : Int))) (wanted_on rfl rfl rfl (e33.trans (by first | rfl | (simp [*]; done)))) rfl ?_ ?_
      · go_simp
        (try simp only [i64_w])
        try rfl
      refine hK.out _ _ ⟨v35, (by rw [ha.out]; exact putSel_upk 8 hb_ rfl rfl rfl), Q_H4, Q_HB4, Q_R1d, Q_R2d, Q_S35⟩
    refine steps_cons ?_ ?_
    · rintro b a w' ⟨v35, ha, Q_H4, Q_HB4, Q_R1d, Q_R2d, Q_S35⟩ hb_ hon hoff
      refine ⟨_, rfl, fun K hK => ?_⟩
      have e37 : a.tmps[37]? = some ((.slice A0 l0.length c0)) := by rw [ha]; exact putSel_on (e := (7, 37, (.slice A0 l0.length c0))) 7 rfl rfl (hon 7 (by kernel_rfl)) rfl
      have e38 : a.tmps[38]? = some ((.int .i64 (k : Int))) := by rw [ha]; exact putSel_on (e := (8, 38, (.int .i64 (k : Int)))) 8 rfl rfl (hon 8 (by kernel_rfl)) rfl
      have e33 : a.tmps[33]? = some ((.bool true)) := by rw [ha]; exact putSel_on (e := (3, 33, (.bool true))) 3 rfl rfl (hon 3 (by kernel_rfl)) rfl
      replace ha := Aside0.mk ha
      have H4 := Aside0.mk Q_H4
      have HB4 := Aside0.mk Q_HB4
      have R1d := Aside0.mk Q_R1d
      have R2d := Aside0.mk Q_R2d
      have hc_ := HCUT.out
      rw [Int.toNat_natCast] at hc_
      refine value_ (w1 := w') (v := (.slice A0 k c0)) (wanted_on rfl rfl rfl (e33.trans (by first | rfl | (simp [*]; done)))) rfl ?_ ?_
      · go_simp
        (try simp only [i64_w])
        try rfl
      refine hK.out _ _ ⟨v35, (by rw [ha.out]; exact putSel_upk 9 hb_ rfl rfl rfl), Q_H4, Q_HB4, Q_R1d, Q_R2d, Q_S35⟩
    refine steps_cons ?_ ?_
    · rintro b a w' ⟨v35, ha, Q_H4, Q_HB4, Q_R1d, Q_R2d, Q_S35⟩ hb_ hon hoff
      refine ⟨_, rfl, fun K hK => ?_⟩
      have e39 : a.tmps[39]? = some ((.slice A0 k c0)) := by rw [ha]; exact putSel_on (e := (9, 39, (.slice A0 k c0))) 9 rfl rfl (hon 9 (by kernel_rfl)) rfl
      have e33 : a.tmps[33]? = some ((.bool true)) := by rw [ha]; exact putSel_on (e := (3, 33, (.bool true))) 3 rfl rfl (hon 3 (by kernel_rfl)) rfl
      replace ha := Aside0.mk ha
      have H4 := Aside0.mk Q_H4
      have HB4 := Aside0.mk Q_HB4
      have R1d := Aside0.mk Q_R1d
      have R2d := Aside0.mk Q_R2d
      have hc_ := Own.Sl.string (P := Try.prog) Try.underlying22 Try.underlying5 Try.underlying9 (HT.out _ H4.out)
      refine value_ (w1 := w') (v := (.string (strOfNums (Vy.enc m)))) (wanted_on rfl rfl rfl (e33.trans (by first | rfl | (simp [*]; done)))) rfl ?_ ?_
      · go_simp
        (try simp only [i64_w])
        try rfl
      refine hK.out _ _ ⟨v35, (by rw [ha.out]; exact putSel_upk 10 hb_ rfl rfl rfl), Q_H4, Q_HB4, Q_R1d, Q_R2d, Q_S35⟩
    refine steps_cons ?_ ?_
    · rintro b a w' ⟨v35, ha, Q_H4, Q_HB4, Q_R1d, Q_R2d, Q_S35⟩ hb_ hon hoff
      refine ⟨_, rfl, fun K hK => ?_⟩
      have e36 : a.tmps[36]? = some ((.string (strOfNums (Vy.enc m)))) := by rw [ha]; exact putSel_on (e := (6, 36, (.string (strOfNums (Vy.enc m))))) 6 rfl rfl (hon 6 (by kernel_rfl)) rfl
      have e40 : a.tmps[40]? = some ((.string (strOfNums (Vy.enc m)))) := by rw [ha]; exact putSel_on (e := (10, 40, (.string (strOfNums (Vy.enc m))))) 10 rfl rfl (hon 10 (by kernel_rfl)) rfl
      have e33 : a.tmps[33]? = some ((.bool true)) := by rw [ha]; exact putSel_on (e := (3, 33, (.bool true))) 3 rfl rfl (hon 3 (by kernel_rfl)) rfl
      replace ha := Aside0.mk ha
      have H4 := Aside0.mk Q_H4
      have HB4 := Aside0.mk Q_HB4
      have R1d := Aside0.mk Q_R1d
      have R2d := Aside0.mk Q_R2d
      have S35 := Aside0.mk (Q_S35 (hon 5 (by kernel_rfl)))
      refine value_ (w1 := w') (v := (.bool false)) (wanted_on rfl rfl rfl (e33.trans (by first | rfl | (simp [*]; done)))) rfl ?_ ?_
      · go_simp
        (try simp only [i64_w])
        try rfl
      refine hK.out _ _ ⟨v35, (by rw [ha.out]; exact putSel_upk 11 hb_ rfl rfl rfl), Q_H4, Q_HB4, Q_R1d, Q_R2d, Q_S35⟩
    refine steps_cons ?_ ?_
    · rintro b a w' ⟨v35, ha, Q_H4, Q_HB4, Q_R1d, Q_R2d, Q_S35⟩ hb_ hon hoff
      refine ⟨_, rfl, fun K hK => ?_⟩
      have e33 : a.tmps[33]? = some ((.bool true)) := by rw [ha]; exact putSel_on (e := (3, 33, (.bool true))) 3 rfl rfl (hon 3 (by kernel_rfl)) rfl
      have e41 : a.tmps[41]? = some ((.bool false)) := by rw [ha]; exact putSel_on (e := (11, 41, (.bool false))) 11 rfl rfl (hon 11 (by kernel_rfl)) rfl
      replace ha := Aside0.mk ha
      have H4 := Aside0.mk Q_H4
      have HB4 := Aside0.mk Q_HB4
      have R1d := Aside0.mk Q_R1d
      have R2d := Aside0.mk Q_R2d
      have S35 := Aside0.mk (Q_S35 (hon 5 (by kernel_rfl)))
      refine value_ (w1 := w') (v := (.bool false)) (by rfl) rfl ?_ ?_
      · go_simp
        (try simp only [i64_w])
        try rfl
      refine hK.out _ _ ⟨v35, (by rw [ha.out]; exact putSel_upk 12 hb_ rfl rfl rfl), Q_H4, Q_HB4, Q_R1d, Q_R2d, Q_S35⟩
    exact steps_nil
  rintro b a w5 hall ⟨v35, ha, Q_H4, Q_HB4, Q_R1d, Q_R2d, Q_S35⟩
  clear H4 HB4 R1d R2d
  have hb0_ := hall 0 (by kernel_rfl)
  have hb1_ := hall 1 (by kernel_rfl)
  have hb2_ := hall 2 (by kernel_rfl)
  have hb3_ := hall 3 (by kernel_rfl)
  have hb4_ := hall 4 (by kernel_rfl)
  have hb5_ := hall 5 (by kernel_rfl)
  have hb6_ := hall 6 (by kernel_rfl)
  have hb7_ := hall 7 (by kernel_rfl)
  have hb8_ := hall 8 (by kernel_rfl)
  have hb9_ := hall 9 (by kernel_rfl)
  have hb10_ := hall 10 (by kernel_rfl)
  have hb11_ := hall 11 (by kernel_rfl)
  have hb12_ := hall 12 (by kernel_rfl)
  subst ha
  simp only [putSel, hb0_, hb1_, hb2_, hb3_, hb4_, hb5_, hb6_, hb7_, hb8_, hb9_, hb10_, hb11_, hb12_, if_true, Act.put, List.setIfInBounds_toArray, List.set_cons_zero, List.set_cons_succ]
  have H4 := Aside0.mk Q_H4
  clear Q_H4
  have HB4 := Aside0.mk Q_HB4
  clear Q_HB4
  have R1d := Aside0.mk Q_R1d
  clear Q_R1d
  have R2d := Aside0.mk Q_R2d
  clear Q_R2d
  have S35 := Aside0.mk (Q_S35 hb5_)
  clear Q_S35
  clear hall hb0_ hb1_ hb2_ hb3_ hb4_ hb5_ hb6_ hb7_ hb8_ hb9_ hb10_ hb11_ hb12_
  go_wp2_with fail
  refine (variorumlaw01_VaryOne.rsgn R2d.out HO.out).mono ?_
  rintro e w6 ⟨rfl, r2, r2', b6⟩
  have R1e := Aside0.mk (R1d.out.but b6 (by omega) R2d.out.noByte)
  have HB6 := Aside0.mk (VaryR.But.step b6 HB4.out (Nat.le_trans HG.out (Nat.le_succ g)) (Nat.le_refl _))
  have H6 := Aside0.mk (VaryR.Sl.but H4.out b6 R2d.out.noByte)
  have R2e := Aside0.mk (HK.out ▸ r2' (by rw [HK.out]; exact HK0.out))
  clear r2 r2' b6 R1d R2d HB4 H4
  rw [HMM.out]
  obtain ⟨y, hy⟩ : ∃ y, y = Vy.zag (m : Int) := ⟨_, rfl⟩
  rw [← hy] at HP2 ⊢
  clear hy
  go_wp2_with fail
  refine (VaryR.nLeft (g + 1) _ _ l0 k false R2e.out).mono ?_
  rintro e w7 ⟨rfl, n7, rfl⟩
  rw [show VaryR.leftL l0 k false = q from HQ.out.symm]
  have R1 := Aside0.mk (R1e.out.below (pw_below_drewN (Below.refl _ _) n7))
  have R2 := Aside0.mk (R2e.out.below (pw_below_drewN (Below.refl _ _) n7))
  have HB := Aside0.mk (pw_below_drewN HB6.out n7)
  have H7 := Aside0.mk (H6.out.drewN n7)
  clear R1e R2e HB6 H6
  obtain ⟨w8, hw8⟩ : ∃ w8, w8 = w6.drewN n7 := ⟨_, rfl⟩
  rw [← hw8] at R1 R2 HB H7 ⊢
  clear hw8
  go_wp2_with fail
  rw [HQL.out]
  refine start_ (n := 23) (S := fun w' => True) (ds := []) #[false, false, false, false, false, false, false, false, false, false, false, false, false, false, false, false, false, false, false, false, false, false, false] (by kernel_rfl) rfl rfl trivial (fun hHeld => ?_); refine with_tabW variorumlaw01_VaryOne.tab12 variorumlaw01_VaryOne.bits12 (fun HT_ HW_ => ?_)
  refine inv_at [0, 1, 2, 3, 4, 5, 6, 7, 8, 9, 10, 11, 12, 13, 14, 15, 16, 17, 18, 19, 20, 21, 22] (fun a0_ b a w' => ∃ (v54 : Value), a = putSel a0_ b [(0, 50, (.pointer (some ⟨g + 1, 0, none⟩))), (1, 51, (.bool false)), (2, 52, (.bool false)), (3, 53, (.int .i64 y)), (4, 54, v54), (5, 55, (.string (strOfNums (Vy.enc m)))), (6, 56, (.slice A0 l0.length c0)), (7, 57, (.int .i64 (k : Int))), (8, 58, (.slice A0 k c0)), (9, 59, (.string (strOfNums (Vy.enc m)))), (10, 60, (.bool true)), (11, 61, (.bool true)), (12, 62, (.bool true)), (13, 63, (.pointer (some ⟨g + 1, 0, none⟩))), (14, 64, (.bool false)), (15, 65, (.pointer (some ⟨g, 0, none⟩))), (16, 66, (.bool false)), (17, 67, (.bool true)), (18, 68, (.bool true)), (19, 69, (.bool true)), (20, 70, (.bool true)), (21, 71, (.bool true)), (22, 2, (.bool true))] ∧ (Below w.heap.size w w') ∧ (Own.Sl w' (.slice A0 l0.length c0) l0) ∧ (VaryR.Rd g w' (.slice A0 l0.length c0) l0 k false) ∧ (VaryR.Rd (g + 1) w' (.slice A0 l0.length c0) l0 k false) ∧ (b 4 = true → Own.Sl w' v54 (Vy.enc m))) HT_.out HW_.out (by kernel_rfl) (by kernel_rfl) ?_ ?_ ?_
  · exact ⟨.bool false, by simp only [putSel, Bool.false_eq_true, if_false], below_drew1 HB.out, H7.out.drew, R1.out.below (below_drew1 (Below.refl _ _)), R2.out.below (below_drew1 (Below.refl _ _)), fun h_ => absurd h_ (by decide)⟩
  · skip
    clear H7 HB R1 R2
    refine steps_cons ?_ ?_
    · rintro b a w' ⟨v54, ha, Q_HB, Q_H7, Q_R1, Q_R2, Q_S54⟩ hb_ hon hoff
      refine ⟨_, rfl, fun K hK => ?_⟩
      have e4 : a.tmps[4]? = some ((.pointer (some ⟨g + 1, 0, none⟩))) := by rw [ha]; exact (putSel_off rfl).trans rfl
      replace ha := Aside0.mk ha
      have HB := Aside0.mk Q_HB
      have H7 := Aside0.mk Q_H7
      have R1 := Aside0.mk Q_R1
      have R2 := Aside0.mk Q_R2
      refine value_ (w1 := w') (v := (.pointer (some ⟨g + 1, 0, none⟩))) (by rfl) rfl ?_ ?_
      · go_simp
        (try simp only [i64_w])
        try rfl
      refine hK.out _ _ ⟨v54, (by rw [ha.out]; exact putSel_upk 0 hb_ rfl rfl rfl), Q_HB, Q_H7, Q_R1, Q_R2, fun h0_ => absurd ((hoff 4 (by kernel_rfl)).symm.trans h0_) (by decide)⟩
    refine steps_cons ?_ ?_
    · rintro b a w' ⟨v54, ha, Q_HB, Q_H7, Q_R1, Q_R2, Q_S54⟩ hb_ hon hoff
      refine ⟨_, rfl, fun K hK => ?_⟩
      have e50 : a.tmps[50]? = some ((.pointer (some ⟨g + 1, 0, none⟩))) := by rw [ha]; exact putSel_on (e := (0, 50, (.pointer (some ⟨g + 1, 0, none⟩)))) 0 rfl rfl (hon 0 (by kernel_rfl)) rfl
      replace ha := Aside0.mk ha
      have HB := Aside0.mk Q_HB
      have H7 := Aside0.mk Q_H7
      have R1 := Aside0.mk Q_R1
      have R2 := Aside0.mk Q_R2
      refine goes_ Try.func33 (by kernel_rfl) rfl #[.pointer (some ⟨g + 1, 0, none⟩)] (by rfl) rfl rfl (by first | (simp only [List.map_toArray, List.map_cons, List.map_nil, Act.eval, Array.getD_eq_getD_getElem?, Option.getD_some, e50]; done) | (simp only [List.map_toArray, List.map_cons, List.map_nil, Act.eval, Array.getD_eq_getD_getElem?, Option.getD_some, e50]; rfl)) ?_
      refine (VaryR.nBad (g + 1) _ _ l0 k false R2.out).mono ?_
      rintro e w1_ ⟨rfl, hw⟩
      refine ⟨_, rfl, ?_⟩
      subst hw
      refine hK.out _ _ ⟨v54, (by rw [ha.out]; exact putSel_upk 1 hb_ rfl rfl rfl), below_step HB.out (Below.refl _ _), H7.out.below (Below.refl _ _), R1.out.below (Below.refl _ _), R2.out.below (Below.refl _ _), fun h0_ => absurd ((hoff 4 (by kernel_rfl)).symm.trans h0_) (by decide)⟩
    refine steps_cons ?_ ?_
    · rintro b a w' ⟨v54, ha, Q_HB, Q_H7, Q_R1, Q_R2, Q_S54⟩ hb_ hon hoff
      refine ⟨_, rfl, fun K hK => ?_⟩
      have e51 : a.tmps[51]? = some ((.bool false)) := by rw [ha]; exact putSel_on (e := (1, 51, (.bool false))) 1 rfl rfl (hon 1 (by kernel_rfl)) rfl
      replace ha := Aside0.mk ha
      have HB := Aside0.mk Q_HB
      have H7 := Aside0.mk Q_H7
      have R1 := Aside0.mk Q_R1
      have R2 := Aside0.mk Q_R2
      refine value_ (w1 := w') (v := (.bool false)) (by rfl) rfl ?_ ?_
      · go_simp
        (try simp only [i64_w])
        try rfl
      refine hK.out _ _ ⟨v54, (by rw [ha.out]; exact putSel_upk 2 hb_ rfl rfl rfl), Q_HB, Q_H7, Q_R1, Q_R2, fun h0_ => absurd ((hoff 4 (by kernel_rfl)).symm.trans h0_) (by decide)⟩
    refine steps_cons ?_ ?_
    · rintro b a w' ⟨v54, ha, Q_HB, Q_H7, Q_R1, Q_R2, Q_S54⟩ hb_ hon hoff
      refine ⟨_, rfl, fun K hK => ?_⟩
      have e7 : a.tmps[7]? = some ((.int .i64 y)) := by rw [ha]; exact (putSel_off rfl).trans rfl
      have e52 : a.tmps[52]? = some ((.bool false)) := by rw [ha]; exact putSel_on (e := (2, 52, (.bool false))) 2 rfl rfl (hon 2 (by kernel_rfl)) rfl
      replace ha := Aside0.mk ha
      have HB := Aside0.mk Q_HB
      have H7 := Aside0.mk Q_H7
      have R1 := Aside0.mk Q_R1
      have R2 := Aside0.mk Q_R2
      refine value_ (w1 := w') (v := (.int .i64 y)) (wanted_on rfl rfl rfl (e52.trans (by first | rfl | (simp [*]; done)))) rfl ?_ ?_
      · go_simp
        (try simp only [i64_w])
        try rfl
      refine hK.out _ _ ⟨v54, (by rw [ha.out]; exact putSel_upk 3 hb_ rfl rfl rfl), Q_HB, Q_H7, Q_R1, Q_R2, fun h0_ => absurd ((hoff 4 (by kernel_rfl)).symm.trans h0_) (by decide)⟩
    refine steps_cons ?_ ?_
    · rintro b a w' ⟨v54, ha, Q_HB, Q_H7, Q_R1, Q_R2, Q_S54⟩ hb_ hon hoff
      refine ⟨_, rfl, fun K hK => ?_⟩
      have e53 : a.tmps[53]? = some ((.int .i64 y)) := by rw [ha]; exact putSel_on (e := (3, 53, (.int .i64 y))) 3 rfl rfl (hon 3 (by kernel_rfl)) rfl
      have e52 : a.tmps[52]? = some ((.bool false)) := by rw [ha]; exact putSel_on (e := (2, 52, (.bool false))) 2 rfl rfl (hon 2 (by kernel_rfl)) rfl
      replace ha := Aside0.mk ha
      have HB := Aside0.mk Q_HB
      have H7 := Aside0.mk Q_H7
      have R1 := Aside0.mk Q_R1
      have R2 := Aside0.mk Q_R2
      refine goes_ Try.func25 (by kernel_rfl) rfl #[(.slice none 0 0), .int .i64 y] (wanted_on rfl rfl rfl (e52.trans (by first | rfl | (simp [*]; done)))) rfl rfl (by first | (simp only [List.map_toArray, List.map_cons, List.map_nil, Act.eval, Array.getD_eq_getD_getElem?, Option.getD_some, e53, e52]; done) | (simp only [List.map_toArray, List.map_cons, List.map_nil, Act.eval, Array.getD_eq_getD_getElem?, Option.getD_some, e53, e52]; rfl)) ?_
      refine (VaryP.nPutSigned _ [] y _ (Own.Sl.nil _) (by decide)).mono ?_
      rintro e w1_ ⟨v54, rfl, hg, hb⟩
      refine ⟨_, rfl, ?_⟩
      have hs := hg.sl
      rw [HP2.out] at hs
      clear hg
      refine hK.out _ _ ⟨v54, (by rw [ha.out]; exact putSel_upk 4 hb_ rfl rfl rfl), below_step HB.out hb, H7.out.below hb, R1.out.below hb, R2.out.below hb, fun _ => hs⟩
    refine steps_cons ?_ ?_
    · rintro b a w' ⟨v54, ha, Q_HB, Q_H7, Q_R1, Q_R2, Q_S54⟩ hb_ hon hoff
      refine ⟨_, rfl, fun K hK => ?_⟩
      have e54 : a.tmps[54]? = some (v54) := by rw [ha]; exact putSel_on (e := (4, 54, v54)) 4 rfl rfl (hon 4 (by kernel_rfl)) rfl
      have e52 : a.tmps[52]? = some ((.bool false)) := by rw [ha]; exact putSel_on (e := (2, 52, (.bool false))) 2 rfl rfl (hon 2 (by kernel_rfl)) rfl
      replace ha := Aside0.mk ha
      have HB := Aside0.mk Q_HB
      have H7 := Aside0.mk Q_H7
      have R1 := Aside0.mk Q_R1
      have R2 := Aside0.mk Q_R2
      have S54 := Aside0.mk (Q_S54 (hon 4 (by kernel_rfl)))
      have hc_ := Own.Sl.string (P := Try.prog) Try.underlying22 Try.underlying5 Try.underlying9 S54.out
      refine value_ (w1 := w') (v := (.string (strOfNums (Vy.enc m)))) (wanted_on rfl rfl rfl (e52.trans (by first | rfl | (simp [*]; done)))) rfl ?_ ?_
      · go_simp
        (try simp only [i64_w])
        try rfl
      refine hK.out _ _ ⟨v54, (by rw [ha.out]; exact putSel_upk 5 hb_ rfl rfl rfl), Q_HB, Q_H7, Q_R1, Q_R2, Q_S54⟩
    refine steps_cons ?_ ?_
    · rintro b a w' ⟨v54, ha, Q_HB, Q_H7, Q_R1, Q_R2, Q_S54⟩ hb_ hon hoff
      refine ⟨_, rfl, fun K hK => ?_⟩
      have e0 : a.tmps[0]? = some ((.slice A0 l0.length c0)) := by rw [ha]; exact (putSel_off rfl).trans rfl
      have e52 : a.tmps[52]? = some ((.bool false)) := by rw [ha]; exact putSel_on (e := (2, 52, (.bool false))) 2 rfl rfl (hon 2 (by kernel_rfl)) rfl
      replace ha := Aside0.mk ha
      have HB := Aside0.mk Q_HB
      have H7 := Aside0.mk Q_H7
      have R1 := Aside0.mk Q_R1
      have R2 := Aside0.mk Q_R2
      refine value_ (w1 := w') (v := (.slice A0 l0.length c0)) (wanted_on rfl rfl rfl (e52.trans (by first | rfl | (simp [*]; done)))) rfl ?_ ?_
      · go_simp
        (try simp only [i64_w])
        try rfl
      refine hK.out _ _ ⟨v54, (by rw [ha.out]; exact putSel_upk 6 hb_ rfl rfl rfl), Q_HB, Q_H7, Q_R1, Q_R2, Q_S54⟩
    refine steps_cons ?_ ?_
    · rintro b a w' ⟨v54, ha, Q_HB, Q_H7, Q_R1, Q_R2, Q_S54⟩ hb_ hon hoff
      refine ⟨_, rfl, fun K hK => ?_⟩
      have e8 : a.tmps[8]? = some ((.int .i64 (k : Int))) := by rw [ha]; exact (putSel_off rfl).trans rfl
      have e52 : a.tmps[52]? = some ((.bool false)) := by rw [ha]; exact putSel_on (e := (2, 52, (.bool false))) 2 rfl rfl (hon 2 (by kernel_rfl)) rfl
      replace ha := Aside0.mk ha
      have HB := Aside0.mk Q_HB
      have H7 := Aside0.mk Q_H7
      have R1 := Aside0.mk Q_R1
      have R2 := Aside0.mk Q_R2
      refine value_ (w1 := w') (v := (.int .i64 (k : Int))) (wanted_on rfl rfl rfl (e52.trans (by first | rfl | (simp [*]; done)))) rfl ?_ ?_
      · go_simp
        (try simp only [i64_w])
        try rfl
      refine hK.out _ _ ⟨v54, (by rw [ha.out]; exact putSel_upk 7 hb_ rfl rfl rfl), Q_HB, Q_H7, Q_R1, Q_R2, Q_S54⟩
    refine steps_cons ?_ ?_
    · rintro b a w' ⟨v54, ha, Q_HB, Q_H7, Q_R1, Q_R2, Q_S54⟩ hb_ hon hoff
      refine ⟨_, rfl, fun K hK => ?_⟩
      have e56 : a.tmps[56]? = some ((.slice A0 l0.length c0)) := by rw [ha]; exact putSel_on (e := (6, 56, (.slice A0 l0.length c0))) 6 rfl rfl (hon 6 (by kernel_rfl)) rfl
      have e57 : a.tmps[57]? = some ((.int .i64 (k : Int))) := by rw [ha]; exact putSel_on (e := (7, 57, (.int .i64 (k : Int)))) 7 rfl rfl (hon 7 (by kernel_rfl)) rfl
      have e52 : a.tmps[52]? = some ((.bool false)) := by rw [ha]; exact putSel_on (e := (2, 52, (.bool false))) 2 rfl rfl (hon 2 (by kernel_rfl)) rfl
      replace ha := Aside0.mk ha
      have HB := Aside0.mk Q_HB
      have H7 := Aside0.mk Q_H7
      have R1 := Aside0.mk Q_R1
      have R2 := Aside0.mk Q_R2
      have hc_ := HCUT.out
      rw [Int.toNat_natCast] at hc_
      refine value_ (w1 := w') (v := (.slice A0 k c0)) (wanted_on rfl rfl rfl (e52.trans (by first | rfl | (simp [*]; done)))) rfl ?_ ?_
      · go_simp
        (try simp only [i64_w])
        try rfl
      refine hK.out _ _ ⟨v54, (by rw [ha.out]; exact putSel_upk 8 hb_ rfl rfl rfl), Q_HB, Q_H7, Q_R1, Q_R2, Q_S54⟩
    refine steps_cons ?_ ?_
    · rintro b a w' ⟨v54, ha, Q_HB, Q_H7, Q_R1, Q_R2, Q_S54⟩ hb_ hon hoff
      refine ⟨_, rfl, fun K hK => ?_⟩
      have e58 : a.tmps[58]? = some ((.slice A0 k c0)) := by rw [ha]; exact putSel_on (e := (8, 58, (.slice A0 k c0))) 8 rfl rfl (hon 8 (by kernel_rfl)) rfl
      have e52 : a.tmps[52]? = some ((.bool false)) := by rw [ha]; exact putSel_on (e := (2, 52, (.bool false))) 2 rfl rfl (hon 2 (by kernel_rfl)) rfl
      replace ha := Aside0.mk ha
      have HB := Aside0.mk Q_HB
      have H7 := Aside0.mk Q_H7
      have R1 := Aside0.mk Q_R1
      have R2 := Aside0.mk Q_R2
      have hc_ := Own.Sl.string (P := Try.prog) Try.underlying22 Try.underlying5 Try.underlying9 (HT.out _ H7.out)
      refine value_ (w1 := w') (v := (.string (strOfNums (Vy.enc m)))) (wanted_on rfl rfl rfl (e52.trans (by first | rfl | (simp [*]; done)))) rfl ?_ ?_
      · go_simp
        (try simp only [i64_w])
        try rfl
      refine hK.out _ _ ⟨v54, (by rw [ha.out]; exact putSel_upk 9 hb_ rfl rfl rfl), Q_HB, Q_H7, Q_R1, Q_R2, Q_S54⟩
    refine steps_cons ?_ ?_
    · rintro b a w' ⟨v54, ha, Q_HB, Q_H7, Q_R1, Q_R2, Q_S54⟩ hb_ hon hoff
      refine ⟨_, rfl, fun K hK => ?_⟩
      have e55 : a.tmps[55]? = some ((.string (strOfNums (Vy.enc m)))) := by rw [ha]; exact putSel_on (e := (5, 55, (.string (strOfNums (Vy.enc m))))) 5 rfl rfl (hon 5 (by kernel_rfl)) rfl
      have e59 : a.tmps[59]? = some ((.string (strOfNums (Vy.enc m)))) := by rw [ha]; exact putSel_on (e := (9, 59, (.string (strOfNums (Vy.enc m))))) 9 rfl rfl (hon 9 (by kernel_rfl)) rfl
      have e52 : a.tmps[52]? = some ((.bool false)) := by rw [ha]; exact putSel_on (e := (2, 52, (.bool false))) 2 rfl rfl (hon 2 (by kernel_rfl)) rfl
      replace ha := Aside0.mk ha
      have HB := Aside0.mk Q_HB
      have H7 := Aside0.mk Q_H7
      have R1 := Aside0.mk Q_R1
      have R2 := Aside0.mk Q_R2
      have S54 := Aside0.mk (Q_S54 (hon 4 (by kernel_rfl)))
      refine value_ (w1 := w') (v := (.bool true)) (wanted_on rfl rfl rfl (e52.trans (by first | rfl | (simp [*]; done)))) rfl ?_ ?_
      · go_simp
        (try simp only [i64_w])
        try rfl
      refine hK.out _ _ ⟨v54, (by rw [ha.out]; exact putSel_upk 10 hb_ rfl rfl rfl), Q_HB, Q_H7, Q_R1, Q_R2, Q_S54⟩
    refine steps_cons ?_ ?_
    · rintro b a w' ⟨v54, ha, Q_HB, Q_H7, Q_R1, Q_R2, Q_S54⟩ hb_ hon hoff
      refine ⟨_, rfl, fun K hK => ?_⟩
      have e52 : a.tmps[52]? = some ((.bool false)) := by rw [ha]; exact putSel_on (e := (2, 52, (.bool false))) 2 rfl rfl (hon 2 (by kernel_rfl)) rfl
      have e60 : a.tmps[60]? = some ((.bool true)) := by rw [ha]; exact putSel_on (e := (10, 60, (.bool true))) 10 rfl rfl (hon 10 (by kernel_rfl)) rfl
      replace ha := Aside0.mk ha
      have HB := Aside0.mk Q_HB
      have H7 := Aside0.mk Q_H7
      have R1 := Aside0.mk Q_R1
      have R2 := Aside0.mk Q_R2
      have S54 := Aside0.mk (Q_S54 (hon 4 (by kernel_rfl)))
      refine value_ (w1 := w') (v := (.bool true)) (by rfl) rfl ?_ ?_
      · go_simp
        (try simp only [i64_w])
        try rfl
      refine hK.out _ _ ⟨v54, (by rw [ha.out]; exact putSel_upk 11 hb_ rfl rfl rfl), Q_HB, Q_H7, Q_R1, Q_R2, Q_S54⟩
    refine steps_cons ?_ ?_
    · rintro b a w' ⟨v54, ha, Q_HB, Q_H7, Q_R1, Q_R2, Q_S54⟩ hb_ hon hoff
      refine ⟨_, rfl, fun K hK => ?_⟩
      have e61 : a.tmps[61]? = some ((.bool true)) := by rw [ha]; exact putSel_on (e := (11, 61, (.bool true))) 11 rfl rfl (hon 11 (by kernel_rfl)) rfl
      replace ha := Aside0.mk ha
      have HB := Aside0.mk Q_HB
      have H7 := Aside0.mk Q_H7
      have R1 := Aside0.mk Q_R1
      have R2 := Aside0.mk Q_R2
      have S54 := Aside0.mk (Q_S54 (hon 4 (by kernel_rfl)))
      refine value_ (w1 := w') (v := (.bool true)) (by rfl) rfl ?_ ?_
      · go_simp
        (try simp only [i64_w])
        try rfl
      refine hK.out _ _ ⟨v54, (by rw [ha.out]; exact putSel_upk 12 hb_ rfl rfl rfl), Q_HB, Q_H7, Q_R1, Q_R2, Q_S54⟩
    refine steps_cons ?_ ?_
    · rintro b a w' ⟨v54, ha, Q_HB, Q_H7, Q_R1, Q_R2, Q_S54⟩ hb_ hon hoff
      refine ⟨_, rfl, fun K hK => ?_⟩
      have e4 : a.tmps[4]? = some ((.pointer (some ⟨g + 1, 0, none⟩))) := by rw [ha]; exact (putSel_off rfl).trans rfl
      have e62 : a.tmps[62]? = some ((.bool true)) := by rw [ha]; exact putSel_on (e := (12, 62, (.bool true))) 12 rfl rfl (hon 12 (by kernel_rfl)) rfl
      replace ha := Aside0.mk ha
      have HB := Aside0.mk Q_HB
      have H7 := Aside0.mk Q_H7
      have R1 := Aside0.mk Q_R1
      have R2 := Aside0.mk Q_R2
      have S54 := Aside0.mk (Q_S54 (hon 4 (by kernel_rfl)))
      refine value_ (w1 := w') (v := (.pointer (some ⟨g + 1, 0, none⟩))) (wanted_on rfl rfl rfl (e62.trans (by first | rfl | (simp [*]; done)))) rfl ?_ ?_
      · go_simp
        (try simp only [i64_w])
        try rfl
      refine hK.out _ _ ⟨v54, (by rw [ha.out]; exact putSel_upk 13 hb_ rfl rfl rfl), Q_HB, Q_H7, Q_R1, Q_R2, Q_S54⟩
    refine steps_cons ?_ ?_
    · rintro b a w' ⟨v54, ha, Q_HB, Q_H7, Q_R1, Q_R2, Q_S54⟩ hb_ hon hoff
      refine ⟨_, rfl, fun K hK => ?_⟩
      have e63 : a.tmps[63]? = some ((.pointer (some ⟨g + 1, 0, none⟩))) := by rw [ha]; exact putSel_on (e := (13, 63, (.pointer (some ⟨g + 1, 0, none⟩)))) 13 rfl rfl (hon 13 (by kernel_rfl)) rfl
      have e62 : a.tmps[62]? = some ((.bool true)) := by rw [ha]; exact putSel_on (e := (12, 62, (.bool true))) 12 rfl rfl (hon 12 (by kernel_rfl)) rfl
      replace ha := Aside0.mk ha
      have HB := Aside0.mk Q_HB
      have H7 := Aside0.mk Q_H7
      have R1 := Aside0.mk Q_R1
      have R2 := Aside0.mk Q_R2
      have S54 := Aside0.mk (Q_S54 (hon 4 (by kernel_rfl)))
      refine goes_ Try.func33 (by kernel_rfl) rfl #[.pointer (some ⟨g + 1, 0, none⟩)] (wanted_on rfl rfl rfl (e62.trans (by first | rfl | (simp [*]; done)))) rfl rfl (by first | (simp only [List.map_toArray, List.map_cons, List.map_nil, Act.eval, Array.getD_eq_getD_getElem?, Option.getD_some, e63, e62]; done) | (simp only [List.map_toArray, List.map_cons, List.map_nil, Act.eval, Array.getD_eq_getD_getElem?, Option.getD_some, e63, e62]; rfl)) ?_
      refine (VaryR.nBad (g + 1) _ _ l0 k false R2.out).mono ?_
      rintro e w1_ ⟨rfl, hw⟩
      refine ⟨_, rfl, ?_⟩
      subst hw
      refine hK.out _ _ ⟨v54, (by rw [ha.out]; exact putSel_upk 14 hb_ rfl rfl rfl), below_step HB.out (Below.refl _ _), H7.out.below (Below.refl _ _), R1.out.below (Below.refl _ _), R2.out.below (Below.refl _ _), fun _ => S54.out.below (Below.refl _ _)⟩
    refine steps_cons ?_ ?_
    · rintro b a w' ⟨v54, ha, Q_HB, Q_H7, Q_R1, Q_R2, Q_S54⟩ hb_ hon hoff
      refine ⟨_, rfl, fun K hK => ?_⟩
      have e3 : a.tmps[3]? = some ((.pointer (some ⟨g, 0, none⟩))) := by rw [ha]; exact (putSel_off rfl).trans rfl
      have e62 : a.tmps[62]? = some ((.bool true)) := by rw [ha]; exact putSel_on (e := (12, 62, (.bool true))) 12 rfl rfl (hon 12 (by kernel_rfl)) rfl
      replace ha := Aside0.mk ha
      have HB := Aside0.mk Q_HB
      have H7 := Aside0.mk Q_H7
      have R1 := Aside0.mk Q_R1
      have R2 := Aside0.mk Q_R2
      have S54 := Aside0.mk (Q_S54 (hon 4 (by kernel_rfl)))
      refine value_ (w1 := w') (v := (.pointer (some ⟨g, 0, none⟩))) (wanted_on rfl rfl rfl (e62.trans (by first | rfl | (simp [*]; done)))) rfl ?_ ?_
      · go_simp
        (try simp only [i64_w])
        try rfl
      refine hK.out _ _ ⟨v54, (by rw [ha.out]; exact putSel_upk 15 hb_ rfl rfl rfl), Q_HB, Q_H7, Q_R1, Q_R2, Q_S54⟩
    refine steps_cons ?_ ?_
    · rintro b a w' ⟨v54, ha, Q_HB, Q_H7, Q_R1, Q_R2, Q_S54⟩ hb_ hon hoff
      refine ⟨_, rfl, fun K hK => ?_⟩
      have e65 : a.tmps[65]? = some ((.pointer (some ⟨g, 0, none⟩))) := by rw [ha]; exact putSel_on (e := (15, 65, (.pointer (some ⟨g, 0, none⟩)))) 15 rfl rfl (hon 15 (by kernel_rfl)) rfl
      have e62 : a.tmps[62]? = some ((.bool true)) := by rw [ha]; exact putSel_on (e := (12, 62, (.bool true))) 12 rfl rfl (hon 12 (by kernel_rfl)) rfl
      replace ha := Aside0.mk ha
      have HB := Aside0.mk Q_HB
      have H7 := Aside0.mk Q_H7
      have R1 := Aside0.mk Q_R1
      have R2 := Aside0.mk Q_R2
      have S54 := Aside0.mk (Q_S54 (hon 4 (by kernel_rfl)))
      refine goes_ Try.func33 (by kernel_rfl) rfl #[.pointer (some ⟨g, 0, none⟩)] (wanted_on rfl rfl rfl (e62.trans (by first | rfl | (simp [*]; done)))) rfl rfl (by first | (simp only [List.map_toArray, List.map_cons, List.map_nil, Act.eval, Array.getD_eq_getD_getElem?, Option.getD_some, e65, e62]; done) | (simp only [List.map_toArray, List.map_cons, List.map_nil, Act.eval, Array.getD_eq_getD_getElem?, Option.getD_some, e65, e62]; rfl)) ?_
      refine (VaryR.nBad g _ _ l0 k false R1.out).mono ?_
      rintro e w1_ ⟨rfl, hw⟩
      refine ⟨_, rfl, ?_⟩
      subst hw
      refine hK.out _ _ ⟨v54, (by rw [ha.out]; exact putSel_upk 16 hb_ rfl rfl rfl), below_step HB.out (Below.refl _ _), H7.out.below (Below.refl _ _), R1.out.below (Below.refl _ _), R2.out.below (Below.refl _ _), fun _ => S54.out.below (Below.refl _ _)⟩
    refine steps_cons ?_ ?_
    · rintro b a w' ⟨v54, ha, Q_HB, Q_H7, Q_R1, Q_R2, Q_S54⟩ hb_ hon hoff
      refine ⟨_, rfl, fun K hK => ?_⟩
      have e64 : a.tmps[64]? = some ((.bool false)) := by rw [ha]; exact putSel_on (e := (14, 64, (.bool false))) 14 rfl rfl (hon 14 (by kernel_rfl)) rfl
      have e66 : a.tmps[66]? = some ((.bool false)) := by rw [ha]; exact putSel_on (e := (16, 66, (.bool false))) 16 rfl rfl (hon 16 (by kernel_rfl)) rfl
      have e62 : a.tmps[62]? = some ((.bool true)) := by rw [ha]; exact putSel_on (e := (12, 62, (.bool true))) 12 rfl rfl (hon 12 (by kernel_rfl)) rfl
      replace ha := Aside0.mk ha
      have HB := Aside0.mk Q_HB
      have H7 := Aside0.mk Q_H7
      have R1 := Aside0.mk Q_R1
      have R2 := Aside0.mk Q_R2
      have S54 := Aside0.mk (Q_S54 (hon 4 (by kernel_rfl)))
      refine value_ (w1 := w') (v := (.bool true)) (wanted_on rfl rfl rfl (e62.trans (by first | rfl | (simp [*]; done)))) rfl ?_ ?_
      · go_simp
        (try simp only [i64_w])
        try rfl
      refine hK.out _ _ ⟨v54, (by rw [ha.out]; exact putSel_upk 17 hb_ rfl rfl rfl), Q_HB, Q_H7, Q_R1, Q_R2, Q_S54⟩
    refine steps_cons ?_ ?_
    · rintro b a w' ⟨v54, ha, Q_HB, Q_H7, Q_R1, Q_R2, Q_S54⟩ hb_ hon hoff
      refine ⟨_, rfl, fun K hK => ?_⟩
      have e62 : a.tmps[62]? = some ((.bool true)) := by rw [ha]; exact putSel_on (e := (12, 62, (.bool true))) 12 rfl rfl (hon 12 (by kernel_rfl)) rfl
      have e67 : a.tmps[67]? = some ((.bool true)) := by rw [ha]; exact putSel_on (e := (17, 67, (.bool true))) 17 rfl rfl (hon 17 (by kernel_rfl)) rfl
      replace ha := Aside0.mk ha
      have HB := Aside0.mk Q_HB
      have H7 := Aside0.mk Q_H7
      have R1 := Aside0.mk Q_R1
      have R2 := Aside0.mk Q_R2
      have S54 := Aside0.mk (Q_S54 (hon 4 (by kernel_rfl)))
      refine value_ (w1 := w') (v := (.bool true)) (by rfl) rfl ?_ ?_
      · go_simp
        (try simp only [i64_w])
        try rfl
      refine hK.out _ _ ⟨v54, (by rw [ha.out]; exact putSel_upk 18 hb_ rfl rfl rfl), Q_HB, Q_H7, Q_R1, Q_R2, Q_S54⟩
    refine steps_cons ?_ ?_
    · rintro b a w' ⟨v54, ha, Q_HB, Q_H7, Q_R1, Q_R2, Q_S54⟩ hb_ hon hoff
      refine ⟨_, rfl, fun K hK => ?_⟩
      have e68 : a.tmps[68]? = some ((.bool true)) := by rw [ha]; exact putSel_on (e := (18, 68, (.bool true))) 18 rfl rfl (hon 18 (by kernel_rfl)) rfl
      replace ha := Aside0.mk ha
      have HB := Aside0.mk Q_HB
      have H7 := Aside0.mk Q_H7
      have R1 := Aside0.mk Q_R1
      have R2 := Aside0.mk Q_R2
      have S54 := Aside0.mk (Q_S54 (hon 4 (by kernel_rfl)))
      refine value_ (w1 := w') (v := (.bool true)) (by rfl) rfl ?_ ?_
      · go_simp
        (try simp only [i64_w])
        try rfl
      refine hK.out _ _ ⟨v54, (by rw [ha.out]; exact putSel_upk 19 hb_ rfl rfl rfl), Q_HB, Q_H7, Q_R1, Q_R2, Q_S54⟩
    refine steps_cons ?_ ?_
    · rintro b a w' ⟨v54, ha, Q_HB, Q_H7, Q_R1, Q_R2, Q_S54⟩ hb_ hon hoff
      refine ⟨_, rfl, fun K hK => ?_⟩
      have e69 : a.tmps[69]? = some ((.bool true)) := by rw [ha]; exact putSel_on (e := (19, 69, (.bool true))) 19 rfl rfl (hon 19 (by kernel_rfl)) rfl
      replace ha := Aside0.mk ha
      have HB := Aside0.mk Q_HB
      have H7 := Aside0.mk Q_H7
      have R1 := Aside0.mk Q_R1
      have R2 := Aside0.mk Q_R2
      have S54 := Aside0.mk (Q_S54 (hon 4 (by kernel_rfl)))
      refine goes_ Try.func22 (by kernel_rfl) rfl #[] (wanted_on rfl rfl rfl (e69.trans (by first | rfl | (simp [*]; done)))) rfl rfl (by first | (simp only [List.map_toArray, List.map_cons, List.map_nil, Act.eval, Array.getD_eq_getD_getElem?, Option.getD_some, e69]; done) | (simp only [List.map_toArray, List.map_cons, List.map_nil, Act.eval, Array.getD_eq_getD_getElem?, Option.getD_some, e69]; rfl)) ?_
      refine (VaryLives.lives_c _).mono ?_
      rintro e w1_ ⟨rfl, hb⟩
      refine ⟨_, rfl, ?_⟩
      refine hK.out _ _ ⟨v54, (by rw [ha.out]; exact putSel_upk 20 hb_ rfl rfl rfl), below_step HB.out hb, H7.out.below hb, R1.out.below hb, R2.out.below hb, fun _ => S54.out.below hb⟩
    refine steps_cons ?_ ?_
    · rintro b a w' ⟨v54, ha, Q_HB, Q_H7, Q_R1, Q_R2, Q_S54⟩ hb_ hon hoff
      refine ⟨_, rfl, fun K hK => ?_⟩
      have e69 : a.tmps[69]? = some ((.bool true)) := by rw [ha]; exact putSel_on (e := (19, 69, (.bool true))) 19 rfl rfl (hon 19 (by kernel_rfl)) rfl
      have e70 : a.tmps[70]? = some ((.bool true)) := by rw [ha]; exact putSel_on (e := (20, 70, (.bool true))) 20 rfl rfl (hon 20 (by kernel_rfl)) rfl
      replace ha := Aside0.mk ha
      have HB := Aside0.mk Q_HB
      have H7 := Aside0.mk Q_H7
      have R1 := Aside0.mk Q_R1
      have R2 := Aside0.mk Q_R2
      have S54 := Aside0.mk (Q_S54 (hon 4 (by kernel_rfl)))
      refine value_ (w1 := w') (v := (.bool true)) (by rfl) rfl ?_ ?_
      · go_simp
        (try simp only [i64_w])
        try rfl
      refine hK.out _ _ ⟨v54, (by rw [ha.out]; exact putSel_upk 21 hb_ rfl rfl rfl), Q_HB, Q_H7, Q_R1, Q_R2, Q_S54⟩
    refine steps_cons ?_ ?_
    · rintro b a w' ⟨v54, ha, Q_HB, Q_H7, Q_R1, Q_R2, Q_S54⟩ hb_ hon hoff
      refine ⟨_, rfl, fun K hK => ?_⟩
      have e71 : a.tmps[71]? = some ((.bool true)) := by rw [ha]; exact putSel_on (e := (21, 71, (.bool true))) 21 rfl rfl (hon 21 (by kernel_rfl)) rfl
      replace ha := Aside0.mk ha
      have HB := Aside0.mk Q_HB
      have H7 := Aside0.mk Q_H7
      have R1 := Aside0.mk Q_R1
      have R2 := Aside0.mk Q_R2
      have S54 := Aside0.mk (Q_S54 (hon 4 (by kernel_rfl)))
      refine value_ (w1 := w') (v := (.bool true)) (by rfl) rfl ?_ ?_
      · go_simp
        (try simp only [i64_w])
        try rfl
      refine hK.out _ _ ⟨v54, (by rw [ha.out]; exact putSel_upk 22 hb_ rfl rfl rfl), Q_HB, Q_H7, Q_R1, Q_R2, Q_S54⟩
    exact steps_nil
  rintro b a w9 hall ⟨v54, ha, Q_HB, Q_H7, Q_R1, Q_R2, Q_S54⟩
  clear H7 HB R1 R2
  have hb0_ := hall 0 (by kernel_rfl)
  have hb1_ := hall 1 (by kernel_rfl)
  have hb2_ := hall 2 (by kernel_rfl)
  have hb3_ := hall 3 (by kernel_rfl)
  have hb4_ := hall 4 (by kernel_rfl)
  have hb5_ := hall 5 (by kernel_rfl)
  have hb6_ := hall 6 (by kernel_rfl)
  have hb7_ := hall 7 (by kernel_rfl)
  have hb8_ := hall 8 (by kernel_rfl)
  have hb9_ := hall 9 (by kernel_rfl)
  have hb10_ := hall 10 (by kernel_rfl)
  have hb11_ := hall 11 (by kernel_rfl)
  have hb12_ := hall 12 (by kernel_rfl)
  have hb13_ := hall 13 (by kernel_rfl)
  have hb14_ := hall 14 (by kernel_rfl)
  have hb15_ := hall 15 (by kernel_rfl)
  have hb16_ := hall 16 (by kernel_rfl)
  have hb17_ := hall 17 (by kernel_rfl)
  have hb18_ := hall 18 (by kernel_rfl)
  have hb19_ := hall 19 (by kernel_rfl)
  have hb20_ := hall 20 (by kernel_rfl)
  have hb21_ := hall 21 (by kernel_rfl)
  have hb22_ := hall 22 (by kernel_rfl)
  subst ha
  simp only [putSel, hb0_, hb1_, hb2_, hb3_, hb4_, hb5_, hb6_, hb7_, hb8_, hb9_, hb10_, hb11_, hb12_, hb13_, hb14_, hb15_, hb16_, hb17_, hb18_, hb19_, hb20_, hb21_, hb22_, if_true, Act.put, List.setIfInBounds_toArray, List.set_cons_zero, List.set_cons_succ]
  have HB := Aside0.mk Q_HB
  clear Q_HB
  have H7 := Aside0.mk Q_H7
  clear Q_H7
  have R1 := Aside0.mk Q_R1
  clear Q_R1
  have R2 := Aside0.mk Q_R2
  clear Q_R2
  have S54 := Aside0.mk (Q_S54 hb4_)
  clear Q_S54
  clear hall hb0_ hb1_ hb2_ hb3_ hb4_ hb5_ hb6_ hb7_ hb8_ hb9_ hb10_ hb11_ hb12_ hb13_ hb14_ hb15_ hb16_ hb17_ hb18_ hb19_ hb20_ hb21_ hb22_
  go_wp2_with fail
  go_ret
  exact ⟨rfl, HB.out⟩
set_option maxHeartbeats 2000000 in
set_option maxRecDepth 100000 in
theorem variorumlaw01_VaryOne.holds (A0 : Option Addr) (c0 : Nat) (l0 : List Int) (w : World) (hr0 : Kd.C (Kd.int .u8) w A0 l0.length l0) (hc0 : l0.length ≤ c0) (_ : l0.length * 1 ≤ 140737488351232) (w0 : ∀ x ∈ l0, (Lit.int .u8 x).wf = true) :
    Calls Try.prog 9 #[.slice A0 l0.length c0] w fun e w' => e = .returned (.bool true) ∧ Below w.heap.size w w' := by
  by_cases hlen : l0.length ≤ 4000
  · have hok := Byt.ok_of_wf w0
    by_cases hk : (Vy.numL l0).2 = 0
    · exact variorumlaw01_VaryOne.none_ A0 c0 l0 w (Own.Sl.mk hr0 hc0) hok hlen hk
    · obtain ⟨m, h1, h2, h3, h4, _⟩ := Vy.numL_one hok hk
      exact variorumlaw01_VaryOne.some_ A0 c0 l0 w (Own.Sl.mk hr0 hc0) hok hlen _ m rfl hk h1 h2 h3 h4
  · have g1 : (4000 : Int) < (l0.length : Int) := by omega
    clear hr0 w0 hlen
    go_enter Try.func9, Try.ntmps9
    go_wp2_with fail
    refine (VaryLives.lives_c _).mono ?_
    rintro e w1 ⟨rfl, hb⟩
    go_wp2_with fail
    go_ret
    exact ⟨rfl, hb⟩
def variorumlaw01_VaryOne.Pure : Prop := True
theorem variorumlaw01_VaryOne.walk (_ : variorumlaw01_VaryOne.Pure) (a0 : Option Addr) (len0 cap0 : Nat) (z0 : List Int) (w : World) (w0 : (a0 = none ∧ len0 = 0 ∧ cap0 = 0 ∧ z0 = []) ∨ ∃ x, a0 = some x ∧ len0 ≤ cap0 ∧ cap0 ≤ maxLen ∧ z0.length = cap0 ∧ (∀ i, i < z0.length → w.cell? (x.add i) = some (.int .u8 (z0.getD i 0))) ∧ ∀ n ∈ z0, (Lit.int .u8 n).wf = true) (y0 : len0 * 1 ≤ 140737488351232) :
    Calls Try.prog 9 #[.slice a0 len0 cap0] w fun e w' => e = .returned (.bool true) ∧ Below w.heap.size w w' := by
  obtain ⟨l0, rfl, hr0, hm0, hw0, hc0⟩ := ReadsInt.ofRowC w0
  exact variorumlaw01_VaryOne.holds _ _ l0 w (Kd.C_of_reads (d := (0 : Int)) (h1 := fun _ => rfl) hr0) hc0 y0 hw0

end Go.Proofs.Ytgefpgbofhcmdaa.P

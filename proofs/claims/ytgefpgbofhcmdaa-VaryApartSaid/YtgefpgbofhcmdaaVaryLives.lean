/- The first chapter's examples. -/
import Derived.Test.YtgefpgbofhcmdaaVaryP
import Derived.Test.YtgefpgbofhcmdaaVaryM
namespace Go.Proofs.Ytgefpgbofhcmdaa.VaryLives
open Go.RowKit Go.Proofs.Ytgefpgbofhcmdaa.P Go.Proofs.YtgefpgbofhcmdaaW.PrintWords Go.Proofs.YtgefpgbofhcmdaaW.PrintLast Go.Proofs.YtgefpgbofhcmdaaW.PrintMore Go.Proofs.Ytgefpgbofhcmdaa.Own Go.Proofs.Ytgefpgbofhcmdaa.Vy

set_option linter.unusedSimpArgs false
set_option linter.unusedVariables false
def lives.T2 : Bool × List (List Nat × List Nat) := (true, [([], []), ([0], [0]), ([], []), ([2], [2]), ([1, 3], [1, 3]), ([4, 0], [4]), ([5, 5], [5]), ([6, 5], [5, 6]), ([5], [5]), ([8, 5], [5, 8]), ([7, 9, 5], [5, 7, 9]), ([5, 10], [5, 10]), ([11, 6], [11]), ([12, 12], [12]), ([13, 12], [12, 13]), ([12], [12]), ([15, 12], [12, 15]), ([14, 16, 12], [12, 14, 16]), ([12, 17], [12, 17]), ([18, 13], [18]), ([19], [19]), ([20, 19], [19, 20]), ([19, 21], [19, 21]), ([22, 19], [22]), ([23], [23]), ([24, 23, 23], [23, 24]), ([25, 23], [23, 25]), ([23, 26], [23, 26]), ([27, 25], [27]), ([28], [28]), ([29, 28, 28], [28, 29]), ([28, 30], [28, 30]), ([31, 30, 0, 1, 2, 3, 4, 5, 6, 7, 8, 9, 10, 11, 12, 13, 14, 15, 16, 17, 18, 19, 20, 21, 22, 23, 24, 25, 26, 27, 28, 29, 30, 31], [31])])
def lives.B2 : List Nat := [0, 1, 0, 4, 15, 31, 63, 127, 63, 319, 1023, 2047, 4095, 8191, 16383, 8191, 40959, 131071, 262143, 524287, 1048575, 2097151, 4194303, 8388607, 16777215, 33554431, 67108863, 134217727, 268435455, 536870911, 1073741823, 2147483647, 4294967295]
theorem lives.tab2 : rtab .any (opsOf Try.f22 2) = lives.T2 := by kernel_rfl
theorem lives.bits2 : waitsOk lives.T2.2 lives.B2 = true := by kernel_rfl
theorem put300 : putL [] 300 = [172, 2] := by
  rw [show (300 : Int) = ((300 : Nat) : Int) from rfl, putL_good (by decide), enc_ge (by decide), enc_lt (by decide)]; rfl
theorem put_m1 : putSL [] (-1) = [1] := by
  unfold putSL; rw [if_neg (by decide)]
  rw [show zig (-1) = ((1 : Nat) : Int) from rfl, putL_good (by decide), enc_lt (by decide)]; rfl
theorem put_ab : putTL [] (numsOf ⟨#[97, 98]⟩) = [2, 97, 98] := by
  unfold putTL
  rw [show ((numsOf ⟨#[97, 98]⟩).length : Int) = ((2 : Nat) : Int) from rfl, putL_good (by decide), enc_lt (by decide)]; rfl
theorem num_1280 : numL [128, 0] = (0, 0) := by decide +kernel
theorem c0 (w : World) : Calls Try.prog 23 #[.slice none 0 0, .int .i64 300] w fun e w' => ∃ v', e = .returned v' ∧ Sl w' v' [172, 2] ∧ Below w.heap.size w w' := by
  refine (VaryP.nPut _ [] 300 w (Sl.nil w) (by decide)).mono ?_
  rintro e w' ⟨v', he, hg, hb⟩
  rw [put300] at hg
  exact ⟨v', he, hg.sl, hb⟩
theorem c1 (w : World) : Calls Try.prog 25 #[.slice none 0 0, .int .i64 (-1)] w fun e w' => ∃ v', e = .returned v' ∧ Sl w' v' [1] ∧ Below w.heap.size w w' := by
  refine (VaryP.nPutSigned _ [] (-1) w (Sl.nil w) (by decide)).mono ?_
  rintro e w' ⟨v', he, hg, hb⟩
  rw [put_m1] at hg
  exact ⟨v', he, hg.sl, hb⟩
theorem c2 (w : World) : Calls Try.prog 27 #[.slice none 0 0, .string ⟨#[97, 98]⟩] w fun e w' => ∃ v', e = .returned v' ∧ Sl w' v' [2, 97, 98] ∧ Below w.heap.size w w' := by
  refine (VaryP.nPutText _ [] ⟨#[97, 98]⟩ w (Sl.nil w) (by decide)).mono ?_
  rintro e w' ⟨v', he, hg, hb⟩
  rw [put_ab] at hg
  exact ⟨v', he, hg.sl, hb⟩
theorem c3 (g : Nat) (w : World) (v : Value) (h : VaryR.Rd g w v [128, 0] 0 false) : Calls Try.prog 31 #[.pointer (some ⟨g, 0, none⟩)] w fun e w' => e = .returned (.int .i64 0) ∧ VaryR.Rd g w' v [128, 0] 0 true ∧ VaryR.But g w w' := by
  have := VaryR.nNum g w v [128, 0] 0 false h (by intro x hx; simp at hx; omega)
  rw [List.drop_zero, num_1280] at this
  exact this
set_option maxHeartbeats 8000000 in
set_option maxRecDepth 100000 in
theorem lives_c (w : World) : Calls Try.prog 22 #[] w fun e w' => e = .returned (.bool true) ∧ Below w.heap.size w w' := by
  go_enter Try.func22, Try.ntmps22
  go_wp2_with fail
  have hsl : Sl (w.alloc (.cells #[.int .u8 128, .int .u8 0] 5)) (.slice (some ⟨w.heap.size, 0, none⟩) 2 2) [128, 0] := Sl.lit (l := [128, 0]) rfl (by decide)
  refine (VaryR.nRead _ _ [128, 0] hsl (by decide)).mono ?_
  rintro e w1 ⟨rfl, h1, h2, h3⟩
  obtain ⟨g, hg⟩ : ∃ g, g = (w.alloc (.cells #[.int .u8 128, .int .u8 0] 5)).heap.size := ⟨_, rfl⟩
  have HB := Aside0.mk ((below_alloc (Below.refl w.heap.size w) _).trans (h2.mono (by simp)))
  have HG := Aside0.mk (show w.heap.size ≤ g by rw [hg]; simp)
  have HR := Aside0.mk h1
  rw [← hg] at HR ⊢
  have hv : ∃ v : Value, v = .slice (some ⟨w.heap.size, 0, none⟩) 2 2 := ⟨_, rfl⟩
  obtain ⟨v, hv⟩ := hv
  have HR1 : Aside0 (VaryR.Rd g w1 v [128, 0] 0 false) := Aside0.mk (by rw [hv]; exact HR.out)
  clear h1 h2 h3 hg HR hv hsl
  go_wp2_with fail
  refine start_ (n := 33) (S := fun w' => True) (ds := []) #[false, false, false, false, false, false, false, false, false, false, false, false, false, false, false, false, false, false, false, false, false, false, false, false, false, false, false, false, false, false, false, false, false] (by kernel_rfl) rfl rfl trivial (fun hHeld => ?_); refine with_tabW lives.tab2 lives.bits2 (fun HT_ HW_ => ?_)
  refine inv_at [0, 1, 2, 3, 4, 5, 6, 7, 8, 9, 10, 11, 12, 13, 14, 15, 16, 17, 18, 19, 20, 21, 22, 23, 24, 25, 26, 27, 28, 29, 30, 31, 32] (fun a0_ b a w' => ∃ (v4 : Value) (v6 : Value) (v10 : Value) (v12 : Value) (v17 : Value) (v19 : Value), a = putSel a0_ b [(0, 4, v4), (1, 5, (.string (strOfNums [172, 2]))), (2, 6, v6), (3, 7, (.string (strOfNums [172, 2]))), (4, 8, (.bool true)), (5, 9, (.bool true)), (6, 10, v10), (7, 11, (.string (strOfNums [1]))), (8, 12, v12), (9, 13, (.string (strOfNums [1]))), (10, 14, (.bool true)), (11, 15, (.bool true)), (12, 16, (.bool true)), (13, 17, v17), (14, 18, (.string (strOfNums [2, 97, 98]))), (15, 19, v19), (16, 20, (.string (strOfNums [2, 97, 98]))), (17, 21, (.bool true)), (18, 22, (.bool true)), (19, 23, (.bool true)), (20, 24, (.pointer (some ⟨g, 0, none⟩))), (21, 25, (.bool true)), (22, 26, (.bool true)), (23, 27, (.bool true)), (24, 28, (.pointer (some ⟨g, 0, none⟩))), (25, 29, (.int .i64 0)), (26, 30, (.bool true)), (27, 31, (.bool true)), (28, 32, (.bool true)), (29, 33, (.pointer (some ⟨g, 0, none⟩))), (30, 34, (.bool true)), (31, 35, (.bool true)), (32, 0, (.bool true))] ∧ (Below w.heap.size w w') ∧ (b 25 = false → VaryR.Rd g w' v [128, 0] 0 false) ∧ (b 0 = true → Sl w' v4 [172, 2]) ∧ (b 2 = true → Sl w' v6 [172, 2]) ∧ (b 6 = true → Sl w' v10 [1]) ∧ (b 8 = true → Sl w' v12 [1]) ∧ (b 13 = true → Sl w' v17 [2, 97, 98]) ∧ (b 15 = true → Sl w' v19 [2, 97, 98]) ∧ (b 25 = true → VaryR.Rd g w' v [128, 0] 0 true)) HT_.out HW_.out (by kernel_rfl) (by kernel_rfl) ?_ ?_ ?_
  · exact ⟨.bool false, .bool false, .bool false, .bool false, .bool false, .bool false, by simp only [putSel, Bool.false_eq_true, if_false], below_drew1 HB.out, fun _ => HR1.out.below (below_drew1 (Below.refl _ _)), fun h_ => absurd h_ (by decide), fun h_ => absurd h_ (by decide), fun h_ => absurd h_ (by decide), fun h_ => absurd h_ (by decide), fun h_ => absurd h_ (by decide), fun h_ => absurd h_ (by decide), fun h_ => absurd h_ (by decide)⟩
  · skip
    clear HB HR1
    refine steps_cons ?_ ?_
    · rintro b a w' ⟨v4, v6, v10, v12, v17, v19, ha, Q_HB, Q_HR1, Q_S4, Q_S6, Q_S10, Q_S12, Q_S17, Q_S19, Q_HR2⟩ hb_ hon hoff
      refine ⟨_, rfl, fun K hK => ?_⟩
      replace ha := Aside0.mk ha
      have HB := Aside0.mk Q_HB
      have HR1 := Aside0.mk (Q_HR1 (hoff 25 (by kernel_rfl)))
      refine goes_ Try.func23 (by kernel_rfl) rfl #[(.slice none 0 0), (.int .i64 300)] (by rfl) rfl rfl (by first | (simp only [List.map_toArray, List.map_cons, List.map_nil, Act.eval, Array.getD_eq_getD_getElem?, Option.getD_some]; done) | (simp only [List.map_toArray, List.map_cons, List.map_nil, Act.eval, Array.getD_eq_getD_getElem?, Option.getD_some]; rfl)) ?_
      refine (c0 _).mono ?_
      rintro e w1_ ⟨v4, rfl, hs, hb⟩
      refine ⟨_, rfl, ?_⟩
      refine hK.out _ _ ⟨v4, v6, v10, v12, v17, v19, (by rw [ha.out]; exact putSel_upk 0 hb_ rfl rfl rfl), below_step HB.out hb, fun _ => HR1.out.below hb, fun _ => hs, fun h0_ => (Q_S6 h0_).below hb, fun h0_ => absurd ((hoff 6 (by kernel_rfl)).symm.trans h0_) (by decide), fun h0_ => absurd ((hoff 8 (by kernel_rfl)).symm.trans h0_) (by decide), fun h0_ => absurd ((hoff 13 (by kernel_rfl)).symm.trans h0_) (by decide), fun h0_ => absurd ((hoff 15 (by kernel_rfl)).symm.trans h0_) (by decide), fun h0_ => absurd ((hoff 25 (by kernel_rfl)).symm.trans h0_) (by decide)⟩
    refine steps_cons ?_ ?_
    · rintro b a w' ⟨v4, v6, v10, v12, v17, v19, ha, Q_HB, Q_HR1, Q_S4, Q_S6, Q_S10, Q_S12, Q_S17, Q_S19, Q_HR2⟩ hb_ hon hoff
      refine ⟨_, rfl, fun K hK => ?_⟩
      have e4 : a.tmps[4]? = some (v4) := by rw [ha]; exact putSel_on (e := (0, 4, v4)) 0 rfl rfl (hon 0 (by kernel_rfl)) rfl
      replace ha := Aside0.mk ha
      have HB := Aside0.mk Q_HB
      have HR1 := Aside0.mk (Q_HR1 (hoff 25 (by kernel_rfl)))
      have S4 := Aside0.mk (Q_S4 (hon 0 (by kernel_rfl)))
      have hc_ := Sl.string (P := Try.prog) Try.underlying22 Try.underlying5 Try.underlying9 S4.out
      refine value_ (w1 := w') (v := (.string (strOfNums [172, 2]))) (by rfl) rfl ?_ ?_
      · go_simp
        (try simp only [i64_w])
        try rfl
      refine hK.out _ _ ⟨v4, v6, v10, v12, v17, v19, (by rw [ha.out]; exact putSel_upk 1 hb_ rfl rfl rfl), Q_HB, Q_HR1, Q_S4, Q_S6, fun h0_ => absurd ((hoff 6 (by kernel_rfl)).symm.trans h0_) (by decide), fun h0_ => absurd ((hoff 8 (by kernel_rfl)).symm.trans h0_) (by decide), fun h0_ => absurd ((hoff 13 (by kernel_rfl)).symm.trans h0_) (by decide), fun h0_ => absurd ((hoff 15 (by kernel_rfl)).symm.trans h0_) (by decide), fun h0_ => absurd ((hoff 25 (by kernel_rfl)).symm.trans h0_) (by decide)⟩
    refine steps_cons ?_ ?_
    · rintro b a w' ⟨v4, v6, v10, v12, v17, v19, ha, Q_HB, Q_HR1, Q_S4, Q_S6, Q_S10, Q_S12, Q_S17, Q_S19, Q_HR2⟩ hb_ hon hoff
      refine ⟨_, rfl, fun K hK => ?_⟩
      replace ha := Aside0.mk ha
      have HB := Aside0.mk Q_HB
      have HR1 := Aside0.mk (Q_HR1 (hoff 25 (by kernel_rfl)))
      refine value_lit (P := Try.prog) (C := #[.int .u8 172, .int .u8 2]) (T := 5) (l := [172, 2]) (by rfl) rfl (by go_simp) rfl (by decide) ?_
      intro v6 w1_ hs hb
      refine hK.out _ _ ⟨v4, v6, v10, v12, v17, v19, (by rw [ha.out]; exact putSel_upk 2 hb_ rfl rfl rfl), below_step HB.out hb, fun _ => HR1.out.below hb, fun h0_ => (Q_S4 h0_).below hb, fun _ => hs, fun h0_ => absurd ((hoff 6 (by kernel_rfl)).symm.trans h0_) (by decide), fun h0_ => absurd ((hoff 8 (by kernel_rfl)).symm.trans h0_) (by decide), fun h0_ => absurd ((hoff 13 (by kernel_rfl)).symm.trans h0_) (by decide), fun h0_ => absurd ((hoff 15 (by kernel_rfl)).symm.trans h0_) (by decide), fun h0_ => absurd ((hoff 25 (by kernel_rfl)).symm.trans h0_) (by decide)⟩
    refine steps_cons ?_ ?_
    · rintro b a w' ⟨v4, v6, v10, v12, v17, v19, ha, Q_HB, Q_HR1, Q_S4, Q_S6, Q_S10, Q_S12, Q_S17, Q_S19, Q_HR2⟩ hb_ hon hoff
      refine ⟨_, rfl, fun K hK => ?_⟩
      have e6 : a.tmps[6]? = some (v6) := by rw [ha]; exact putSel_on (e := (2, 6, v6)) 2 rfl rfl (hon 2 (by kernel_rfl)) rfl
      replace ha := Aside0.mk ha
      have HB := Aside0.mk Q_HB
      have HR1 := Aside0.mk (Q_HR1 (hoff 25 (by kernel_rfl)))
      have S6 := Aside0.mk (Q_S6 (hon 2 (by kernel_rfl)))
      have hc_ := Sl.string (P := Try.prog) Try.underlying22 Try.underlying5 Try.underlying9 S6.out
      refine value_ (w1 := w') (v := (.string (strOfNums [172, 2]))) (by rfl) rfl ?_ ?_
      · go_simp
        (try simp only [i64_w])
        try rfl
      refine hK.out _ _ ⟨v4, v6, v10, v12, v17, v19, (by rw [ha.out]; exact putSel_upk 3 hb_ rfl rfl rfl), Q_HB, Q_HR1, Q_S4, Q_S6, fun h0_ => absurd ((hoff 6 (by kernel_rfl)).symm.trans h0_) (by decide), fun h0_ => absurd ((hoff 8 (by kernel_rfl)).symm.trans h0_) (by decide), fun h0_ => absurd ((hoff 13 (by kernel_rfl)).symm.trans h0_) (by decide), fun h0_ => absurd ((hoff 15 (by kernel_rfl)).symm.trans h0_) (by decide), fun h0_ => absurd ((hoff 25 (by kernel_rfl)).symm.trans h0_) (by decide)⟩
    refine steps_cons ?_ ?_
    · rintro b a w' ⟨v4, v6, v10, v12, v17, v19, ha, Q_HB, Q_HR1, Q_S4, Q_S6, Q_S10, Q_S12, Q_S17, Q_S19, Q_HR2⟩ hb_ hon hoff
      refine ⟨_, rfl, fun K hK => ?_⟩
      have e5 : a.tmps[5]? = some ((.string (strOfNums [172, 2]))) := by rw [ha]; exact putSel_on (e := (1, 5, (.string (strOfNums [172, 2])))) 1 rfl rfl (hon 1 (by kernel_rfl)) rfl
      have e7 : a.tmps[7]? = some ((.string (strOfNums [172, 2]))) := by rw [ha]; exact putSel_on (e := (3, 7, (.string (strOfNums [172, 2])))) 3 rfl rfl (hon 3 (by kernel_rfl)) rfl
      replace ha := Aside0.mk ha
      have HB := Aside0.mk Q_HB
      have HR1 := Aside0.mk (Q_HR1 (hoff 25 (by kernel_rfl)))
      have S4 := Aside0.mk (Q_S4 (hon 0 (by kernel_rfl)))
      have S6 := Aside0.mk (Q_S6 (hon 2 (by kernel_rfl)))
      refine value_ (w1 := w') (v := (.bool true)) (by rfl) rfl ?_ ?_
      · go_simp
        (try simp only [i64_w])
        try rfl
      refine hK.out _ _ ⟨v4, v6, v10, v12, v17, v19, (by rw [ha.out]; exact putSel_upk 4 hb_ rfl rfl rfl), Q_HB, Q_HR1, Q_S4, Q_S6, fun h0_ => absurd ((hoff 6 (by kernel_rfl)).symm.trans h0_) (by decide), fun h0_ => absurd ((hoff 8 (by kernel_rfl)).symm.trans h0_) (by decide), fun h0_ => absurd ((hoff 13 (by kernel_rfl)).symm.trans h0_) (by decide), fun h0_ => absurd ((hoff 15 (by kernel_rfl)).symm.trans h0_) (by decide), fun h0_ => absurd ((hoff 25 (by kernel_rfl)).symm.trans h0_) (by decide)⟩
    refine steps_cons ?_ ?_
    · rintro b a w' ⟨v4, v6, v10, v12, v17, v19, ha, Q_HB, Q_HR1, Q_S4, Q_S6, Q_S10, Q_S12, Q_S17, Q_S19, Q_HR2⟩ hb_ hon hoff
      refine ⟨_, rfl, fun K hK => ?_⟩
      have e8 : a.tmps[8]? = some ((.bool true)) := by rw [ha]; exact putSel_on (e := (4, 8, (.bool true))) 4 rfl rfl (hon 4 (by kernel_rfl)) rfl
      replace ha := Aside0.mk ha
      have HB := Aside0.mk Q_HB
      have HR1 := Aside0.mk (Q_HR1 (hoff 25 (by kernel_rfl)))
      have S4 := Aside0.mk (Q_S4 (hon 0 (by kernel_rfl)))
      have S6 := Aside0.mk (Q_S6 (hon 2 (by kernel_rfl)))
      refine value_ (w1 := w') (v := (.bool true)) (by rfl) rfl ?_ ?_
      · go_simp
        (try simp only [i64_w])
        try rfl
      refine hK.out _ _ ⟨v4, v6, v10, v12, v17, v19, (by rw [ha.out]; exact putSel_upk 5 hb_ rfl rfl rfl), Q_HB, Q_HR1, Q_S4, Q_S6, fun h0_ => absurd ((hoff 6 (by kernel_rfl)).symm.trans h0_) (by decide), fun h0_ => absurd ((hoff 8 (by kernel_rfl)).symm.trans h0_) (by decide), fun h0_ => absurd ((hoff 13 (by kernel_rfl)).symm.trans h0_) (by decide), fun h0_ => absurd ((hoff 15 (by kernel_rfl)).symm.trans h0_) (by decide), fun h0_ => absurd ((hoff 25 (by kernel_rfl)).symm.trans h0_) (by decide)⟩
    refine steps_cons ?_ ?_
    · rintro b a w' ⟨v4, v6, v10, v12, v17, v19, ha, Q_HB, Q_HR1, Q_S4, Q_S6, Q_S10, Q_S12, Q_S17, Q_S19, Q_HR2⟩ hb_ hon hoff
      refine ⟨_, rfl, fun K hK => ?_⟩
      have e9 : a.tmps[9]? = some ((.bool true)) := by rw [ha]; exact putSel_on (e := (5, 9, (.bool true))) 5 rfl rfl (hon 5 (by kernel_rfl)) rfl
      replace ha := Aside0.mk ha
      have HB := Aside0.mk Q_HB
      have HR1 := Aside0.mk (Q_HR1 (hoff 25 (by kernel_rfl)))
      have S4 := Aside0.mk (Q_S4 (hon 0 (by kernel_rfl)))
      have S6 := Aside0.mk (Q_S6 (hon 2 (by kernel_rfl)))
      refine goes_ Try.func25 (by kernel_rfl) rfl #[(.slice none 0 0), (.int .i64 (-1))] (wanted_on rfl rfl rfl (e9.trans (by first | rfl | (simp [*]; done)))) rfl rfl (by first | (simp only [List.map_toArray, List.map_cons, List.map_nil, Act.eval, Array.getD_eq_getD_getElem?, Option.getD_some, e9]; done) | (simp only [List.map_toArray, List.map_cons, List.map_nil, Act.eval, Array.getD_eq_getD_getElem?, Option.getD_some, e9]; rfl)) ?_
      refine (c1 _).mono ?_
      rintro e w1_ ⟨v10, rfl, hs, hb⟩
      refine ⟨_, rfl, ?_⟩
      refine hK.out _ _ ⟨v4, v6, v10, v12, v17, v19, (by rw [ha.out]; exact putSel_upk 6 hb_ rfl rfl rfl), below_step HB.out hb, fun _ => HR1.out.below hb, fun _ => S4.out.below hb, fun _ => S6.out.below hb, fun _ => hs, fun h0_ => (Q_S12 h0_).below hb, fun h0_ => absurd ((hoff 13 (by kernel_rfl)).symm.trans h0_) (by decide), fun h0_ => absurd ((hoff 15 (by kernel_rfl)).symm.trans h0_) (by decide), fun h0_ => absurd ((hoff 25 (by kernel_rfl)).symm.trans h0_) (by decide)⟩
    refine steps_cons ?_ ?_
    · rintro b a w' ⟨v4, v6, v10, v12, v17, v19, ha, Q_HB, Q_HR1, Q_S4, Q_S6, Q_S10, Q_S12, Q_S17, Q_S19, Q_HR2⟩ hb_ hon hoff
      refine ⟨_, rfl, fun K hK => ?_⟩
      have e10 : a.tmps[10]? = some (v10) := by rw [ha]; exact putSel_on (e := (6, 10, v10)) 6 rfl rfl (hon 6 (by kernel_rfl)) rfl
      have e9 : a.tmps[9]? = some ((.bool true)) := by rw [ha]; exact putSel_on (e := (5, 9, (.bool true))) 5 rfl rfl (hon 5 (by kernel_rfl)) rfl
      replace ha := Aside0.mk ha
      have HB := Aside0.mk Q_HB
      have HR1 := Aside0.mk (Q_HR1 (hoff 25 (by kernel_rfl)))
      have S4 := Aside0.mk (Q_S4 (hon 0 (by kernel_rfl)))
      have S6 := Aside0.mk (Q_S6 (hon 2 (by kernel_rfl)))
      have S10 := Aside0.mk (Q_S10 (hon 6 (by kernel_rfl)))
      have hc_ := Sl.string (P := Try.prog) Try.underlying22 Try.underlying5 Try.underlying9 S10.out
      refine value_ (w1 := w') (v := (.string (strOfNums [1]))) (wanted_on rfl rfl rfl (e9.trans (by first | rfl | (simp [*]; done)))) rfl ?_ ?_
      · go_simp
        (try simp only [i64_w])
        try rfl
      refine hK.out _ _ ⟨v4, v6, v10, v12, v17, v19, (by rw [ha.out]; exact putSel_upk 7 hb_ rfl rfl rfl), Q_HB, Q_HR1, Q_S4, Q_S6, Q_S10, Q_S12, fun h0_ => absurd ((hoff 13 (by kernel_rfl)).symm.trans h0_) (by decide), fun h0_ => absurd ((hoff 15 (by kernel_rfl)).symm.trans h0_) (by decide), fun h0_ => absurd ((hoff 25 (by kernel_rfl)).symm.trans h0_) (by decide)⟩
    refine steps_cons ?_ ?_
    · rintro b a w' ⟨v4, v6, v10, v12, v17, v19, ha, Q_HB, Q_HR1, Q_S4, Q_S6, Q_S10, Q_S12, Q_S17, Q_S19, Q_HR2⟩ hb_ hon hoff
      refine ⟨_, rfl, fun K hK => ?_⟩
      have e9 : a.tmps[9]? = some ((.bool true)) := by rw [ha]; exact putSel_on (e := (5, 9, (.bool true))) 5 rfl rfl (hon 5 (by kernel_rfl)) rfl
      replace ha := Aside0.mk ha
      have HB := Aside0.mk Q_HB
      have HR1 := Aside0.mk (Q_HR1 (hoff 25 (by kernel_rfl)))
      have S4 := Aside0.mk (Q_S4 (hon 0 (by kernel_rfl)))
      have S6 := Aside0.mk (Q_S6 (hon 2 (by kernel_rfl)))
      refine value_lit (P := Try.prog) (C := #[.int .u8 1]) (T := 5) (l := [1]) (wanted_on rfl rfl rfl (e9.trans (by first | rfl | (simp [*]; done)))) rfl (by go_simp) rfl (by decide) ?_
      intro v12 w1_ hs hb
      refine hK.out _ _ ⟨v4, v6, v10, v12, v17, v19, (by rw [ha.out]; exact putSel_upk 8 hb_ rfl rfl rfl), below_step HB.out hb, fun _ => HR1.out.below hb, fun _ => S4.out.below hb, fun _ => S6.out.below hb, fun h0_ => (Q_S10 h0_).below hb, fun _ => hs, fun h0_ => absurd ((hoff 13 (by kernel_rfl)).symm.trans h0_) (by decide), fun h0_ => absurd ((hoff 15 (by kernel_rfl)).symm.trans h0_) (by decide), fun h0_ => absurd ((hoff 25 (by kernel_rfl)).symm.trans h0_) (by decide)⟩
    refine steps_cons ?_ ?_
    · rintro b a w' ⟨v4, v6, v10, v12, v17, v19, ha, Q_HB, Q_HR1, Q_S4, Q_S6, Q_S10, Q_S12, Q_S17, Q_S19, Q_HR2⟩ hb_ hon hoff
      refine ⟨_, rfl, fun K hK => ?_⟩
      have e12 : a.tmps[12]? = some (v12) := by rw [ha]; exact putSel_on (e := (8, 12, v12)) 8 rfl rfl (hon 8 (by kernel_rfl)) rfl
      have e9 : a.tmps[9]? = some ((.bool true)) := by rw [ha]; exact putSel_on (e := (5, 9, (.bool true))) 5 rfl rfl (hon 5 (by kernel_rfl)) rfl
      replace ha := Aside0.mk ha
      have HB := Aside0.mk Q_HB
      have HR1 := Aside0.mk (Q_HR1 (hoff 25 (by kernel_rfl)))
      have S4 := Aside0.mk (Q_S4 (hon 0 (by kernel_rfl)))
      have S6 := Aside0.mk (Q_S6 (hon 2 (by kernel_rfl)))
      have S12 := Aside0.mk (Q_S12 (hon 8 (by kernel_rfl)))
      have hc_ := Sl.string (P := Try.prog) Try.underlying22 Try.underlying5 Try.underlying9 S12.out
      refine value_ (w1 := w') (v := (.string (strOfNums [1]))) (wanted_on rfl rfl rfl (e9.trans (by first | rfl | (simp [*]; done)))) rfl ?_ ?_
      · go_simp
        (try simp only [i64_w])
        try rfl
      refine hK.out _ _ ⟨v4, v6, v10, v12, v17, v19, (by rw [ha.out]; exact putSel_upk 9 hb_ rfl rfl rfl), Q_HB, Q_HR1, Q_S4, Q_S6, Q_S10, Q_S12, fun h0_ => absurd ((hoff 13 (by kernel_rfl)).symm.trans h0_) (by decide), fun h0_ => absurd ((hoff 15 (by kernel_rfl)).symm.trans h0_) (by decide), fun h0_ => absurd ((hoff 25 (by kernel_rfl)).symm.trans h0_) (by decide)⟩
    refine steps_cons ?_ ?_
    · rintro b a w' ⟨v4, v6, v10, v12, v17, v19, ha, Q_HB, Q_HR1, Q_S4, Q_S6, Q_S10, Q_S12, Q_S17, Q_S19, Q_HR2⟩ hb_ hon hoff
      refine ⟨_, rfl, fun K hK => ?_⟩
      have e11 : a.tmps[11]? = some ((.string (strOfNums [1]))) := by rw [ha]; exact putSel_on (e := (7, 11, (.string (strOfNums [1])))) 7 rfl rfl (hon 7 (by kernel_rfl)) rfl
      have e13 : a.tmps[13]? = some ((.string (strOfNums [1]))) := by rw [ha]; exact putSel_on (e := (9, 13, (.string (strOfNums [1])))) 9 rfl rfl (hon 9 (by kernel_rfl)) rfl
      have e9 : a.tmps[9]? = some ((.bool true)) := by rw [ha]; exact putSel_on (e := (5, 9, (.bool true))) 5 rfl rfl (hon 5 (by kernel_rfl)) rfl
      replace ha := Aside0.mk ha
      have HB := Aside0.mk Q_HB
      have HR1 := Aside0.mk (Q_HR1 (hoff 25 (by kernel_rfl)))
      have S4 := Aside0.mk (Q_S4 (hon 0 (by kernel_rfl)))
      have S6 := Aside0.mk (Q_S6 (hon 2 (by kernel_rfl)))
      have S10 := Aside0.mk (Q_S10 (hon 6 (by kernel_rfl)))
      have S12 := Aside0.mk (Q_S12 (hon 8 (by kernel_rfl)))
      refine value_ (w1 := w') (v := (.bool true)) (wanted_on rfl rfl rfl (e9.trans (by first | rfl | (simp [*]; done)))) rfl ?_ ?_
      · go_simp
        (try simp only [i64_w])
        try rfl
      refine hK.out _ _ ⟨v4, v6, v10, v12, v17, v19, (by rw [ha.out]; exact putSel_upk 10 hb_ rfl rfl rfl), Q_HB, Q_HR1, Q_S4, Q_S6, Q_S10, Q_S12, fun h0_ => absurd ((hoff 13 (by kernel_rfl)).symm.trans h0_) (by decide), fun h0_ => absurd ((hoff 15 (by kernel_rfl)).symm.trans h0_) (by decide), fun h0_ => absurd ((hoff 25 (by kernel_rfl)).symm.trans h0_) (by decide)⟩
    refine steps_cons ?_ ?_
    · rintro b a w' ⟨v4, v6, v10, v12, v17, v19, ha, Q_HB, Q_HR1, Q_S4, Q_S6, Q_S10, Q_S12, Q_S17, Q_S19, Q_HR2⟩ hb_ hon hoff
      refine ⟨_, rfl, fun K hK => ?_⟩
      have e9 : a.tmps[9]? = some ((.bool true)) := by rw [ha]; exact putSel_on (e := (5, 9, (.bool true))) 5 rfl rfl (hon 5 (by kernel_rfl)) rfl
      have e14 : a.tmps[14]? = some ((.bool true)) := by rw [ha]; exact putSel_on (e := (10, 14, (.bool true))) 10 rfl rfl (hon 10 (by kernel_rfl)) rfl
      replace ha := Aside0.mk ha
      have HB := Aside0.mk Q_HB
      have HR1 := Aside0.mk (Q_HR1 (hoff 25 (by kernel_rfl)))
      have S4 := Aside0.mk (Q_S4 (hon 0 (by kernel_rfl)))
      have S6 := Aside0.mk (Q_S6 (hon 2 (by kernel_rfl)))
      have S10 := Aside0.mk (Q_S10 (hon 6 (by kernel_rfl)))
      have S12 := Aside0.mk (Q_S12 (hon 8 (by kernel_rfl)))
      refine value_ (w1 := w') (v := (.bool true)) (by rfl) rfl ?_ ?_
      · go_simp
        (try simp only [i64_w])
        try rfl
      refine hK.out _ _ ⟨v4, v6, v10, v12, v17, v19, (by rw [ha.out]; exact putSel_upk 11 hb_ rfl rfl rfl), Q_HB, Q_HR1, Q_S4, Q_S6, Q_S10, Q_S12, fun h0_ => absurd ((hoff 13 (by kernel_rfl)).symm.trans h0_) (by decide), fun h0_ => absurd ((hoff 15 (by kernel_rfl)).symm.trans h0_) (by decide), fun h0_ => absurd ((hoff 25 (by kernel_rfl)).symm.trans h0_) (by decide)⟩
    refine steps_cons ?_ ?_
    · rintro b a w' ⟨v4, v6, v10, v12, v17, v19, ha, Q_HB, Q_HR1, Q_S4, Q_S6, Q_S10, Q_S12, Q_S17, Q_S19, Q_HR2⟩ hb_ hon hoff
      refine ⟨_, rfl, fun K hK => ?_⟩
      have e15 : a.tmps[15]? = some ((.bool true)) := by rw [ha]; exact putSel_on (e := (11, 15, (.bool true))) 11 rfl rfl (hon 11 (by kernel_rfl)) rfl
      replace ha := Aside0.mk ha
      have HB := Aside0.mk Q_HB
      have HR1 := Aside0.mk (Q_HR1 (hoff 25 (by kernel_rfl)))
      have S4 := Aside0.mk (Q_S4 (hon 0 (by kernel_rfl)))
      have S6 := Aside0.mk (Q_S6 (hon 2 (by kernel_rfl)))
      have S10 := Aside0.mk (Q_S10 (hon 6 (by kernel_rfl)))
      have S12 := Aside0.mk (Q_S12 (hon 8 (by kernel_rfl)))
      refine value_ (w1 := w') (v := (.bool true)) (by rfl) rfl ?_ ?_
      · go_simp
        (try simp only [i64_w])
        try rfl
      refine hK.out _ _ ⟨v4, v6, v10, v12, v17, v19, (by rw [ha.out]; exact putSel_upk 12 hb_ rfl rfl rfl), Q_HB, Q_HR1, Q_S4, Q_S6, Q_S10, Q_S12, fun h0_ => absurd ((hoff 13 (by kernel_rfl)).symm.trans h0_) (by decide), fun h0_ => absurd ((hoff 15 (by kernel_rfl)).symm.trans h0_) (by decide), fun h0_ => absurd ((hoff 25 (by kernel_rfl)).symm.trans h0_) (by decide)⟩
    refine steps_cons ?_ ?_
    · rintro b a w' ⟨v4, v6, v10, v12, v17, v19, ha, Q_HB, Q_HR1, Q_S4, Q_S6, Q_S10, Q_S12, Q_S17, Q_S19, Q_HR2⟩ hb_ hon hoff
      refine ⟨_, rfl, fun K hK => ?_⟩
      have e16 : a.tmps[16]? = some ((.bool true)) := by rw [ha]; exact putSel_on (e := (12, 16, (.bool true))) 12 rfl rfl (hon 12 (by kernel_rfl)) rfl
      replace ha := Aside0.mk ha
      have HB := Aside0.mk Q_HB
      have HR1 := Aside0.mk (Q_HR1 (hoff 25 (by kernel_rfl)))
      have S4 := Aside0.mk (Q_S4 (hon 0 (by kernel_rfl)))
      have S6 := Aside0.mk (Q_S6 (hon 2 (by kernel_rfl)))
      have S10 := Aside0.mk (Q_S10 (hon 6 (by kernel_rfl)))
      have S12 := Aside0.mk (Q_S12 (hon 8 (by kernel_rfl)))
      refine goes_ Try.func27 (by kernel_rfl) rfl #[(.slice none 0 0), (.string (⟨#[97, 98]⟩ : ByteArray))] (wanted_on rfl rfl rfl (e16.trans (by first | rfl | (simp [*]; done)))) rfl rfl (by first | (simp only [List.map_toArray, List.map_cons, List.map_nil, Act.eval, Array.getD_eq_getD_getElem?, Option.getD_some, e16]; done) | (simp only [List.map_toArray, List.map_cons, List.map_nil, Act.eval, Array.getD_eq_getD_getElem?, Option.getD_some, e16]; rfl)) ?_
      refine (c2 _).mono ?_
      rintro e w1_ ⟨v17, rfl, hs, hb⟩
      refine ⟨_, rfl, ?_⟩
      refine hK.out _ _ ⟨v4, v6, v10, v12, v17, v19, (by rw [ha.out]; exact putSel_upk 13 hb_ rfl rfl rfl), below_step HB.out hb, fun _ => HR1.out.below hb, fun _ => S4.out.below hb, fun _ => S6.out.below hb, fun _ => S10.out.below hb, fun _ => S12.out.below hb, fun _ => hs, fun h0_ => (Q_S19 h0_).below hb, fun h0_ => absurd ((hoff 25 (by kernel_rfl)).symm.trans h0_) (by decide)⟩
    refine steps_cons ?_ ?_
    · rintro b a w' ⟨v4, v6, v10, v12, v17, v19, ha, Q_HB, Q_HR1, Q_S4, Q_S6, Q_S10, Q_S12, Q_S17, Q_S19, Q_HR2⟩ hb_ hon hoff
      refine ⟨_, rfl, fun K hK => ?_⟩
      have e17 : a.tmps[17]? = some (v17) := by rw [ha]; exact putSel_on (e := (13, 17, v17)) 13 rfl rfl (hon 13 (by kernel_rfl)) rfl
      have e16 : a.tmps[16]? = some ((.bool true)) := by rw [ha]; exact putSel_on (e := (12, 16, (.bool true))) 12 rfl rfl (hon 12 (by kernel_rfl)) rfl
      replace ha := Aside0.mk ha
      have HB := Aside0.mk Q_HB
      have HR1 := Aside0.mk (Q_HR1 (hoff 25 (by kernel_rfl)))
      have S4 := Aside0.mk (Q_S4 (hon 0 (by kernel_rfl)))
      have S6 := Aside0.mk (Q_S6 (hon 2 (by kernel_rfl)))
      have S10 := Aside0.mk (Q_S10 (hon 6 (by kernel_rfl)))
      have S12 := Aside0.mk (Q_S12 (hon 8 (by kernel_rfl)))
      have S17 := Aside0.mk (Q_S17 (hon 13 (by kernel_rfl)))
      have hc_ := Sl.string (P := Try.prog) Try.underlying22 Try.underlying5 Try.underlying9 S17.out
      refine value_ (w1 := w') (v := (.string (strOfNums [2, 97, 98]))) (wanted_on rfl rfl rfl (e16.trans (by first | rfl | (simp [*]; done)))) rfl ?_ ?_
      · go_simp
        (try simp only [i64_w])
        try rfl
      refine hK.out _ _ ⟨v4, v6, v10, v12, v17, v19, (by rw [ha.out]; exact putSel_upk 14 hb_ rfl rfl rfl), Q_HB, Q_HR1, Q_S4, Q_S6, Q_S10, Q_S12, Q_S17, Q_S19, fun h0_ => absurd ((hoff 25 (by kernel_rfl)).symm.trans h0_) (by decide)⟩
    refine steps_cons ?_ ?_
    · rintro b a w' ⟨v4, v6, v10, v12, v17, v19, ha, Q_HB, Q_HR1, Q_S4, Q_S6, Q_S10, Q_S12, Q_S17, Q_S19, Q_HR2⟩ hb_ hon hoff
      refine ⟨_, rfl, fun K hK => ?_⟩
      have e16 : a.tmps[16]? = some ((.bool true)) := by rw [ha]; exact putSel_on (e := (12, 16, (.bool true))) 12 rfl rfl (hon 12 (by kernel_rfl)) rfl
      replace ha := Aside0.mk ha
      have HB := Aside0.mk Q_HB
      have HR1 := Aside0.mk (Q_HR1 (hoff 25 (by kernel_rfl)))
      have S4 := Aside0.mk (Q_S4 (hon 0 (by kernel_rfl)))
      have S6 := Aside0.mk (Q_S6 (hon 2 (by kernel_rfl)))
      have S10 := Aside0.mk (Q_S10 (hon 6 (by kernel_rfl)))
      have S12 := Aside0.mk (Q_S12 (hon 8 (by kernel_rfl)))
      refine value_lit (P := Try.prog) (C := #[.int .u8 2, .int .u8 97, .int .u8 98]) (T := 5) (l := [2, 97, 98]) (wanted_on rfl rfl rfl (e16.trans (by first | rfl | (simp [*]; done)))) rfl (by go_simp) rfl (by decide) ?_
      intro v19 w1_ hs hb
      refine hK.out _ _ ⟨v4, v6, v10, v12, v17, v19, (by rw [ha.out]; exact putSel_upk 15 hb_ rfl rfl rfl), below_step HB.out hb, fun _ => HR1.out.below hb, fun _ => S4.out.below hb, fun _ => S6.out.below hb, fun _ => S10.out.below hb, fun _ => S12.out.below hb, fun h0_ => (Q_S17 h0_).below hb, fun _ => hs, fun h0_ => absurd ((hoff 25 (by kernel_rfl)).symm.trans h0_) (by decide)⟩
    refine steps_cons ?_ ?_
    · rintro b a w' ⟨v4, v6, v10, v12, v17, v19, ha, Q_HB, Q_HR1, Q_S4, Q_S6, Q_S10, Q_S12, Q_S17, Q_S19, Q_HR2⟩ hb_ hon hoff
      refine ⟨_, rfl, fun K hK => ?_⟩
      have e19 : a.tmps[19]? = some (v19) := by rw [ha]; exact putSel_on (e := (15, 19, v19)) 15 rfl rfl (hon 15 (by kernel_rfl)) rfl
      have e16 : a.tmps[16]? = some ((.bool true)) := by rw [ha]; exact putSel_on (e := (12, 16, (.bool true))) 12 rfl rfl (hon 12 (by kernel_rfl)) rfl
      replace ha := Aside0.mk ha
      have HB := Aside0.mk Q_HB
      have HR1 := Aside0.mk (Q_HR1 (hoff 25 (by kernel_rfl)))
      have S4 := Aside0.mk (Q_S4 (hon 0 (by kernel_rfl)))
      have S6 := Aside0.mk (Q_S6 (hon 2 (by kernel_rfl)))
      have S10 := Aside0.mk (Q_S10 (hon 6 (by kernel_rfl)))
      have S12 := Aside0.mk (Q_S12 (hon 8 (by kernel_rfl)))
      have S19 := Aside0.mk (Q_S19 (hon 15 (by kernel_rfl)))
      have hc_ := Sl.string (P := Try.prog) Try.underlying22 Try.underlying5 Try.underlying9 S19.out
      refine value_ (w1 := w') (v := (.string (strOfNums [2, 97, 98]))) (wanted_on rfl rfl rfl (e16.trans (by first | rfl | (simp [*]; done)))) rfl ?_ ?_
      · go_simp
        (try simp only [i64_w])
        try rfl
      refine hK.out _ _ ⟨v4, v6, v10, v12, v17, v19, (by rw [ha.out]; exact putSel_upk 16 hb_ rfl rfl rfl), Q_HB, Q_HR1, Q_S4, Q_S6, Q_S10, Q_S12, Q_S17, Q_S19, fun h0_ => absurd ((hoff 25 (by kernel_rfl)).symm.trans h0_) (by decide)⟩
    refine steps_cons ?_ ?_
    · rintro b a w' ⟨v4, v6, v10, v12, v17, v19, ha, Q_HB, Q_HR1, Q_S4, Q_S6, Q_S10, Q_S12, Q_S17, Q_S19, Q_HR2⟩ hb_ hon hoff
      refine ⟨_, rfl, fun K hK => ?_⟩
      have e18 : a.tmps[18]? = some ((.string (strOfNums [2, 97, 98]))) := by rw [ha]; exact putSel_on (e := (14, 18, (.string (strOfNums [2, 97, 98])))) 14 rfl rfl (hon 14 (by kernel_rfl)) rfl
      have e20 : a.tmps[20]? = some ((.string (strOfNums [2, 97, 98]))) := by rw [ha]; exact putSel_on (e := (16, 20, (.string (strOfNums [2, 97, 98])))) 16 rfl rfl (hon 16 (by kernel_rfl)) rfl
      have e16 : a.tmps[16]? = some ((.bool true)) := by rw [ha]; exact putSel_on (e := (12, 16, (.bool true))) 12 rfl rfl (hon 12 (by kernel_rfl)) rfl
      replace ha := Aside0.mk ha
      have HB := Aside0.mk Q_HB
      have HR1 := Aside0.mk (Q_HR1 (hoff 25 (by kernel_rfl)))
      have S4 := Aside0.mk (Q_S4 (hon 0 (by kernel_rfl)))
      have S6 := Aside0.mk (Q_S6 (hon 2 (by kernel_rfl)))
      have S10 := Aside0.mk (Q_S10 (hon 6 (by kernel_rfl)))
      have S12 := Aside0.mk (Q_S12 (hon 8 (by kernel_rfl)))
      have S17 := Aside0.mk (Q_S17 (hon 13 (by kernel_rfl)))
      have S19 := Aside0.mk (Q_S19 (hon 15 (by kernel_rfl)))
      refine value_ (w1 := w') (v := (.bool true)) (wanted_on rfl rfl rfl (e16.trans (by first | rfl | (simp [*]; done)))) rfl ?_ ?_
      · go_simp
        (try simp only [i64_w])
        try rfl
      refine hK.out _ _ ⟨v4, v6, v10, v12, v17, v19, (by rw [ha.out]; exact putSel_upk 17 hb_ rfl rfl rfl), Q_HB, Q_HR1, Q_S4, Q_S6, Q_S10, Q_S12, Q_S17, Q_S19, fun h0_ => absurd ((hoff 25 (by kernel_rfl)).symm.trans h0_) (by decide)⟩
    refine steps_cons ?_ ?_
    · rintro b a w' ⟨v4, v6, v10, v12, v17, v19, ha, Q_HB, Q_HR1, Q_S4, Q_S6, Q_S10, Q_S12, Q_S17, Q_S19, Q_HR2⟩ hb_ hon hoff
      refine ⟨_, rfl, fun K hK => ?_⟩
      have e16 : a.tmps[16]? = some ((.bool true)) := by rw [ha]; exact putSel_on (e := (12, 16, (.bool true))) 12 rfl rfl (hon 12 (by kernel_rfl)) rfl
      have e21 : a.tmps[21]? = some ((.bool true)) := by rw [ha]; exact putSel_on (e := (17, 21, (.bool true))) 17 rfl rfl (hon 17 (by kernel_rfl)) rfl
      replace ha := Aside0.mk ha
      have HB := Aside0.mk Q_HB
      have HR1 := Aside0.mk (Q_HR1 (hoff 25 (by kernel_rfl)))
      have S4 := Aside0.mk (Q_S4 (hon 0 (by kernel_rfl)))
      have S6 := Aside0.mk (Q_S6 (hon 2 (by kernel_rfl)))
      have S10 := Aside0.mk (Q_S10 (hon 6 (by kernel_rfl)))
      have S12 := Aside0.mk (Q_S12 (hon 8 (by kernel_rfl)))
      have S17 := Aside0.mk (Q_S17 (hon 13 (by kernel_rfl)))
      have S19 := Aside0.mk (Q_S19 (hon 15 (by kernel_rfl)))
      refine value_ (w1 := w') (v := (.bool true)) (by rfl) rfl ?_ ?_
      · go_simp
        (try simp only [i64_w])
        try rfl
      refine hK.out _ _ ⟨v4, v6, v10, v12, v17, v19, (by rw [ha.out]; exact putSel_upk 18 hb_ rfl rfl rfl), Q_HB, Q_HR1, Q_S4, Q_S6, Q_S10, Q_S12, Q_S17, Q_S19, fun h0_ => absurd ((hoff 25 (by kernel_rfl)).symm.trans h0_) (by decide)⟩
    refine steps_cons ?_ ?_
    · rintro b a w' ⟨v4, v6, v10, v12, v17, v19, ha, Q_HB, Q_HR1, Q_S4, Q_S6, Q_S10, Q_S12, Q_S17, Q_S19, Q_HR2⟩ hb_ hon hoff
      refine ⟨_, rfl, fun K hK => ?_⟩
      have e22 : a.tmps[22]? = some ((.bool true)) := by rw [ha]; exact putSel_on (e := (18, 22, (.bool true))) 18 rfl rfl (hon 18 (by kernel_rfl)) rfl
      replace ha := Aside0.mk ha
      have HB := Aside0.mk Q_HB
      have HR1 := Aside0.mk (Q_HR1 (hoff 25 (by kernel_rfl)))
      have S4 := Aside0.mk (Q_S4 (hon 0 (by kernel_rfl)))
      have S6 := Aside0.mk (Q_S6 (hon 2 (by kernel_rfl)))
      have S10 := Aside0.mk (Q_S10 (hon 6 (by kernel_rfl)))
      have S12 := Aside0.mk (Q_S12 (hon 8 (by kernel_rfl)))
      have S17 := Aside0.mk (Q_S17 (hon 13 (by kernel_rfl)))
      have S19 := Aside0.mk (Q_S19 (hon 15 (by kernel_rfl)))
      refine value_ (w1 := w') (v := (.bool true)) (by rfl) rfl ?_ ?_
      · go_simp
        (try simp only [i64_w])
        try rfl
      refine hK.out _ _ ⟨v4, v6, v10, v12, v17, v19, (by rw [ha.out]; exact putSel_upk 19 hb_ rfl rfl rfl), Q_HB, Q_HR1, Q_S4, Q_S6, Q_S10, Q_S12, Q_S17, Q_S19, fun h0_ => absurd ((hoff 25 (by kernel_rfl)).symm.trans h0_) (by decide)⟩
    refine steps_cons ?_ ?_
    · rintro b a w' ⟨v4, v6, v10, v12, v17, v19, ha, Q_HB, Q_HR1, Q_S4, Q_S6, Q_S10, Q_S12, Q_S17, Q_S19, Q_HR2⟩ hb_ hon hoff
      refine ⟨_, rfl, fun K hK => ?_⟩
      have e1 : a.tmps[1]? = some ((.pointer (some ⟨g, 0, none⟩))) := by rw [ha]; exact (putSel_off rfl).trans rfl
      have e23 : a.tmps[23]? = some ((.bool true)) := by rw [ha]; exact putSel_on (e := (19, 23, (.bool true))) 19 rfl rfl (hon 19 (by kernel_rfl)) rfl
      replace ha := Aside0.mk ha
      have HB := Aside0.mk Q_HB
      have HR1 := Aside0.mk (Q_HR1 (hoff 25 (by kernel_rfl)))
      have S4 := Aside0.mk (Q_S4 (hon 0 (by kernel_rfl)))
      have S6 := Aside0.mk (Q_S6 (hon 2 (by kernel_rfl)))
      have S10 := Aside0.mk (Q_S10 (hon 6 (by kernel_rfl)))
      have S12 := Aside0.mk (Q_S12 (hon 8 (by kernel_rfl)))
      have S17 := Aside0.mk (Q_S17 (hon 13 (by kernel_rfl)))
      have S19 := Aside0.mk (Q_S19 (hon 15 (by kernel_rfl)))
      refine value_ (w1 := w') (v := (.pointer (some ⟨g, 0, none⟩))) (wanted_on rfl rfl rfl (e23.trans (by first | rfl | (simp [*]; done)))) rfl ?_ ?_
      · go_simp
        (try simp only [i64_w])
        try rfl
      refine hK.out _ _ ⟨v4, v6, v10, v12, v17, v19, (by rw [ha.out]; exact putSel_upk 20 hb_ rfl rfl rfl), Q_HB, Q_HR1, Q_S4, Q_S6, Q_S10, Q_S12, Q_S17, Q_S19, fun h0_ => absurd ((hoff 25 (by kernel_rfl)).symm.trans h0_) (by decide)⟩
    refine steps_cons ?_ ?_
    · rintro b a w' ⟨v4, v6, v10, v12, v17, v19, ha, Q_HB, Q_HR1, Q_S4, Q_S6, Q_S10, Q_S12, Q_S17, Q_S19, Q_HR2⟩ hb_ hon hoff
      refine ⟨_, rfl, fun K hK => ?_⟩
      have e24 : a.tmps[24]? = some ((.pointer (some ⟨g, 0, none⟩))) := by rw [ha]; exact putSel_on (e := (20, 24, (.pointer (some ⟨g, 0, none⟩)))) 20 rfl rfl (hon 20 (by kernel_rfl)) rfl
      have e23 : a.tmps[23]? = some ((.bool true)) := by rw [ha]; exact putSel_on (e := (19, 23, (.bool true))) 19 rfl rfl (hon 19 (by kernel_rfl)) rfl
      replace ha := Aside0.mk ha
      have HB := Aside0.mk Q_HB
      have HR1 := Aside0.mk (Q_HR1 (hoff 25 (by kernel_rfl)))
      have S4 := Aside0.mk (Q_S4 (hon 0 (by kernel_rfl)))
      have S6 := Aside0.mk (Q_S6 (hon 2 (by kernel_rfl)))
      have S10 := Aside0.mk (Q_S10 (hon 6 (by kernel_rfl)))
      have S12 := Aside0.mk (Q_S12 (hon 8 (by kernel_rfl)))
      have S17 := Aside0.mk (Q_S17 (hon 13 (by kernel_rfl)))
      have S19 := Aside0.mk (Q_S19 (hon 15 (by kernel_rfl)))
      refine value_ (w1 := w') (v := (.bool true)) (wanted_on rfl rfl rfl (e23.trans (by first | rfl | (simp [*]; done)))) rfl ?_ ?_
      · go_simp
        (try simp only [i64_w])
        try rfl
      refine hK.out _ _ ⟨v4, v6, v10, v12, v17, v19, (by rw [ha.out]; exact putSel_upk 21 hb_ rfl rfl rfl), Q_HB, Q_HR1, Q_S4, Q_S6, Q_S10, Q_S12, Q_S17, Q_S19, fun h0_ => absurd ((hoff 25 (by kernel_rfl)).symm.trans h0_) (by decide)⟩
    refine steps_cons ?_ ?_
    · rintro b a w' ⟨v4, v6, v10, v12, v17, v19, ha, Q_HB, Q_HR1, Q_S4, Q_S6, Q_S10, Q_S12, Q_S17, Q_S19, Q_HR2⟩ hb_ hon hoff
      refine ⟨_, rfl, fun K hK => ?_⟩
      have e23 : a.tmps[23]? = some ((.bool true)) := by rw [ha]; exact putSel_on (e := (19, 23, (.bool true))) 19 rfl rfl (hon 19 (by kernel_rfl)) rfl
      have e25 : a.tmps[25]? = some ((.bool true)) := by rw [ha]; exact putSel_on (e := (21, 25, (.bool true))) 21 rfl rfl (hon 21 (by kernel_rfl)) rfl
      replace ha := Aside0.mk ha
      have HB := Aside0.mk Q_HB
      have HR1 := Aside0.mk (Q_HR1 (hoff 25 (by kernel_rfl)))
      have S4 := Aside0.mk (Q_S4 (hon 0 (by kernel_rfl)))
      have S6 := Aside0.mk (Q_S6 (hon 2 (by kernel_rfl)))
      have S10 := Aside0.mk (Q_S10 (hon 6 (by kernel_rfl)))
      have S12 := Aside0.mk (Q_S12 (hon 8 (by kernel_rfl)))
      have S17 := Aside0.mk (Q_S17 (hon 13 (by kernel_rfl)))
      have S19 := Aside0.mk (Q_S19 (hon 15 (by kernel_rfl)))
      refine value_ (w1 := w') (v := (.bool true)) (by rfl) rfl ?_ ?_
      · go_simp
        (try simp only [i64_w])
        try rfl
      refine hK.out _ _ ⟨v4, v6, v10, v12, v17, v19, (by rw [ha.out]; exact putSel_upk 22 hb_ rfl rfl rfl), Q_HB, Q_HR1, Q_S4, Q_S6, Q_S10, Q_S12, Q_S17, Q_S19, fun h0_ => absurd ((hoff 25 (by kernel_rfl)).symm.trans h0_) (by decide)⟩
    refine steps_cons ?_ ?_
    · rintro b a w' ⟨v4, v6, v10, v12, v17, v19, ha, Q_HB, Q_HR1, Q_S4, Q_S6, Q_S10, Q_S12, Q_S17, Q_S19, Q_HR2⟩ hb_ hon hoff
      refine ⟨_, rfl, fun K hK => ?_⟩
      have e26 : a.tmps[26]? = some ((.bool true)) := by rw [ha]; exact putSel_on (e := (22, 26, (.bool true))) 22 rfl rfl (hon 22 (by kernel_rfl)) rfl
      replace ha := Aside0.mk ha
      have HB := Aside0.mk Q_HB
      have HR1 := Aside0.mk (Q_HR1 (hoff 25 (by kernel_rfl)))
      have S4 := Aside0.mk (Q_S4 (hon 0 (by kernel_rfl)))
      have S6 := Aside0.mk (Q_S6 (hon 2 (by kernel_rfl)))
      have S10 := Aside0.mk (Q_S10 (hon 6 (by kernel_rfl)))
      have S12 := Aside0.mk (Q_S12 (hon 8 (by kernel_rfl)))
      have S17 := Aside0.mk (Q_S17 (hon 13 (by kernel_rfl)))
      have S19 := Aside0.mk (Q_S19 (hon 15 (by kernel_rfl)))
      refine value_ (w1 := w') (v := (.bool true)) (by rfl) rfl ?_ ?_
      · go_simp
        (try simp only [i64_w])
        try rfl
      refine hK.out _ _ ⟨v4, v6, v10, v12, v17, v19, (by rw [ha.out]; exact putSel_upk 23 hb_ rfl rfl rfl), Q_HB, Q_HR1, Q_S4, Q_S6, Q_S10, Q_S12, Q_S17, Q_S19, fun h0_ => absurd ((hoff 25 (by kernel_rfl)).symm.trans h0_) (by decide)⟩
    refine steps_cons ?_ ?_
    · rintro b a w' ⟨v4, v6, v10, v12, v17, v19, ha, Q_HB, Q_HR1, Q_S4, Q_S6, Q_S10, Q_S12, Q_S17, Q_S19, Q_HR2⟩ hb_ hon hoff
      refine ⟨_, rfl, fun K hK => ?_⟩
      have e1 : a.tmps[1]? = some ((.pointer (some ⟨g, 0, none⟩))) := by rw [ha]; exact (putSel_off rfl).trans rfl
      have e27 : a.tmps[27]? = some ((.bool true)) := by rw [ha]; exact putSel_on (e := (23, 27, (.bool true))) 23 rfl rfl (hon 23 (by kernel_rfl)) rfl
      replace ha := Aside0.mk ha
      have HB := Aside0.mk Q_HB
      have HR1 := Aside0.mk (Q_HR1 (hoff 25 (by kernel_rfl)))
      have S4 := Aside0.mk (Q_S4 (hon 0 (by kernel_rfl)))
      have S6 := Aside0.mk (Q_S6 (hon 2 (by kernel_rfl)))
      have S10 := Aside0.mk (Q_S10 (hon 6 (by kernel_rfl)))
      have S12 := Aside0.mk (Q_S12 (hon 8 (by kernel_rfl)))
      have S17 := Aside0.mk (Q_S17 (hon 13 (by kernel_rfl)))
      have S19 := Aside0.mk (Q_S19 (hon 15 (by kernel_rfl)))
      refine value_ (w1 := w') (v := (.pointer (some ⟨g, 0, none⟩))) (wanted_on rfl rfl rfl (e27.trans (by first | rfl | (simp [*]; done)))) rfl ?_ ?_
      · go_simp
        (try simp only [i64_w])
        try rfl
      refine hK.out _ _ ⟨v4, v6, v10, v12, v17, v19, (by rw [ha.out]; exact putSel_upk 24 hb_ rfl rfl rfl), Q_HB, Q_HR1, Q_S4, Q_S6, Q_S10, Q_S12, Q_S17, Q_S19, fun h0_ => absurd ((hoff 25 (by kernel_rfl)).symm.trans h0_) (by decide)⟩
    refine steps_cons ?_ ?_
    · rintro b a w' ⟨v4, v6, v10, v12, v17, v19, ha, Q_HB, Q_HR1, Q_S4, Q_S6, Q_S10, Q_S12, Q_S17, Q_S19, Q_HR2⟩ hb_ hon hoff
      refine ⟨_, rfl, fun K hK => ?_⟩
      have e28 : a.tmps[28]? = some ((.pointer (some ⟨g, 0, none⟩))) := by rw [ha]; exact putSel_on (e := (24, 28, (.pointer (some ⟨g, 0, none⟩)))) 24 rfl rfl (hon 24 (by kernel_rfl)) rfl
      have e27 : a.tmps[27]? = some ((.bool true)) := by rw [ha]; exact putSel_on (e := (23, 27, (.bool true))) 23 rfl rfl (hon 23 (by kernel_rfl)) rfl
      replace ha := Aside0.mk ha
      have HB := Aside0.mk Q_HB
      have HR1 := Aside0.mk (Q_HR1 hb_)
      have S4 := Aside0.mk (Q_S4 (hon 0 (by kernel_rfl)))
      have S6 := Aside0.mk (Q_S6 (hon 2 (by kernel_rfl)))
      have S10 := Aside0.mk (Q_S10 (hon 6 (by kernel_rfl)))
      have S12 := Aside0.mk (Q_S12 (hon 8 (by kernel_rfl)))
      have S17 := Aside0.mk (Q_S17 (hon 13 (by kernel_rfl)))
      have S19 := Aside0.mk (Q_S19 (hon 15 (by kernel_rfl)))
      refine goes_ Try.func31 (by kernel_rfl) rfl #[.pointer (some ⟨g, 0, none⟩)] (wanted_on rfl rfl rfl (e27.trans (by first | rfl | (simp [*]; done)))) rfl rfl (by first | (simp only [List.map_toArray, List.map_cons, List.map_nil, Act.eval, Array.getD_eq_getD_getElem?, Option.getD_some, e28, e27]; done) | (simp only [List.map_toArray, List.map_cons, List.map_nil, Act.eval, Array.getD_eq_getD_getElem?, Option.getD_some, e28, e27]; rfl)) ?_
      refine (c3 g _ v HR1.out).mono ?_
      rintro e w1_ ⟨rfl, hr, hb⟩
      refine ⟨_, rfl, ?_⟩
      refine hK.out _ _ ⟨v4, v6, v10, v12, v17, v19, (by rw [ha.out]; exact putSel_upk 25 hb_ rfl rfl rfl), VaryR.But.step hb HB.out HG.out (Nat.le_refl _), fun h0_ => absurd ((up_self b 25).symm.trans h0_) (by decide), fun _ => VaryR.Sl.but S4.out hb HR1.out.noByte, fun _ => VaryR.Sl.but S6.out hb HR1.out.noByte, fun _ => VaryR.Sl.but S10.out hb HR1.out.noByte, fun _ => VaryR.Sl.but S12.out hb HR1.out.noByte, fun _ => VaryR.Sl.but S17.out hb HR1.out.noByte, fun _ => VaryR.Sl.but S19.out hb HR1.out.noByte, fun _ => hr⟩
    refine steps_cons ?_ ?_
    · rintro b a w' ⟨v4, v6, v10, v12, v17, v19, ha, Q_HB, Q_HR1, Q_S4, Q_S6, Q_S10, Q_S12, Q_S17, Q_S19, Q_HR2⟩ hb_ hon hoff
      refine ⟨_, rfl, fun K hK => ?_⟩
      have e29 : a.tmps[29]? = some ((.int .i64 0)) := by rw [ha]; exact putSel_on (e := (25, 29, (.int .i64 0))) 25 rfl rfl (hon 25 (by kernel_rfl)) rfl
      have e27 : a.tmps[27]? = some ((.bool true)) := by rw [ha]; exact putSel_on (e := (23, 27, (.bool true))) 23 rfl rfl (hon 23 (by kernel_rfl)) rfl
      replace ha := Aside0.mk ha
      have HB := Aside0.mk Q_HB
      have S4 := Aside0.mk (Q_S4 (hon 0 (by kernel_rfl)))
      have S6 := Aside0.mk (Q_S6 (hon 2 (by kernel_rfl)))
      have S10 := Aside0.mk (Q_S10 (hon 6 (by kernel_rfl)))
      have S12 := Aside0.mk (Q_S12 (hon 8 (by kernel_rfl)))
      have S17 := Aside0.mk (Q_S17 (hon 13 (by kernel_rfl)))
      have S19 := Aside0.mk (Q_S19 (hon 15 (by kernel_rfl)))
      have HR2 := Aside0.mk (Q_HR2 (hon 25 (by kernel_rfl)))
      refine value_ (w1 := w') (v := (.bool true)) (wanted_on rfl rfl rfl (e27.trans (by first | rfl | (simp [*]; done)))) rfl ?_ ?_
      · go_simp
        (try simp only [i64_w])
        try rfl
      refine hK.out _ _ ⟨v4, v6, v10, v12, v17, v19, (by rw [ha.out]; exact putSel_upk 26 hb_ rfl rfl rfl), Q_HB, fun h0_ => absurd ((hon 25 (by kernel_rfl)).symm.trans h0_) (by decide), Q_S4, Q_S6, Q_S10, Q_S12, Q_S17, Q_S19, Q_HR2⟩
    refine steps_cons ?_ ?_
    · rintro b a w' ⟨v4, v6, v10, v12, v17, v19, ha, Q_HB, Q_HR1, Q_S4, Q_S6, Q_S10, Q_S12, Q_S17, Q_S19, Q_HR2⟩ hb_ hon hoff
      refine ⟨_, rfl, fun K hK => ?_⟩
      have e27 : a.tmps[27]? = some ((.bool true)) := by rw [ha]; exact putSel_on (e := (23, 27, (.bool true))) 23 rfl rfl (hon 23 (by kernel_rfl)) rfl
      have e30 : a.tmps[30]? = some ((.bool true)) := by rw [ha]; exact putSel_on (e := (26, 30, (.bool true))) 26 rfl rfl (hon 26 (by kernel_rfl)) rfl
      replace ha := Aside0.mk ha
      have HB := Aside0.mk Q_HB
      have S4 := Aside0.mk (Q_S4 (hon 0 (by kernel_rfl)))
      have S6 := Aside0.mk (Q_S6 (hon 2 (by kernel_rfl)))
      have S10 := Aside0.mk (Q_S10 (hon 6 (by kernel_rfl)))
      have S12 := Aside0.mk (Q_S12 (hon 8 (by kernel_rfl)))
      have S17 := Aside0.mk (Q_S17 (hon 13 (by kernel_rfl)))
      have S19 := Aside0.mk (Q_S19 (hon 15 (by kernel_rfl)))
      have HR2 := Aside0.mk (Q_HR2 (hon 25 (by kernel_rfl)))
      refine value_ (w1 := w') (v := (.bool true)) (by rfl) rfl ?_ ?_
      · go_simp
        (try simp only [i64_w])
        try rfl
      refine hK.out _ _ ⟨v4, v6, v10, v12, v17, v19, (by rw [ha.out]; exact putSel_upk 27 hb_ rfl rfl rfl), Q_HB, fun h0_ => absurd ((hon 25 (by kernel_rfl)).symm.trans h0_) (by decide), Q_S4, Q_S6, Q_S10, Q_S12, Q_S17, Q_S19, Q_HR2⟩
    refine steps_cons ?_ ?_
    · rintro b a w' ⟨v4, v6, v10, v12, v17, v19, ha, Q_HB, Q_HR1, Q_S4, Q_S6, Q_S10, Q_S12, Q_S17, Q_S19, Q_HR2⟩ hb_ hon hoff
      refine ⟨_, rfl, fun K hK => ?_⟩
      have e31 : a.tmps[31]? = some ((.bool true)) := by rw [ha]; exact putSel_on (e := (27, 31, (.bool true))) 27 rfl rfl (hon 27 (by kernel_rfl)) rfl
      replace ha := Aside0.mk ha
      have HB := Aside0.mk Q_HB
      have S4 := Aside0.mk (Q_S4 (hon 0 (by kernel_rfl)))
      have S6 := Aside0.mk (Q_S6 (hon 2 (by kernel_rfl)))
      have S10 := Aside0.mk (Q_S10 (hon 6 (by kernel_rfl)))
      have S12 := Aside0.mk (Q_S12 (hon 8 (by kernel_rfl)))
      have S17 := Aside0.mk (Q_S17 (hon 13 (by kernel_rfl)))
      have S19 := Aside0.mk (Q_S19 (hon 15 (by kernel_rfl)))
      have HR2 := Aside0.mk (Q_HR2 (hon 25 (by kernel_rfl)))
      refine value_ (w1 := w') (v := (.bool true)) (by rfl) rfl ?_ ?_
      · go_simp
        (try simp only [i64_w])
        try rfl
      refine hK.out _ _ ⟨v4, v6, v10, v12, v17, v19, (by rw [ha.out]; exact putSel_upk 28 hb_ rfl rfl rfl), Q_HB, fun h0_ => absurd ((hon 25 (by kernel_rfl)).symm.trans h0_) (by decide), Q_S4, Q_S6, Q_S10, Q_S12, Q_S17, Q_S19, Q_HR2⟩
    refine steps_cons ?_ ?_
    · rintro b a w' ⟨v4, v6, v10, v12, v17, v19, ha, Q_HB, Q_HR1, Q_S4, Q_S6, Q_S10, Q_S12, Q_S17, Q_S19, Q_HR2⟩ hb_ hon hoff
      refine ⟨_, rfl, fun K hK => ?_⟩
      have e1 : a.tmps[1]? = some ((.pointer (some ⟨g, 0, none⟩))) := by rw [ha]; exact (putSel_off rfl).trans rfl
      have e32 : a.tmps[32]? = some ((.bool true)) := by rw [ha]; exact putSel_on (e := (28, 32, (.bool true))) 28 rfl rfl (hon 28 (by kernel_rfl)) rfl
      replace ha := Aside0.mk ha
      have HB := Aside0.mk Q_HB
      have S4 := Aside0.mk (Q_S4 (hon 0 (by kernel_rfl)))
      have S6 := Aside0.mk (Q_S6 (hon 2 (by kernel_rfl)))
      have S10 := Aside0.mk (Q_S10 (hon 6 (by kernel_rfl)))
      have S12 := Aside0.mk (Q_S12 (hon 8 (by kernel_rfl)))
      have S17 := Aside0.mk (Q_S17 (hon 13 (by kernel_rfl)))
      have S19 := Aside0.mk (Q_S19 (hon 15 (by kernel_rfl)))
      have HR2 := Aside0.mk (Q_HR2 (hon 25 (by kernel_rfl)))
      refine value_ (w1 := w') (v := (.pointer (some ⟨g, 0, none⟩))) (wanted_on rfl rfl rfl (e32.trans (by first | rfl | (simp [*]; done)))) rfl ?_ ?_
      · go_simp
        (try simp only [i64_w])
        try rfl
      refine hK.out _ _ ⟨v4, v6, v10, v12, v17, v19, (by rw [ha.out]; exact putSel_upk 29 hb_ rfl rfl rfl), Q_HB, fun h0_ => absurd ((hon 25 (by kernel_rfl)).symm.trans h0_) (by decide), Q_S4, Q_S6, Q_S10, Q_S12, Q_S17, Q_S19, Q_HR2⟩
    refine steps_cons ?_ ?_
    · rintro b a w' ⟨v4, v6, v10, v12, v17, v19, ha, Q_HB, Q_HR1, Q_S4, Q_S6, Q_S10, Q_S12, Q_S17, Q_S19, Q_HR2⟩ hb_ hon hoff
      refine ⟨_, rfl, fun K hK => ?_⟩
      have e33 : a.tmps[33]? = some ((.pointer (some ⟨g, 0, none⟩))) := by rw [ha]; exact putSel_on (e := (29, 33, (.pointer (some ⟨g, 0, none⟩)))) 29 rfl rfl (hon 29 (by kernel_rfl)) rfl
      have e32 : a.tmps[32]? = some ((.bool true)) := by rw [ha]; exact putSel_on (e := (28, 32, (.bool true))) 28 rfl rfl (hon 28 (by kernel_rfl)) rfl
      replace ha := Aside0.mk ha
      have HB := Aside0.mk Q_HB
      have S4 := Aside0.mk (Q_S4 (hon 0 (by kernel_rfl)))
      have S6 := Aside0.mk (Q_S6 (hon 2 (by kernel_rfl)))
      have S10 := Aside0.mk (Q_S10 (hon 6 (by kernel_rfl)))
      have S12 := Aside0.mk (Q_S12 (hon 8 (by kernel_rfl)))
      have S17 := Aside0.mk (Q_S17 (hon 13 (by kernel_rfl)))
      have S19 := Aside0.mk (Q_S19 (hon 15 (by kernel_rfl)))
      have HR2 := Aside0.mk (Q_HR2 (hon 25 (by kernel_rfl)))
      refine goes_ Try.func33 (by kernel_rfl) rfl #[.pointer (some ⟨g, 0, none⟩)] (wanted_on rfl rfl rfl (e32.trans (by first | rfl | (simp [*]; done)))) rfl rfl (by first | (simp only [List.map_toArray, List.map_cons, List.map_nil, Act.eval, Array.getD_eq_getD_getElem?, Option.getD_some, e33, e32]; done) | (simp only [List.map_toArray, List.map_cons, List.map_nil, Act.eval, Array.getD_eq_getD_getElem?, Option.getD_some, e33, e32]; rfl)) ?_
      refine (VaryR.nBad g _ v [128, 0] 0 true HR2.out).mono ?_
      rintro e w1_ ⟨rfl, hw⟩
      refine ⟨_, rfl, ?_⟩
      subst hw
      refine hK.out _ _ ⟨v4, v6, v10, v12, v17, v19, (by rw [ha.out]; exact putSel_upk 30 hb_ rfl rfl rfl), below_step HB.out (Below.refl _ _), fun h0_ => absurd ((hon 25 (by kernel_rfl)).symm.trans h0_) (by decide), fun _ => S4.out.below (Below.refl _ _), fun _ => S6.out.below (Below.refl _ _), fun _ => S10.out.below (Below.refl _ _), fun _ => S12.out.below (Below.refl _ _), fun _ => S17.out.below (Below.refl _ _), fun _ => S19.out.below (Below.refl _ _), fun _ => HR2.out.below (Below.refl _ _)⟩
    refine steps_cons ?_ ?_
    · rintro b a w' ⟨v4, v6, v10, v12, v17, v19, ha, Q_HB, Q_HR1, Q_S4, Q_S6, Q_S10, Q_S12, Q_S17, Q_S19, Q_HR2⟩ hb_ hon hoff
      refine ⟨_, rfl, fun K hK => ?_⟩
      have e32 : a.tmps[32]? = some ((.bool true)) := by rw [ha]; exact putSel_on (e := (28, 32, (.bool true))) 28 rfl rfl (hon 28 (by kernel_rfl)) rfl
      have e34 : a.tmps[34]? = some ((.bool true)) := by rw [ha]; exact putSel_on (e := (30, 34, (.bool true))) 30 rfl rfl (hon 30 (by kernel_rfl)) rfl
      replace ha := Aside0.mk ha
      have HB := Aside0.mk Q_HB
      have S4 := Aside0.mk (Q_S4 (hon 0 (by kernel_rfl)))
      have S6 := Aside0.mk (Q_S6 (hon 2 (by kernel_rfl)))
      have S10 := Aside0.mk (Q_S10 (hon 6 (by kernel_rfl)))
      have S12 := Aside0.mk (Q_S12 (hon 8 (by kernel_rfl)))
      have S17 := Aside0.mk (Q_S17 (hon 13 (by kernel_rfl)))
      have S19 := Aside0.mk (Q_S19 (hon 15 (by kernel_rfl)))
      have HR2 := Aside0.mk (Q_HR2 (hon 25 (by kernel_rfl)))
      refine value_ (w1 := w') (v := (.bool true)) (by rfl) rfl ?_ ?_
      · go_simp
        (try simp only [i64_w])
        try rfl
      refine hK.out _ _ ⟨v4, v6, v10, v12, v17, v19, (by rw [ha.out]; exact putSel_upk 31 hb_ rfl rfl rfl), Q_HB, fun h0_ => absurd ((hon 25 (by kernel_rfl)).symm.trans h0_) (by decide), Q_S4, Q_S6, Q_S10, Q_S12, Q_S17, Q_S19, Q_HR2⟩
    refine steps_cons ?_ ?_
    · rintro b a w' ⟨v4, v6, v10, v12, v17, v19, ha, Q_HB, Q_HR1, Q_S4, Q_S6, Q_S10, Q_S12, Q_S17, Q_S19, Q_HR2⟩ hb_ hon hoff
      refine ⟨_, rfl, fun K hK => ?_⟩
      have e35 : a.tmps[35]? = some ((.bool true)) := by rw [ha]; exact putSel_on (e := (31, 35, (.bool true))) 31 rfl rfl (hon 31 (by kernel_rfl)) rfl
      replace ha := Aside0.mk ha
      have HB := Aside0.mk Q_HB
      have S4 := Aside0.mk (Q_S4 (hon 0 (by kernel_rfl)))
      have S6 := Aside0.mk (Q_S6 (hon 2 (by kernel_rfl)))
      have S10 := Aside0.mk (Q_S10 (hon 6 (by kernel_rfl)))
      have S12 := Aside0.mk (Q_S12 (hon 8 (by kernel_rfl)))
      have S17 := Aside0.mk (Q_S17 (hon 13 (by kernel_rfl)))
      have S19 := Aside0.mk (Q_S19 (hon 15 (by kernel_rfl)))
      have HR2 := Aside0.mk (Q_HR2 (hon 25 (by kernel_rfl)))
      refine value_ (w1 := w') (v := (.bool true)) (by rfl) rfl ?_ ?_
      · go_simp
        (try simp only [i64_w])
        try rfl
      refine hK.out _ _ ⟨v4, v6, v10, v12, v17, v19, (by rw [ha.out]; exact putSel_upk 32 hb_ rfl rfl rfl), Q_HB, fun h0_ => absurd ((hon 25 (by kernel_rfl)).symm.trans h0_) (by decide), Q_S4, Q_S6, Q_S10, Q_S12, Q_S17, Q_S19, Q_HR2⟩
    exact steps_nil
  rintro b a we hall ⟨v4, v6, v10, v12, v17, v19, ha, Q_HB, Q_HR1, Q_S4, Q_S6, Q_S10, Q_S12, Q_S17, Q_S19, Q_HR2⟩
  clear HB HR1
  have hb0_ := hall 0 (by kernel_rfl)
  have hb1_ := hall 1 (by kernel_rfl)
  have hb2_ := hall 2 (by kernel_rfl)
  have hb3_ := hall 3 (by kernel_rfl)
  have hb4_ := hall 4 (by kernel_rfl)
  have hb5_ := hall 5 (by kernel_rfl)
  have hb6_ := hall 6 (by kernel_rfl)
  have hb7_ := hall 7 (by kernel_rfl)
  have hb8_ := hall 8 (by kernel_rfl)
  have hb9_ := hall 9 (by kernel_rfl)
  have hb10_ := hall 10 (by kernel_rfl)
  have hb11_ := hall 11 (by kernel_rfl)
  have hb12_ := hall 12 (by kernel_rfl)
  have hb13_ := hall 13 (by kernel_rfl)
  have hb14_ := hall 14 (by kernel_rfl)
  have hb15_ := hall 15 (by kernel_rfl)
  have hb16_ := hall 16 (by kernel_rfl)
  have hb17_ := hall 17 (by kernel_rfl)
  have hb18_ := hall 18 (by kernel_rfl)
  have hb19_ := hall 19 (by kernel_rfl)
  have hb20_ := hall 20 (by kernel_rfl)
  have hb21_ := hall 21 (by kernel_rfl)
  have hb22_ := hall 22 (by kernel_rfl)
  have hb23_ := hall 23 (by kernel_rfl)
  have hb24_ := hall 24 (by kernel_rfl)
  have hb25_ := hall 25 (by kernel_rfl)
  have hb26_ := hall 26 (by kernel_rfl)
  have hb27_ := hall 27 (by kernel_rfl)
  have hb28_ := hall 28 (by kernel_rfl)
  have hb29_ := hall 29 (by kernel_rfl)
  have hb30_ := hall 30 (by kernel_rfl)
  have hb31_ := hall 31 (by kernel_rfl)
  have hb32_ := hall 32 (by kernel_rfl)
  subst ha
  simp only [putSel, hb0_, hb1_, hb2_, hb3_, hb4_, hb5_, hb6_, hb7_, hb8_, hb9_, hb10_, hb11_, hb12_, hb13_, hb14_, hb15_, hb16_, hb17_, hb18_, hb19_, hb20_, hb21_, hb22_, hb23_, hb24_, hb25_, hb26_, hb27_, hb28_, hb29_, hb30_, hb31_, hb32_, if_true, Act.put, List.setIfInBounds_toArray, List.set_cons_zero, List.set_cons_succ]
  have HB := Aside0.mk Q_HB
  clear Q_HB
  clear Q_HR1
  have S4 := Aside0.mk (Q_S4 hb0_)
  clear Q_S4
  have S6 := Aside0.mk (Q_S6 hb2_)
  clear Q_S6
  have S10 := Aside0.mk (Q_S10 hb6_)
  clear Q_S10
  have S12 := Aside0.mk (Q_S12 hb8_)
  clear Q_S12
  have S17 := Aside0.mk (Q_S17 hb13_)
  clear Q_S17
  have S19 := Aside0.mk (Q_S19 hb15_)
  clear Q_S19
  have HR2 := Aside0.mk (Q_HR2 hb25_)
  clear Q_HR2
  clear hall hb0_ hb1_ hb2_ hb3_ hb4_ hb5_ hb6_ hb7_ hb8_ hb9_ hb10_ hb11_ hb12_ hb13_ hb14_ hb15_ hb16_ hb17_ hb18_ hb19_ hb20_ hb21_ hb22_ hb23_ hb24_ hb25_ hb26_ hb27_ hb28_ hb29_ hb30_ hb31_ hb32_
  go_wp2_with fail
  go_ret
  exact ⟨rfl, HB.out⟩
end Go.Proofs.Ytgefpgbofhcmdaa.VaryLives

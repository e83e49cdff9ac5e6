/- The chapter's example of frames. -/
import Derived.Test.YtedfcjcnhgomoaaFrameP
namespace Go.Proofs.Ytedfcjcnhgomoaa.FrameLives
open Go.RowKit Go.Proofs.Ytedfcjcnhgomoaa.P Go.Proofs.YtedfcjcnhgomoaaW.PrintWords Go.Proofs.YtedfcjcnhgomoaaW.PrintLast Go.Proofs.YtedfcjcnhgomoaaW.PrintMore Go.Proofs.Ytedfcjcnhgomoaa.Own Go.Proofs.Ytedfcjcnhgomoaa.Vy Go.Proofs.Ytedfcjcnhgomoaa.FrameP
set_option linter.unusedSimpArgs false
set_option linter.unusedVariables false

def lives.T2 : Bool × List (List Nat × List Nat) := (true, [([], []), ([0], [0]), ([1], [1]), ([2], [2]), ([3, 2], [2, 3]), ([4, 2], [2, 4]), ([2, 5], [2, 5]), ([6, 2], [6]), ([7], [7]), ([8, 7], [7, 8]), ([9, 7], [7, 9]), ([7], [7]), ([11, 7], [7, 11]), ([10, 12, 7], [7, 10, 12]), ([7, 13], [7, 13]), ([14, 7, 0, 1, 2, 3, 4, 5, 6, 7, 8, 9, 10, 11, 12, 13, 14], [14])])
def lives.B2 : List Nat := [0, 1, 3, 7, 15, 31, 63, 127, 255, 511, 1023, 255, 2303, 8191, 16383, 32767]
theorem lives.tab2 : rtab .any (opsOf Try.f12 2) = lives.T2 := by kernel_rfl
theorem lives.bits2 : waitsOk lives.T2.2 lives.B2 = true := by kernel_rfl
theorem put_small (l : List Int) (n : Nat) (h : n < 128) : putL l (n : Int) = l ++ [(n : Int)] := by rw [putL_good (by have : M = 4611686018427387904 := rfl; omega), enc_lt h]
def pk : Pk := ⟨1, 2, 3, ⟨#[97, 98]⟩⟩
theorem body_pk : body pk = [1, 2, 3, 2, 97, 98] := by
  unfold body putTL pk
  simp only
  rw [show (1 : Int) = ((1 : Nat) : Int) from rfl, put_small _ _ (by decide), show (2 : Int) = ((2 : Nat) : Int) from rfl, put_small _ _ (by decide), show (3 : Int) = ((3 : Nat) : Int) from rfl, put_small _ _ (by decide), show ((numsOf ⟨#[97, 98]⟩).length : Int) = ((2 : Nat) : Int) from rfl, put_small _ _ (by decide)]
  rfl
theorem frame_pk : ∃ t, frame pk = [6, 1, 2, 3, 2, 97, 98] ++ t ∧ t.length = 4 := by
  refine ⟨Crc.le4 (Crc.sum (body pk)), ?_, rfl⟩
  unfold frame Nice.sealL
  rw [body_pk, show (([1, 2, 3, 2, 97, 98] : List Int).length : Int) = ((6 : Nat) : Int) from rfl, put_small _ _ (by decide)]; rfl
theorem good_pk : good pk = true := by decide +kernel
set_option maxHeartbeats 8000000 in
set_option maxRecDepth 100000 in
theorem lives_c (w : World) : Calls Try.prog 12 #[] w fun e w' => e = .returned (.bool true) ∧ Below w.heap.size w w' := by
  have hp := put_c pk
  unfold Pk.val pk at hp
  simp only at hp
  have hg : good ⟨1, 2, 3, ⟨#[97, 98]⟩⟩ = true := good_pk
  have hf : ∃ t, frame ⟨1, 2, 3, ⟨#[97, 98]⟩⟩ = [6, 1, 2, 3, 2, 97, 98] ++ t ∧ t.length = 4 := frame_pk
  obtain ⟨t, hf, ht⟩ := hf
  rw [hg, if_pos rfl, if_pos rfl, hf] at hp
  have HP := Aside0.mk hp
  have HT := Aside0.mk ht
  clear hp hg hf ht
  go_enter Try.func12, Try.ntmps12
  go_wp2_with fail
  refine (HP.out _).mono ?_
  rintro e w1 ⟨v, rfl, hg, hb⟩
  obtain ⟨A, c, rfl, hc, hC⟩ := hg.sl
  have hl : ([6, 1, 2, 3, 2, 97, 98] ++ t : List Int).length = 11 := by rw [List.length_append, HT.out]; rfl
  rw [hl] at hC hc ⊢
  have HS : Aside0 (Sl w1 (.slice A 7 c) [6, 1, 2, 3, 2, 97, 98]) := Aside0.mk (by
    have := (show Sl w1 (.slice A 11 c) ([6, 1, 2, 3, 2, 97, 98] ++ t) from ⟨A, c, by rw [hl], by rw [hl]; exact hc, by rw [hl]; exact hC⟩).take 7 (by omega)
    rwa [show ([6, 1, 2, 3, 2, 97, 98] ++ t : List Int).take 7 = [6, 1, 2, 3, 2, 97, 98] from rfl] at this)
  obtain ⟨i0, hi0, _, hsz, _⟩ := info_parts info5
  have HCUT := Aside0.mk (cut_to (P := Try.prog) 25 5 .i64 Try.underlying25 hi0 A 11 c 7 (by omega) (by omega) hc)
  have HB := Aside0.mk hb
  clear hg hC hl hb hi0 hsz
  go_wp2_with fail
  refine start_ (n := 16) (S := fun w' => True) (ds := []) #[false, false, false, false, false, false, false, false, false, false, false, false, false, false, false, false] (by kernel_rfl) rfl rfl trivial (fun hHeld => ?_); refine with_tabW lives.tab2 lives.bits2 (fun HT_ HW_ => ?_)
  refine inv_at [0, 1, 2, 3, 4, 5, 6, 7, 8, 9, 10, 11, 12, 13, 14, 15] (fun a0_ b a w' => ∃ (v19 : Value), a = putSel a0_ b [(0, 8, (.int .i64 0)), (1, 9, (.bool true)), (2, 10, (.bool true)), (3, 11, (.slice A 11 c)), (4, 12, (.int .i64 11)), (5, 13, (.bool true)), (6, 14, (.bool true)), (7, 15, (.bool true)), (8, 16, (.slice A 11 c)), (9, 17, (.slice A 7 c)), (10, 18, (.string (strOfNums [6, 1, 2, 3, 2, 97, 98]))), (11, 19, v19), (12, 20, (.string (strOfNums [6, 1, 2, 3, 2, 97, 98]))), (13, 21, (.bool true)), (14, 22, (.bool true)), (15, 0, (.bool true))] ∧ (Below w.heap.size w w') ∧ (Sl w' (.slice A 7 c) [6, 1, 2, 3, 2, 97, 98]) ∧ (b 11 = true → Sl w' v19 [6, 1, 2, 3, 2, 97, 98])) HT_.out HW_.out (by kernel_rfl) (by kernel_rfl) ?_ ?_ ?_
  · exact ⟨.bool false, by simp only [putSel, Bool.false_eq_true, if_false], below_drew1 HB.out, HS.out.drew, fun h_ => absurd h_ (by decide)⟩
  · skip
    clear HB HS
    refine steps_cons ?_ ?_
    · rintro b a w' ⟨v19, ha, Q_HB, Q_HS, Q_S19⟩ hb_ hon hoff
      refine ⟨_, rfl, fun K hK => ?_⟩
      have e2 : a.tmps[2]? = some ((.int .i64 0)) := by rw [ha]; exact (putSel_off rfl).trans rfl
      replace ha := Aside0.mk ha
      have HB := Aside0.mk Q_HB
      have HS := Aside0.mk Q_HS
      refine value_ (w1 := w') (v := (.int .i64 0)) (by rfl) rfl ?_ ?_
      · go_simp
        (try simp only [i64_w])
        try rfl
      refine hK.out _ _ ⟨v19, (by rw [ha.out]; exact putSel_upk 0 hb_ rfl rfl rfl), Q_HB, Q_HS, fun h0_ => absurd ((hoff 11 (by kernel_rfl)).symm.trans h0_) (by decide)⟩
    refine steps_cons ?_ ?_
    · rintro b a w' ⟨v19, ha, Q_HB, Q_HS, Q_S19⟩ hb_ hon hoff
      refine ⟨_, rfl, fun K hK => ?_⟩
      have e8 : a.tmps[8]? = some ((.int .i64 0)) := by rw [ha]; exact putSel_on (e := (0, 8, (.int .i64 0))) 0 rfl rfl (hon 0 (by kernel_rfl)) rfl
      replace ha := Aside0.mk ha
      have HB := Aside0.mk Q_HB
      have HS := Aside0.mk Q_HS
      refine value_ (w1 := w') (v := (.bool true)) (by rfl) rfl ?_ ?_
      · go_simp
        (try simp only [i64_w])
        try rfl
      refine hK.out _ _ ⟨v19, (by rw [ha.out]; exact putSel_upk 1 hb_ rfl rfl rfl), Q_HB, Q_HS, fun h0_ => absurd ((hoff 11 (by kernel_rfl)).symm.trans h0_) (by decide)⟩
    refine steps_cons ?_ ?_
    · rintro b a w' ⟨v19, ha, Q_HB, Q_HS, Q_S19⟩ hb_ hon hoff
      refine ⟨_, rfl, fun K hK => ?_⟩
      have e9 : a.tmps[9]? = some ((.bool true)) := by rw [ha]; exact putSel_on (e := (1, 9, (.bool true))) 1 rfl rfl (hon 1 (by kernel_rfl)) rfl
      replace ha := Aside0.mk ha
      have HB := Aside0.mk Q_HB
      have HS := Aside0.mk Q_HS
      refine value_ (w1 := w') (v := (.bool true)) (by rfl) rfl ?_ ?_
      · go_simp
        (try simp only [i64_w])
        try rfl
      refine hK.out _ _ ⟨v19, (by rw [ha.out]; exact putSel_upk 2 hb_ rfl rfl rfl), Q_HB, Q_HS, fun h0_ => absurd ((hoff 11 (by kernel_rfl)).symm.trans h0_) (by decide)⟩
    refine steps_cons ?_ ?_
    · rintro b a w' ⟨v19, ha, Q_HB, Q_HS, Q_S19⟩ hb_ hon hoff
      refine ⟨_, rfl, fun K hK => ?_⟩
      have e1 : a.tmps[1]? = some ((.slice A 11 c)) := by rw [ha]; exact (putSel_off rfl).trans rfl
      have e10 : a.tmps[10]? = some ((.bool true)) := by rw [ha]; exact putSel_on (e := (2, 10, (.bool true))) 2 rfl rfl (hon 2 (by kernel_rfl)) rfl
      replace ha := Aside0.mk ha
      have HB := Aside0.mk Q_HB
      have HS := Aside0.mk Q_HS
      refine value_ (w1 := w') (v := (.slice A 11 c)) (wanted_on rfl rfl rfl (e10.trans (by first | rfl | (simp [*]; done)))) rfl ?_ ?_
      · go_simp
        (try simp only [i64_w])
        try rfl
      refine hK.out _ _ ⟨v19, (by rw [ha.out]; exact putSel_upk 3 hb_ rfl rfl rfl), Q_HB, Q_HS, fun h0_ => absurd ((hoff 11 (by kernel_rfl)).symm.trans h0_) (by decide)⟩
    refine steps_cons ?_ ?_
    · rintro b a w' ⟨v19, ha, Q_HB, Q_HS, Q_S19⟩ hb_ hon hoff
      refine ⟨_, rfl, fun K hK => ?_⟩
      have e11 : a.tmps[11]? = some ((.slice A 11 c)) := by rw [ha]; exact putSel_on (e := (3, 11, (.slice A 11 c))) 3 rfl rfl (hon 3 (by kernel_rfl)) rfl
      have e10 : a.tmps[10]? = some ((.bool true)) := by rw [ha]; exact putSel_on (e := (2, 10, (.bool true))) 2 rfl rfl (hon 2 (by kernel_rfl)) rfl
      replace ha := Aside0.mk ha
      have HB := Aside0.mk Q_HB
      have HS := Aside0.mk Q_HS
      refine value_ (w1 := w') (v := (.int .i64 11)) (wanted_on rfl rfl rfl (e10.trans (by first | rfl | (simp [*]; done)))) rfl ?_ ?_
      · go_simp
        (try simp only [i64_w])
        try rfl
      refine hK.out _ _ ⟨v19, (by rw [ha.out]; exact putSel_upk 4 hb_ rfl rfl rfl), Q_HB, Q_HS, fun h0_ => absurd ((hoff 11 (by kernel_rfl)).symm.trans h0_) (by decide)⟩
    refine steps_cons ?_ ?_
    · rintro b a w' ⟨v19, ha, Q_HB, Q_HS, Q_S19⟩ hb_ hon hoff
      refine ⟨_, rfl, fun K hK => ?_⟩
      have e12 : a.tmps[12]? = some ((.int .i64 11)) := by rw [ha]; exact putSel_on (e := (4, 12, (.int .i64 11))) 4 rfl rfl (hon 4 (by kernel_rfl)) rfl
      have e10 : a.tmps[10]? = some ((.bool true)) := by rw [ha]; exact putSel_on (e := (2, 10, (.bool true))) 2 rfl rfl (hon 2 (by kernel_rfl)) rfl
      replace ha := Aside0.mk ha
      have HB := Aside0.mk Q_HB
      have HS := Aside0.mk Q_HS
      refine value_ (w1 := w') (v := (.bool true)) (wanted_on rfl rfl rfl (e10.trans (by first | rfl | (simp [*]; done)))) rfl ?_ ?_
      · go_simp
        (try simp only [i64_w])
        try rfl
      refine hK.out _ _ ⟨v19, (by rw [ha.out]; exact putSel_upk 5 hb_ rfl rfl rfl), Q_HB, Q_HS, fun h0_ => absurd ((hoff 11 (by kernel_rfl)).symm.trans h0_) (by decide)⟩
    refine steps_cons ?_ ?_
    · rintro b a w' ⟨v19, ha, Q_HB, Q_HS, Q_S19⟩ hb_ hon hoff
      refine ⟨_, rfl, fun K hK => ?_⟩
      have e10 : a.tmps[10]? = some ((.bool true)) := by rw [ha]; exact putSel_on (e := (2, 10, (.bool true))) 2 rfl rfl (hon 2 (by kernel_rfl)) rfl
      have e13 : a.tmps[13]? = some ((.bool true)) := by rw [ha]; exact putSel_on (e := (5, 13, (.bool true))) 5 rfl rfl (hon 5 (by kernel_rfl)) rfl
      replace ha := Aside0.mk ha
      have HB := Aside0.mk Q_HB
      have HS := Aside0.mk Q_HS
      refine value_ (w1 := w') (v := (.bool true)) (by rfl) rfl ?_ ?_
      · go_simp
        (try simp only [i64_w])
        try rfl
      refine hK.out _ _ ⟨v19, (by rw [ha.out]; exact putSel_upk 6 hb_ rfl rfl rfl), Q_HB, Q_HS, fun h0_ => absurd ((hoff 11 (by kernel_rfl)).symm.trans h0_) (by decide)⟩
    refine steps_cons ?_ ?_
    · rintro b a w' ⟨v19, ha, Q_HB, Q_HS, Q_S19⟩ hb_ hon hoff
      refine ⟨_, rfl, fun K hK => ?_⟩
      have e14 : a.tmps[14]? = some ((.bool true)) := by rw [ha]; exact putSel_on (e := (6, 14, (.bool true))) 6 rfl rfl (hon 6 (by kernel_rfl)) rfl
      replace ha := Aside0.mk ha
      have HB := Aside0.mk Q_HB
      have HS := Aside0.mk Q_HS
      refine value_ (w1 := w') (v := (.bool true)) (by rfl) rfl ?_ ?_
      · go_simp
        (try simp only [i64_w])
        try rfl
      refine hK.out _ _ ⟨v19, (by rw [ha.out]; exact putSel_upk 7 hb_ rfl rfl rfl), Q_HB, Q_HS, fun h0_ => absurd ((hoff 11 (by kernel_rfl)).symm.trans h0_) (by decide)⟩
    refine steps_cons ?_ ?_
    · rintro b a w' ⟨v19, ha, Q_HB, Q_HS, Q_S19⟩ hb_ hon hoff
      refine ⟨_, rfl, fun K hK => ?_⟩
      have e1 : a.tmps[1]? = some ((.slice A 11 c)) := by rw [ha]; exact (putSel_off rfl).trans rfl
      have e15 : a.tmps[15]? = some ((.bool true)) := by rw [ha]; exact putSel_on (e := (7, 15, (.bool true))) 7 rfl rfl (hon 7 (by kernel_rfl)) rfl
      replace ha := Aside0.mk ha
      have HB := Aside0.mk Q_HB
      have HS := Aside0.mk Q_HS
      refine value_ (w1 := w') (v := (.slice A 11 c)) (wanted_on rfl rfl rfl (e15.trans (by first | rfl | (simp [*]; done)))) rfl ?_ ?_
      · go_simp
        (try simp only [i64_w])
        try rfl
      refine hK.out _ _ ⟨v19, (by rw [ha.out]; exact putSel_upk 8 hb_ rfl rfl rfl), Q_HB, Q_HS, Q_S19⟩
    refine steps_cons ?_ ?_
    · rintro b a w' ⟨v19, ha, Q_HB, Q_HS, Q_S19⟩ hb_ hon hoff
      refine ⟨_, rfl, fun K hK => ?_⟩
      have e16 : a.tmps[16]? = some ((.slice A 11 c)) := by rw [ha]; exact putSel_on (e := (8, 16, (.slice A 11 c))) 8 rfl rfl (hon 8 (by kernel_rfl)) rfl
      have e15 : a.tmps[15]? = some ((.bool true)) := by rw [ha]; exact putSel_on (e := (7, 15, (.bool true))) 7 rfl rfl (hon 7 (by kernel_rfl)) rfl
      replace ha := Aside0.mk ha
      have HB := Aside0.mk Q_HB
      have HS := Aside0.mk Q_HS
      have hc_ := HCUT.out
      rw [show (7 : Int).toNat = 7 from rfl] at hc_
      refine value_ (w1 := w') (v := (.slice A 7 c)) (wanted_on rfl rfl rfl (e15.trans (by first | rfl | (simp [*]; done)))) rfl ?_ ?_
      · go_simp
        (try simp only [i64_w])
        try rfl
      refine hK.out _ _ ⟨v19, (by rw [ha.out]; exact putSel_upk 9 hb_ rfl rfl rfl), Q_HB, Q_HS, Q_S19⟩
    refine steps_cons ?_ ?_
    · rintro b a w' ⟨v19, ha, Q_HB, Q_HS, Q_S19⟩ hb_ hon hoff
      refine ⟨_, rfl, fun K hK => ?_⟩
      have e17 : a.tmps[17]? = some ((.slice A 7 c)) := by rw [ha]; exact putSel_on (e := (9, 17, (.slice A 7 c))) 9 rfl rfl (hon 9 (by kernel_rfl)) rfl
      have e15 : a.tmps[15]? = some ((.bool true)) := by rw [ha]; exact putSel_on (e := (7, 15, (.bool true))) 7 rfl rfl (hon 7 (by kernel_rfl)) rfl
      replace ha := Aside0.mk ha
      have HB := Aside0.mk Q_HB
      have HS := Aside0.mk Q_HS
      have hc_ := Sl.string (P := Try.prog) Try.underlying25 Try.underlying5 Try.underlying9 HS.out
      refine value_ (w1 := w') (v := (.string (strOfNums [6, 1, 2, 3, 2, 97, 98]))) (wanted_on rfl rfl rfl (e15.trans (by first | rfl | (simp [*]; done)))) rfl ?_ ?_
      · go_simp
        (try simp only [i64_w])
        try rfl
      refine hK.out _ _ ⟨v19, (by rw [ha.out]; exact putSel_upk 10 hb_ rfl rfl rfl), Q_HB, Q_HS, Q_S19⟩
    refine steps_cons ?_ ?_
    · rintro b a w' ⟨v19, ha, Q_HB, Q_HS, Q_S19⟩ hb_ hon hoff
      refine ⟨_, rfl, fun K hK => ?_⟩
      have e15 : a.tmps[15]? = some ((.bool true)) := by rw [ha]; exact putSel_on (e := (7, 15, (.bool true))) 7 rfl rfl (hon 7 (by kernel_rfl)) rfl
      replace ha := Aside0.mk ha
      have HB := Aside0.mk Q_HB
      have HS := Aside0.mk Q_HS
      refine value_lit (P := Try.prog) (C := #[.int .u8 6, .int .u8 1, .int .u8 2, .int .u8 3, .int .u8 2, .int .u8 97, .int .u8 98]) (T := 5) (l := [6, 1, 2, 3, 2, 97, 98]) (wanted_on rfl rfl rfl (e15.trans (by first | rfl | (simp [*]; done)))) rfl (by go_simp) rfl (by decide) ?_
      intro v19 w1_ hs hb
      refine hK.out _ _ ⟨v19, (by rw [ha.out]; exact putSel_upk 11 hb_ rfl rfl rfl), below_step HB.out hb, HS.out.below hb, fun _ => hs⟩
    refine steps_cons ?_ ?_
    · rintro b a w' ⟨v19, ha, Q_HB, Q_HS, Q_S19⟩ hb_ hon hoff
      refine ⟨_, rfl, fun K hK => ?_⟩
      have e19 : a.tmps[19]? = some (v19) := by rw [ha]; exact putSel_on (e := (11, 19, v19)) 11 rfl rfl (hon 11 (by kernel_rfl)) rfl
      have e15 : a.tmps[15]? = some ((.bool true)) := by rw [ha]; exact putSel_on (e := (7, 15, (.bool true))) 7 rfl rfl (hon 7 (by kernel_rfl)) rfl
      replace ha := Aside0.mk ha
      have HB := Aside0.mk Q_HB
      have HS := Aside0.mk Q_HS
      have S19 := Aside0.mk (Q_S19 (hon 11 (by kernel_rfl)))
      have hc_ := Sl.string (P := Try.prog) Try.underlying25 Try.underlying5 Try.underlying9 S19.out
      refine value_ (w1 := w') (v := (.string (strOfNums [6, 1, 2, 3, 2, 97, 98]))) (wanted_on rfl rfl rfl (e15.trans (by first | rfl | (simp [*]; done)))) rfl ?_ ?_
      · go_simp
        (try simp only [i64_w])
        try rfl
      refine hK.out _ _ ⟨v19, (by rw [ha.out]; exact putSel_upk 12 hb_ rfl rfl rfl), Q_HB, Q_HS, Q_S19⟩
    refine steps_cons ?_ ?_
    · rintro b a w' ⟨v19, ha, Q_HB, Q_HS, Q_S19⟩ hb_ hon hoff
      refine ⟨_, rfl, fun K hK => ?_⟩
      have e18 : a.tmps[18]? = some ((.string (strOfNums [6, 1, 2, 3, 2, 97, 98]))) := by rw [ha]; exact putSel_on (e := (10, 18, (.string (strOfNums [6, 1, 2, 3, 2, 97, 98])))) 10 rfl rfl (hon 10 (by kernel_rfl)) rfl
      have e20 : a.tmps[20]? = some ((.string (strOfNums [6, 1, 2, 3, 2, 97, 98]))) := by rw [ha]; exact putSel_on (e := (12, 20, (.string (strOfNums [6, 1, 2, 3, 2, 97, 98])))) 12 rfl rfl (hon 12 (by kernel_rfl)) rfl
      have e15 : a.tmps[15]? = some ((.bool true)) := by rw [ha]; exact putSel_on (e := (7, 15, (.bool true))) 7 rfl rfl (hon 7 (by kernel_rfl)) rfl
      replace ha := Aside0.mk ha
      have HB := Aside0.mk Q_HB
      have HS := Aside0.mk Q_HS
      have S19 := Aside0.mk (Q_S19 (hon 11 (by kernel_rfl)))
      refine value_ (w1 := w') (v := (.bool true)) (wanted_on rfl rfl rfl (e15.trans (by first | rfl | (simp [*]; done)))) rfl ?_ ?_
      · go_simp
        (try simp only [i64_w])
        try rfl
      refine hK.out _ _ ⟨v19, (by rw [ha.out]; exact putSel_upk 13 hb_ rfl rfl rfl), Q_HB, Q_HS, Q_S19⟩
    refine steps_cons ?_ ?_
    · rintro b a w' ⟨v19, ha, Q_HB, Q_HS, Q_S19⟩ hb_ hon hoff
      refine ⟨_, rfl, fun K hK => ?_⟩
      have e15 : a.tmps[15]? = some ((.bool true)) := by rw [ha]; exact putSel_on (e := (7, 15, (.bool true))) 7 rfl rfl (hon 7 (by kernel_rfl)) rfl
      have e21 : a.tmps[21]? = some ((.bool true)) := by rw [ha]; exact putSel_on (e := (13, 21, (.bool true))) 13 rfl rfl (hon 13 (by kernel_rfl)) rfl
      replace ha := Aside0.mk ha
      have HB := Aside0.mk Q_HB
      have HS := Aside0.mk Q_HS
      have S19 := Aside0.mk (Q_S19 (hon 11 (by kernel_rfl)))
      refine value_ (w1 := w') (v := (.bool true)) (by rfl) rfl ?_ ?_
      · go_simp
        (try simp only [i64_w])
        try rfl
      refine hK.out _ _ ⟨v19, (by rw [ha.out]; exact putSel_upk 14 hb_ rfl rfl rfl), Q_HB, Q_HS, Q_S19⟩
    refine steps_cons ?_ ?_
    · rintro b a w' ⟨v19, ha, Q_HB, Q_HS, Q_S19⟩ hb_ hon hoff
      refine ⟨_, rfl, fun K hK => ?_⟩
      have e22 : a.tmps[22]? = some ((.bool true)) := by rw [ha]; exact putSel_on (e := (14, 22, (.bool true))) 14 rfl rfl (hon 14 (by kernel_rfl)) rfl
      replace ha := Aside0.mk ha
      have HB := Aside0.mk Q_HB
      have HS := Aside0.mk Q_HS
      have S19 := Aside0.mk (Q_S19 (hon 11 (by kernel_rfl)))
      refine value_ (w1 := w') (v := (.bool true)) (by rfl) rfl ?_ ?_
      · go_simp
        (try simp only [i64_w])
        try rfl
      refine hK.out _ _ ⟨v19, (by rw [ha.out]; exact putSel_upk 15 hb_ rfl rfl rfl), Q_HB, Q_HS, Q_S19⟩
    exact steps_nil
  rintro b a we hall ⟨v19, ha, Q_HB, Q_HS, Q_S19⟩
  clear HB HS
  have hb0_ := hall 0 (by kernel_rfl)
  have hb1_ := hall 1 (by kernel_rfl)
  have hb2_ := hall 2 (by kernel_rfl)
  have hb3_ := hall 3 (by kernel_rfl)
  have hb4_ := hall 4 (by kernel_rfl)
  have hb5_ := hall 5 (by kernel_rfl)
  have hb6_ := hall 6 (by kernel_rfl)
  have hb7_ := hall 7 (by kernel_rfl)
  have hb8_ := hall 8 (by kernel_rfl)
  have hb9_ := hall 9 (by kernel_rfl)
  have hb10_ := hall 10 (by kernel_rfl)
  have hb11_ := hall 11 (by kernel_rfl)
  have hb12_ := hall 12 (by kernel_rfl)
  have hb13_ := hall 13 (by kernel_rfl)
  have hb14_ := hall 14 (by kernel_rfl)
  have hb15_ := hall 15 (by kernel_rfl)
  subst ha
  simp only [putSel, hb0_, hb1_, hb2_, hb3_, hb4_, hb5_, hb6_, hb7_, hb8_, hb9_, hb10_, hb11_, hb12_, hb13_, hb14_, hb15_, if_true, Act.put, List.setIfInBounds_toArray, List.set_cons_zero, List.set_cons_succ]
  have HB := Aside0.mk Q_HB
  clear Q_HB
  have HS := Aside0.mk Q_HS
  clear Q_HS
  have S19 := Aside0.mk (Q_S19 hb11_)
  clear Q_S19
  clear hall hb0_ hb1_ hb2_ hb3_ hb4_ hb5_ hb6_ hb7_ hb8_ hb9_ hb10_ hb11_ hb12_ hb13_ hb14_ hb15_
  go_wp2_with fail
  go_ret
  exact ⟨rfl, HB.out⟩
end Go.Proofs.Ytedfcjcnhgomoaa.FrameLives

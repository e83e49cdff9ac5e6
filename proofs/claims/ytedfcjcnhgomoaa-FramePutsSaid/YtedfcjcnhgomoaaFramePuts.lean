/- The walk of the law of frames that are put. -/
import Derived.Test.YtedfcjcnhgomoaaFrameLives
namespace Go.Proofs.Ytedfcjcnhgomoaa.FramePuts
open Go.RowKit Go.Proofs.Ytedfcjcnhgomoaa.P Go.Proofs.YtedfcjcnhgomoaaW.PrintWords Go.Proofs.YtedfcjcnhgomoaaW.PrintLast Go.Proofs.YtedfcjcnhgomoaaW.PrintMore Go.Proofs.Ytedfcjcnhgomoaa.Own Go.Proofs.Ytedfcjcnhgomoaa.Vy Go.Proofs.Ytedfcjcnhgomoaa.FrameP
set_option linter.unusedSimpArgs false
set_option linter.unusedVariables false

def FramePuts.T5 : Bool × List (List Nat × List Nat) := (true, [([], []), ([0], [0]), ([], []), ([2, 1], [2]), ([1, 3], [1, 3]), ([4, 3], [4]), ([5], [5]), ([6, 5], [5, 6]), ([5], [5]), ([8, 5], [5, 8]), ([7, 9, 5], [5, 7, 9]), ([5, 10], [5, 10]), ([11, 5], [11]), ([12], [12]), ([12], [12]), ([13, 14, 12], [12, 13, 14]), ([12, 15], [12, 15]), ([16, 12], [16]), ([17, 17], [17]), ([17, 18], [17, 18]), ([19, 18, 0, 1, 2, 3, 4, 5, 6, 7, 8, 9, 10, 11, 12, 13, 14, 15, 16, 17, 18, 19], [19])])
def FramePuts.B5 : List Nat := [0, 1, 0, 7, 15, 31, 63, 127, 63, 319, 1023, 2047, 4095, 8191, 8191, 32767, 65535, 131071, 262143, 524287, 1048575]
theorem FramePuts.tab5 : rtab .any (opsOf Try.f3 5) = FramePuts.T5 := by kernel_rfl
theorem FramePuts.bits5 : waitsOk FramePuts.T5.2 FramePuts.B5 = true := by kernel_rfl
theorem pk_cells {w : World} {x : Int × Int × Int × ByteArray} {cs : Array Value} (h : (Kd.pair (Kd.int .i64) (Kd.pair (Kd.int .i64) (Kd.pair (Kd.int .i64) Kd.string))).K w x cs.toList) : ∃ p : Pk, .agg cs = p.val := by
  obtain ⟨c0, c1, e, h0, c2, c3, rfl, h1, c4, c5, rfl, h2, h3⟩ := h
  have h0' : c0 = [.int .i64 x.1] := h0
  have h1' : c2 = [.int .i64 x.2.1] := h1
  have h2' : c4 = [.int .i64 x.2.2.1] := h2
  have h3' : c5 = [.string x.2.2.2] := h3
  subst h0' h1' h2' h3'
  refine ⟨⟨x.1, x.2.1, x.2.2.1, x.2.2.2⟩, ?_⟩
  unfold Pk.val
  have : cs = #[.int .i64 x.1, .int .i64 x.2.1, .int .i64 x.2.2.1, .string x.2.2.2] := by
    apply Array.ext'
    rw [e]; rfl
  rw [this]
set_option maxHeartbeats 8000000 in
set_option maxRecDepth 100000 in
theorem good_case (p : Pk) (w : World) (hd : ¬ (2000 < p.d.size ∧ p.d.size ≤ 65536)) (hd2 : p.d.size ≤ 131072) : Calls Try.prog 3 #[p.val] w fun e w' => e = .returned (.bool true) ∧ Below w.heap.size w w' := by
  have hp := put_c p
  have hq := nRefPut p
  have hg := good_c p
  have hr := nRefGood p
  obtain ⟨F, hF⟩ : ∃ F, F = (if good p then frame p else []) := ⟨_, rfl⟩
  obtain ⟨er, her⟩ : ∃ er : Int, er = (if good p then 0 else 2) := ⟨_, rfl⟩
  rw [← hF, ← her] at hp hq
  obtain ⟨gd, hgd⟩ : ∃ gd, gd = good p := ⟨_, rfl⟩
  rw [← hgd] at hg hr
  clear hF her hgd
  obtain ⟨pe, ps, pa, pd⟩ := p
  unfold Pk.val at *
  simp only at *
  have HP := Aside0.mk hp
  have HQ := Aside0.mk hq
  have HG := Aside0.mk hg
  have HR := Aside0.mk hr
  have h1 : (2000 : Int) < (pd.size : Int) ∧ ¬ (pd.size : Int) ≤ 65536 ∨ ¬ (2000 : Int) < (pd.size : Int) := by omega
  have h2 : ¬ (131072 : Int) < (pd.size : Int) := by omega
  clear hp hq hg hr hd hd2
  have main : ∀ (h : (2000 : Int) < (pd.size : Int) ∧ ¬ (pd.size : Int) ≤ 65536 ∨ ¬ (2000 : Int) < (pd.size : Int)), Calls Try.prog 3 #[.agg #[.int .i64 pe, .int .i64 ps, .int .i64 pa, .string pd]] w fun e w' => e = .returned (.bool true) ∧ Below w.heap.size w w' := by
    intro h
    rcases h with ⟨h3, h4⟩ | h3
    all_goals
      go_enter Try.func3, Try.ntmps3
      go_wp2_with fail
      obtain ⟨w0, hw0⟩ : ∃ w0, w0 = w.alloc (.cells #[.int .i64 pe, .int .i64 ps, .int .i64 pa, .string pd] 23) := ⟨_, rfl⟩
      have HB0 := Aside0.mk (show Below w.heap.size w w0 by rw [hw0]; exact below_alloc (Below.refl _ _) _)
      have HH0 := Aside0.mk (show w0.heap[w.heap.size]? = some (.cells #[.int .i64 pe, .int .i64 ps, .int .i64 pa, .string pd] 23 (0, 0)) by rw [hw0]; exact Own.heap_new _ _)
      rw [← hw0]
      clear hw0
      refine (HP.out _).mono ?_
      rintro e1 w1 ⟨v1, rfl, hg, hb⟩
      have HB1 := Aside0.mk (HB0.out.trans (hb.mono HB0.out.size))
      have HH1 := Aside0.mk ((hb.block _ (Array.getElem?_eq_some_iff.1 HH0.out).1).trans HH0.out)
      have S1 := Aside0.mk hg.sl
      have c0 : w1.cell? ⟨w.heap.size, 0, none⟩ = some (.int .i64 pe) := by rw [cell_of_row w1 _ 0 _ _ _ HH1.out]; rfl
      have c1 : w1.cell? ⟨w.heap.size, 1, none⟩ = some (.int .i64 ps) := by rw [cell_of_row w1 _ 1 _ _ _ HH1.out]; rfl
      have c2 : w1.cell? ⟨w.heap.size, 2, none⟩ = some (.int .i64 pa) := by rw [cell_of_row w1 _ 2 _ _ _ HH1.out]; rfl
      have c3 : w1.cell? ⟨w.heap.size, 3, none⟩ = some (.string pd) := by rw [cell_of_row w1 _ 3 _ _ _ HH1.out]; rfl
      clear hg hb HB0 HH0
      go_wp2_with fail
      refine (HQ.out _).mono ?_
      rintro e2 w2 ⟨v2, rfl, hg, hb⟩
      have HB2 := Aside0.mk (HB1.out.trans (hb.mono HB1.out.size))
      have HH2 := Aside0.mk ((hb.block _ (Array.getElem?_eq_some_iff.1 HH1.out).1).trans HH1.out)
      have S2 := Aside0.mk hg.sl
      have S1' := Aside0.mk (S1.out.below hb)
      clear hg hb HB1 HH1 S1 c0 c1 c2 c3
      go_wp2_with fail
      refine start_ (n := 21) (S := fun w' => True) (ds := []) #[false, false, false, false, false, false, false, false, false, false, false, false, false, false, false, false, false, false, false, false, false] (by kernel_rfl) rfl rfl trivial (fun hHeld => ?_); refine with_tabW FramePuts.tab5 FramePuts.bits5 (fun HT_ HW_ => ?_)
      refine inv_at [0, 1, 2, 3, 4, 5, 6, 7, 8, 9, 10, 11, 12, 13, 14, 15, 16, 17, 18, 19, 20] (fun a0_ b a w' => a = putSel a0_ b [(0, 34, (.agg #[.int .i64 pe, .int .i64 ps, .int .i64 pa, .string pd])), (1, 35, (.bool gd)), (2, 36, (.agg #[.int .i64 pe, .int .i64 ps, .int .i64 pa, .string pd])), (3, 37, (.bool gd)), (4, 38, (.bool true)), (5, 39, (.bool true)), (6, 40, v1), (7, 41, (.string (strOfNums F))), (8, 42, v2), (9, 43, (.string (strOfNums F))), (10, 44, (.bool true)), (11, 45, (.bool true)), (12, 46, (.bool true)), (13, 47, (.int .i64 er)), (14, 48, (.int .i64 er)), (15, 49, (.bool true)), (16, 50, (.bool true)), (17, 51, (.bool true)), (18, 52, (.bool true)), (19, 53, (.bool true)), (20, 2, (.bool true))] ∧ (Below w.heap.size w w') ∧ (Sl w' v1 F) ∧ (Sl w' v2 F) ∧ (w'.heap[w.heap.size]? = some (.cells #[.int .i64 pe, .int .i64 ps, .int .i64 pa, .string pd] 23 (0, 0)))) HT_.out HW_.out (by kernel_rfl) (by kernel_rfl) ?_ ?_ ?_
      · exact ⟨by simp only [putSel, Bool.false_eq_true, if_false], below_drew1 HB2.out, S1'.out.drew, S2.out.drew, HH2.out⟩
      · skip
        clear HB2 HH2 S1' S2
        refine steps_cons ?_ ?_
        · rintro b a w' ⟨ha, Q_HB2, Q_S1', Q_S2, Q_HH2⟩ hb_ hon hoff
          refine ⟨_, rfl, fun K hK => ?_⟩
          have e1 : a.tmps[1]? = some ((.pointer (some ⟨w.heap.size, 0, none⟩))) := by rw [ha]; exact (putSel_off rfl).trans rfl
          replace ha := Aside0.mk ha
          have HB2 := Aside0.mk Q_HB2
          have S1' := Aside0.mk Q_S1'
          have S2 := Aside0.mk Q_S2
          have HH2 := Aside0.mk Q_HH2
          have c0 : w'.cell? ⟨w.heap.size, 0, none⟩ = some (.int .i64 pe) := by rw [cell_of_row w' _ 0 _ _ _ HH2.out]; rfl
          have c1 : w'.cell? ⟨w.heap.size, 1, none⟩ = some (.int .i64 ps) := by rw [cell_of_row w' _ 1 _ _ _ HH2.out]; rfl
          have c2 : w'.cell? ⟨w.heap.size, 2, none⟩ = some (.int .i64 pa) := by rw [cell_of_row w' _ 2 _ _ _ HH2.out]; rfl
          have c3 : w'.cell? ⟨w.heap.size, 3, none⟩ = some (.string pd) := by rw [cell_of_row w' _ 3 _ _ _ HH2.out]; rfl
          refine value_ (w1 := w') (v := (.agg #[.int .i64 pe, .int .i64 ps, .int .i64 pa, .string pd])) (by rfl) rfl ?_ ?_
          · go_simp
            (try simp only [i64_w])
            try rfl
          refine hK.out _ _ ⟨(by rw [ha.out]; exact putSel_upk 0 hb_ rfl rfl rfl), Q_HB2, Q_S1', Q_S2, Q_HH2⟩
        refine steps_cons ?_ ?_
        · rintro b a w' ⟨ha, Q_HB2, Q_S1', Q_S2, Q_HH2⟩ hb_ hon hoff
          refine ⟨_, rfl, fun K hK => ?_⟩
          have e34 : a.tmps[34]? = some ((.agg #[.int .i64 pe, .int .i64 ps, .int .i64 pa, .string pd])) := by rw [ha]; exact putSel_on (e := (0, 34, (.agg #[.int .i64 pe, .int .i64 ps, .int .i64 pa, .string pd]))) 0 rfl rfl (hon 0 (by kernel_rfl)) rfl
          replace ha := Aside0.mk ha
          have HB2 := Aside0.mk Q_HB2
          have S1' := Aside0.mk Q_S1'
          have S2 := Aside0.mk Q_S2
          have HH2 := Aside0.mk Q_HH2
          refine goes_ Try.func15 (by kernel_rfl) rfl #[.agg #[.int .i64 pe, .int .i64 ps, .int .i64 pa, .string pd]] (by rfl) rfl rfl (by first | (simp only [List.map_toArray, List.map_cons, List.map_nil, Act.eval, Array.getD_eq_getD_getElem?, Option.getD_some, e34]; done) | (simp only [List.map_toArray, List.map_cons, List.map_nil, Act.eval, Array.getD_eq_getD_getElem?, Option.getD_some, e34]; rfl)) ?_
          refine (HG.out _).mono ?_
          rintro e w1_ ⟨rfl, hb⟩
          refine ⟨_, rfl, ?_⟩
          refine hK.out _ _ ⟨(by rw [ha.out]; exact putSel_upk 1 hb_ rfl rfl rfl), below_step HB2.out hb, S1'.out.below hb, S2.out.below hb, (hb.block _ (Array.getElem?_eq_some_iff.1 HH2.out).1).trans HH2.out⟩
        refine steps_cons ?_ ?_
        · rintro b a w' ⟨ha, Q_HB2, Q_S1', Q_S2, Q_HH2⟩ hb_ hon hoff
          refine ⟨_, rfl, fun K hK => ?_⟩
          have e1 : a.tmps[1]? = some ((.pointer (some ⟨w.heap.size, 0, none⟩))) := by rw [ha]; exact (putSel_off rfl).trans rfl
          replace ha := Aside0.mk ha
          have HB2 := Aside0.mk Q_HB2
          have S1' := Aside0.mk Q_S1'
          have S2 := Aside0.mk Q_S2
          have HH2 := Aside0.mk Q_HH2
          have c0 : w'.cell? ⟨w.heap.size, 0, none⟩ = some (.int .i64 pe) := by rw [cell_of_row w' _ 0 _ _ _ HH2.out]; rfl
          have c1 : w'.cell? ⟨w.heap.size, 1, none⟩ = some (.int .i64 ps) := by rw [cell_of_row w' _ 1 _ _ _ HH2.out]; rfl
          have c2 : w'.cell? ⟨w.heap.size, 2, none⟩ = some (.int .i64 pa) := by rw [cell_of_row w' _ 2 _ _ _ HH2.out]; rfl
          have c3 : w'.cell? ⟨w.heap.size, 3, none⟩ = some (.string pd) := by rw [cell_of_row w' _ 3 _ _ _ HH2.out]; rfl
          refine value_ (w1 := w') (v := (.agg #[.int .i64 pe, .int .i64 ps, .int .i64 pa, .string pd])) (by rfl) rfl ?_ ?_
          · go_simp
            (try simp only [i64_w])
            try rfl
          refine hK.out _ _ ⟨(by rw [ha.out]; exact putSel_upk 2 hb_ rfl rfl rfl), Q_HB2, Q_S1', Q_S2, Q_HH2⟩
        refine steps_cons ?_ ?_
        · rintro b a w' ⟨ha, Q_HB2, Q_S1', Q_S2, Q_HH2⟩ hb_ hon hoff
          refine ⟨_, rfl, fun K hK => ?_⟩
          have e36 : a.tmps[36]? = some ((.agg #[.int .i64 pe, .int .i64 ps, .int .i64 pa, .string pd])) := by rw [ha]; exact putSel_on (e := (2, 36, (.agg #[.int .i64 pe, .int .i64 ps, .int .i64 pa, .string pd]))) 2 rfl rfl (hon 2 (by kernel_rfl)) rfl
          replace ha := Aside0.mk ha
          have HB2 := Aside0.mk Q_HB2
          have S1' := Aside0.mk Q_S1'
          have S2 := Aside0.mk Q_S2
          have HH2 := Aside0.mk Q_HH2
          refine goes_ Try.func16 (by kernel_rfl) rfl #[.agg #[.int .i64 pe, .int .i64 ps, .int .i64 pa, .string pd]] (by rfl) rfl rfl (by first | (simp only [List.map_toArray, List.map_cons, List.map_nil, Act.eval, Array.getD_eq_getD_getElem?, Option.getD_some, e36]; done) | (simp only [List.map_toArray, List.map_cons, List.map_nil, Act.eval, Array.getD_eq_getD_getElem?, Option.getD_some, e36]; rfl)) ?_
          refine (HR.out _).mono ?_
          rintro e w1_ ⟨rfl, hb⟩
          refine ⟨_, rfl, ?_⟩
          refine hK.out _ _ ⟨(by rw [ha.out]; exact putSel_upk 3 hb_ rfl rfl rfl), below_step HB2.out hb, S1'.out.below hb, S2.out.below hb, (hb.block _ (Array.getElem?_eq_some_iff.1 HH2.out).1).trans HH2.out⟩
        refine steps_cons ?_ ?_
        · rintro b a w' ⟨ha, Q_HB2, Q_S1', Q_S2, Q_HH2⟩ hb_ hon hoff
          refine ⟨_, rfl, fun K hK => ?_⟩
          have e35 : a.tmps[35]? = some ((.bool gd)) := by rw [ha]; exact putSel_on (e := (1, 35, (.bool gd))) 1 rfl rfl (hon 1 (by kernel_rfl)) rfl
          have e37 : a.tmps[37]? = some ((.bool gd)) := by rw [ha]; exact putSel_on (e := (3, 37, (.bool gd))) 3 rfl rfl (hon 3 (by kernel_rfl)) rfl
          replace ha := Aside0.mk ha
          have HB2 := Aside0.mk Q_HB2
          have S1' := Aside0.mk Q_S1'
          have S2 := Aside0.mk Q_S2
          have HH2 := Aside0.mk Q_HH2
          refine value_ (w1 := w') (v := (.bool true)) (by rfl) rfl ?_ ?_
          · go_simp
            (try simp only [i64_w])
            try rfl
          refine hK.out _ _ ⟨(by rw [ha.out]; exact putSel_upk 4 hb_ rfl rfl rfl), Q_HB2, Q_S1', Q_S2, Q_HH2⟩
        refine steps_cons ?_ ?_
        · rintro b a w' ⟨ha, Q_HB2, Q_S1', Q_S2, Q_HH2⟩ hb_ hon hoff
          refine ⟨_, rfl, fun K hK => ?_⟩
          have e38 : a.tmps[38]? = some ((.bool true)) := by rw [ha]; exact putSel_on (e := (4, 38, (.bool true))) 4 rfl rfl (hon 4 (by kernel_rfl)) rfl
          replace ha := Aside0.mk ha
          have HB2 := Aside0.mk Q_HB2
          have S1' := Aside0.mk Q_S1'
          have S2 := Aside0.mk Q_S2
          have HH2 := Aside0.mk Q_HH2
          refine value_ (w1 := w') (v := (.bool true)) (by rfl) rfl ?_ ?_
          · go_simp
            (try simp only [i64_w])
            try rfl
          refine hK.out _ _ ⟨(by rw [ha.out]; exact putSel_upk 5 hb_ rfl rfl rfl), Q_HB2, Q_S1', Q_S2, Q_HH2⟩
        refine steps_cons ?_ ?_
        · rintro b a w' ⟨ha, Q_HB2, Q_S1', Q_S2, Q_HH2⟩ hb_ hon hoff
          refine ⟨_, rfl, fun K hK => ?_⟩
          have e3 : a.tmps[3]? = some (v1) := by rw [ha]; exact (putSel_off rfl).trans rfl
          have e39 : a.tmps[39]? = some ((.bool true)) := by rw [ha]; exact putSel_on (e := (5, 39, (.bool true))) 5 rfl rfl (hon 5 (by kernel_rfl)) rfl
          replace ha := Aside0.mk ha
          have HB2 := Aside0.mk Q_HB2
          have S1' := Aside0.mk Q_S1'
          have S2 := Aside0.mk Q_S2
          have HH2 := Aside0.mk Q_HH2
          refine value_ (w1 := w') (v := v1) (wanted_on rfl rfl rfl (e39.trans (by first | rfl | (simp [*]; done)))) rfl ?_ ?_
          · go_simp
            (try simp only [i64_w])
            try rfl
          refine hK.out _ _ ⟨(by rw [ha.out]; exact putSel_upk 6 hb_ rfl rfl rfl), Q_HB2, Q_S1', Q_S2, Q_HH2⟩
        refine steps_cons ?_ ?_
        · rintro b a w' ⟨ha, Q_HB2, Q_S1', Q_S2, Q_HH2⟩ hb_ hon hoff
          refine ⟨_, rfl, fun K hK => ?_⟩
          have e40 : a.tmps[40]? = some (v1) := by rw [ha]; exact putSel_on (e := (6, 40, v1)) 6 rfl rfl (hon 6 (by kernel_rfl)) rfl
          have e39 : a.tmps[39]? = some ((.bool true)) := by rw [ha]; exact putSel_on (e := (5, 39, (.bool true))) 5 rfl rfl (hon 5 (by kernel_rfl)) rfl
          replace ha := Aside0.mk ha
          have HB2 := Aside0.mk Q_HB2
          have S1' := Aside0.mk Q_S1'
          have S2 := Aside0.mk Q_S2
          have HH2 := Aside0.mk Q_HH2
          have hc_ := Sl.string (P := Try.prog) Try.underlying25 Try.underlying5 Try.underlying9 S1'.out
          refine value_ (w1 := w') (v := (.string (strOfNums F))) (wanted_on rfl rfl rfl (e39.trans (by first | rfl | (simp [*]; done)))) rfl ?_ ?_
          · go_simp
            (try simp only [i64_w])
            try rfl
          refine hK.out _ _ ⟨(by rw [ha.out]; exact putSel_upk 7 hb_ rfl rfl rfl), Q_HB2, Q_S1', Q_S2, Q_HH2⟩
        refine steps_cons ?_ ?_
        · rintro b a w' ⟨ha, Q_HB2, Q_S1', Q_S2, Q_HH2⟩ hb_ hon hoff
          refine ⟨_, rfl, fun K hK => ?_⟩
          have e5 : a.tmps[5]? = some (v2) := by rw [ha]; exact (putSel_off rfl).trans rfl
          have e39 : a.tmps[39]? = some ((.bool true)) := by rw [ha]; exact putSel_on (e := (5, 39, (.bool true))) 5 rfl rfl (hon 5 (by kernel_rfl)) rfl
          replace ha := Aside0.mk ha
          have HB2 := Aside0.mk Q_HB2
          have S1' := Aside0.mk Q_S1'
          have S2 := Aside0.mk Q_S2
          have HH2 := Aside0.mk Q_HH2
          refine value_ (w1 := w') (v := v2) (wanted_on rfl rfl rfl (e39.trans (by first | rfl | (simp [*]; done)))) rfl ?_ ?_
          · go_simp
            (try simp only [i64_w])
            try rfl
          refine hK.out _ _ ⟨(by rw [ha.out]; exact putSel_upk 8 hb_ rfl rfl rfl), Q_HB2, Q_S1', Q_S2, Q_HH2⟩
        refine steps_cons ?_ ?_
        · rintro b a w' ⟨ha, Q_HB2, Q_S1', Q_S2, Q_HH2⟩ hb_ hon hoff
          refine ⟨_, rfl, fun K hK => ?_⟩
          have e42 : a.tmps[42]? = some (v2) := by rw [ha]; exact putSel_on (e := (8, 42, v2)) 8 rfl rfl (hon 8 (by kernel_rfl)) rfl
          have e39 : a.tmps[39]? = some ((.bool true)) := by rw [ha]; exact putSel_on (e := (5, 39, (.bool true))) 5 rfl rfl (hon 5 (by kernel_rfl)) rfl
          replace ha := Aside0.mk ha
          have HB2 := Aside0.mk Q_HB2
          have S1' := Aside0.mk Q_S1'
          have S2 := Aside0.mk Q_S2
          have HH2 := Aside0.mk Q_HH2
          have hc_ := Sl.string (P := Try.prog) Try.underlying25 Try.underlying5 Try.underlying9 S2.out
          refine value_ (w1 := w') (v := (.string (strOfNums F))) (wanted_on rfl rfl rfl (e39.trans (by first | rfl | (simp [*]; done)))) rfl ?_ ?_
          · go_simp
            (try simp only [i64_w])
            try rfl
          refine hK.out _ _ ⟨(by rw [ha.out]; exact putSel_upk 9 hb_ rfl rfl rfl), Q_HB2, Q_S1', Q_S2, Q_HH2⟩
        refine steps_cons ?_ ?_
        · rintro b a w' ⟨ha, Q_HB2, Q_S1', Q_S2, Q_HH2⟩ hb_ hon hoff
          refine ⟨_, rfl, fun K hK => ?_⟩
          have e41 : a.tmps[41]? = some ((.string (strOfNums F))) := by rw [ha]; exact putSel_on (e := (7, 41, (.string (strOfNums F)))) 7 rfl rfl (hon 7 (by kernel_rfl)) rfl
          have e43 : a.tmps[43]? = some ((.string (strOfNums F))) := by rw [ha]; exact putSel_on (e := (9, 43, (.string (strOfNums F)))) 9 rfl rfl (hon 9 (by kernel_rfl)) rfl
          have e39 : a.tmps[39]? = some ((.bool true)) := by rw [ha]; exact putSel_on (e := (5, 39, (.bool true))) 5 rfl rfl (hon 5 (by kernel_rfl)) rfl
          replace ha := Aside0.mk ha
          have HB2 := Aside0.mk Q_HB2
          have S1' := Aside0.mk Q_S1'
          have S2 := Aside0.mk Q_S2
          have HH2 := Aside0.mk Q_HH2
          refine value_ (w1 := w') (v := (.bool true)) (wanted_on rfl rfl rfl (e39.trans (by first | rfl | (simp [*]; done)))) rfl ?_ ?_
          · go_simp
            (try simp only [i64_w])
            try rfl
          refine hK.out _ _ ⟨(by rw [ha.out]; exact putSel_upk 10 hb_ rfl rfl rfl), Q_HB2, Q_S1', Q_S2, Q_HH2⟩
        refine steps_cons ?_ ?_
        · rintro b a w' ⟨ha, Q_HB2, Q_S1', Q_S2, Q_HH2⟩ hb_ hon hoff
          refine ⟨_, rfl, fun K hK => ?_⟩
          have e39 : a.tmps[39]? = some ((.bool true)) := by rw [ha]; exact putSel_on (e := (5, 39, (.bool true))) 5 rfl rfl (hon 5 (by kernel_rfl)) rfl
          have e44 : a.tmps[44]? = some ((.bool true)) := by rw [ha]; exact putSel_on (e := (10, 44, (.bool true))) 10 rfl rfl (hon 10 (by kernel_rfl)) rfl
          replace ha := Aside0.mk ha
          have HB2 := Aside0.mk Q_HB2
          have S1' := Aside0.mk Q_S1'
          have S2 := Aside0.mk Q_S2
          have HH2 := Aside0.mk Q_HH2
          refine value_ (w1 := w') (v := (.bool true)) (by rfl) rfl ?_ ?_
          · go_simp
            (try simp only [i64_w])
            try rfl
          refine hK.out _ _ ⟨(by rw [ha.out]; exact putSel_upk 11 hb_ rfl rfl rfl), Q_HB2, Q_S1', Q_S2, Q_HH2⟩
        refine steps_cons ?_ ?_
        · rintro b a w' ⟨ha, Q_HB2, Q_S1', Q_S2, Q_HH2⟩ hb_ hon hoff
          refine ⟨_, rfl, fun K hK => ?_⟩
          have e45 : a.tmps[45]? = some ((.bool true)) := by rw [ha]; exact putSel_on (e := (11, 45, (.bool true))) 11 rfl rfl (hon 11 (by kernel_rfl)) rfl
          replace ha := Aside0.mk ha
          have HB2 := Aside0.mk Q_HB2
          have S1' := Aside0.mk Q_S1'
          have S2 := Aside0.mk Q_S2
          have HH2 := Aside0.mk Q_HH2
          refine value_ (w1 := w') (v := (.bool true)) (by rfl) rfl ?_ ?_
          · go_simp
            (try simp only [i64_w])
            try rfl
          refine hK.out _ _ ⟨(by rw [ha.out]; exact putSel_upk 12 hb_ rfl rfl rfl), Q_HB2, Q_S1', Q_S2, Q_HH2⟩
        refine steps_cons ?_ ?_
        · rintro b a w' ⟨ha, Q_HB2, Q_S1', Q_S2, Q_HH2⟩ hb_ hon hoff
          refine ⟨_, rfl, fun K hK => ?_⟩
          have e4 : a.tmps[4]? = some ((.int .i64 er)) := by rw [ha]; exact (putSel_off rfl).trans rfl
          have e46 : a.tmps[46]? = some ((.bool true)) := by rw [ha]; exact putSel_on (e := (12, 46, (.bool true))) 12 rfl rfl (hon 12 (by kernel_rfl)) rfl
          replace ha := Aside0.mk ha
          have HB2 := Aside0.mk Q_HB2
          have S1' := Aside0.mk Q_S1'
          have S2 := Aside0.mk Q_S2
          have HH2 := Aside0.mk Q_HH2
          refine value_ (w1 := w') (v := (.int .i64 er)) (wanted_on rfl rfl rfl (e46.trans (by first | rfl | (simp [*]; done)))) rfl ?_ ?_
          · go_simp
            (try simp only [i64_w])
            try rfl
          refine hK.out _ _ ⟨(by rw [ha.out]; exact putSel_upk 13 hb_ rfl rfl rfl), Q_HB2, Q_S1', Q_S2, Q_HH2⟩
        refine steps_cons ?_ ?_
        · rintro b a w' ⟨ha, Q_HB2, Q_S1', Q_S2, Q_HH2⟩ hb_ hon hoff
          refine ⟨_, rfl, fun K hK => ?_⟩
          have e6 : a.tmps[6]? = some ((.int .i64 er)) := by rw [ha]; exact (putSel_off rfl).trans rfl
          have e46 : a.tmps[46]? = some ((.bool true)) := by rw [ha]; exact putSel_on (e := (12, 46, (.bool true))) 12 rfl rfl (hon 12 (by kernel_rfl)) rfl
          replace ha := Aside0.mk ha
          have HB2 := Aside0.mk Q_HB2
          have S1' := Aside0.mk Q_S1'
          have S2 := Aside0.mk Q_S2
          have HH2 := Aside0.mk Q_HH2
          refine value_ (w1 := w') (v := (.int .i64 er)) (wanted_on rfl rfl rfl (e46.trans (by first | rfl | (simp [*]; done)))) rfl ?_ ?_
          · go_simp
            (try simp only [i64_w])
            try rfl
          refine hK.out _ _ ⟨(by rw [ha.out]; exact putSel_upk 14 hb_ rfl rfl rfl), Q_HB2, Q_S1', Q_S2, Q_HH2⟩
        refine steps_cons ?_ ?_
        · rintro b a w' ⟨ha, Q_HB2, Q_S1', Q_S2, Q_HH2⟩ hb_ hon hoff
          refine ⟨_, rfl, fun K hK => ?_⟩
          have e47 : a.tmps[47]? = some ((.int .i64 er)) := by rw [ha]; exact putSel_on (e := (13, 47, (.int .i64 er))) 13 rfl rfl (hon 13 (by kernel_rfl)) rfl
          have e48 : a.tmps[48]? = some ((.int .i64 er)) := by rw [ha]; exact putSel_on (e := (14, 48, (.int .i64 er))) 14 rfl rfl (hon 14 (by kernel_rfl)) rfl
          have e46 : a.tmps[46]? = some ((.bool true)) := by rw [ha]; exact putSel_on (e := (12, 46, (.bool true))) 12 rfl rfl (hon 12 (by kernel_rfl)) rfl
          replace ha := Aside0.mk ha
          have HB2 := Aside0.mk Q_HB2
          have S1' := Aside0.mk Q_S1'
          have S2 := Aside0.mk Q_S2
          have HH2 := Aside0.mk Q_HH2
          refine value_ (w1 := w') (v := (.bool true)) (wanted_on rfl rfl rfl (e46.trans (by first | rfl | (simp [*]; done)))) rfl ?_ ?_
          · go_simp
            (try simp only [i64_w])
            try rfl
          refine hK.out _ _ ⟨(by rw [ha.out]; exact putSel_upk 15 hb_ rfl rfl rfl), Q_HB2, Q_S1', Q_S2, Q_HH2⟩
        refine steps_cons ?_ ?_
        · rintro b a w' ⟨ha, Q_HB2, Q_S1', Q_S2, Q_HH2⟩ hb_ hon hoff
          refine ⟨_, rfl, fun K hK => ?_⟩
          have e46 : a.tmps[46]? = some ((.bool true)) := by rw [ha]; exact putSel_on (e := (12, 46, (.bool true))) 12 rfl rfl (hon 12 (by kernel_rfl)) rfl
          have e49 : a.tmps[49]? = some ((.bool true)) := by rw [ha]; exact putSel_on (e := (15, 49, (.bool true))) 15 rfl rfl (hon 15 (by kernel_rfl)) rfl
          replace ha := Aside0.mk ha
          have HB2 := Aside0.mk Q_HB2
          have S1' := Aside0.mk Q_S1'
          have S2 := Aside0.mk Q_S2
          have HH2 := Aside0.mk Q_HH2
          refine value_ (w1 := w') (v := (.bool true)) (by rfl) rfl ?_ ?_
          · go_simp
            (try simp only [i64_w])
            try rfl
          refine hK.out _ _ ⟨(by rw [ha.out]; exact putSel_upk 16 hb_ rfl rfl rfl), Q_HB2, Q_S1', Q_S2, Q_HH2⟩
        refine steps_cons ?_ ?_
        · rintro b a w' ⟨ha, Q_HB2, Q_S1', Q_S2, Q_HH2⟩ hb_ hon hoff
          refine ⟨_, rfl, fun K hK => ?_⟩
          have e50 : a.tmps[50]? = some ((.bool true)) := by rw [ha]; exact putSel_on (e := (16, 50, (.bool true))) 16 rfl rfl (hon 16 (by kernel_rfl)) rfl
          replace ha := Aside0.mk ha
          have HB2 := Aside0.mk Q_HB2
          have S1' := Aside0.mk Q_S1'
          have S2 := Aside0.mk Q_S2
          have HH2 := Aside0.mk Q_HH2
          refine value_ (w1 := w') (v := (.bool true)) (by rfl) rfl ?_ ?_
          · go_simp
            (try simp only [i64_w])
            try rfl
          refine hK.out _ _ ⟨(by rw [ha.out]; exact putSel_upk 17 hb_ rfl rfl rfl), Q_HB2, Q_S1', Q_S2, Q_HH2⟩
        refine steps_cons ?_ ?_
        · rintro b a w' ⟨ha, Q_HB2, Q_S1', Q_S2, Q_HH2⟩ hb_ hon hoff
          refine ⟨_, rfl, fun K hK => ?_⟩
          have e51 : a.tmps[51]? = some ((.bool true)) := by rw [ha]; exact putSel_on (e := (17, 51, (.bool true))) 17 rfl rfl (hon 17 (by kernel_rfl)) rfl
          replace ha := Aside0.mk ha
          have HB2 := Aside0.mk Q_HB2
          have S1' := Aside0.mk Q_S1'
          have S2 := Aside0.mk Q_S2
          have HH2 := Aside0.mk Q_HH2
          refine goes_ Try.func12 (by kernel_rfl) rfl #[] (wanted_on rfl rfl rfl (e51.trans (by first | rfl | (simp [*]; done)))) rfl rfl (by first | (simp only [List.map_toArray, List.map_cons, List.map_nil, Act.eval, Array.getD_eq_getD_getElem?, Option.getD_some, e51]; done) | (simp only [List.map_toArray, List.map_cons, List.map_nil, Act.eval, Array.getD_eq_getD_getElem?, Option.getD_some, e51]; rfl)) ?_
          refine (FrameLives.lives_c _).mono ?_
          rintro e w1_ ⟨rfl, hb⟩
          refine ⟨_, rfl, ?_⟩
          refine hK.out _ _ ⟨(by rw [ha.out]; exact putSel_upk 18 hb_ rfl rfl rfl), below_step HB2.out hb, S1'.out.below hb, S2.out.below hb, (hb.block _ (Array.getElem?_eq_some_iff.1 HH2.out).1).trans HH2.out⟩
        refine steps_cons ?_ ?_
        · rintro b a w' ⟨ha, Q_HB2, Q_S1', Q_S2, Q_HH2⟩ hb_ hon hoff
          refine ⟨_, rfl, fun K hK => ?_⟩
          have e51 : a.tmps[51]? = some ((.bool true)) := by rw [ha]; exact putSel_on (e := (17, 51, (.bool true))) 17 rfl rfl (hon 17 (by kernel_rfl)) rfl
          have e52 : a.tmps[52]? = some ((.bool true)) := by rw [ha]; exact putSel_on (e := (18, 52, (.bool true))) 18 rfl rfl (hon 18 (by kernel_rfl)) rfl
          replace ha := Aside0.mk ha
          have HB2 := Aside0.mk Q_HB2
          have S1' := Aside0.mk Q_S1'
          have S2 := Aside0.mk Q_S2
          have HH2 := Aside0.mk Q_HH2
          refine value_ (w1 := w') (v := (.bool true)) (by rfl) rfl ?_ ?_
          · go_simp
            (try simp only [i64_w])
            try rfl
          refine hK.out _ _ ⟨(by rw [ha.out]; exact putSel_upk 19 hb_ rfl rfl rfl), Q_HB2, Q_S1', Q_S2, Q_HH2⟩
        refine steps_cons ?_ ?_
        · rintro b a w' ⟨ha, Q_HB2, Q_S1', Q_S2, Q_HH2⟩ hb_ hon hoff
          refine ⟨_, rfl, fun K hK => ?_⟩
          have e53 : a.tmps[53]? = some ((.bool true)) := by rw [ha]; exact putSel_on (e := (19, 53, (.bool true))) 19 rfl rfl (hon 19 (by kernel_rfl)) rfl
          replace ha := Aside0.mk ha
          have HB2 := Aside0.mk Q_HB2
          have S1' := Aside0.mk Q_S1'
          have S2 := Aside0.mk Q_S2
          have HH2 := Aside0.mk Q_HH2
          refine value_ (w1 := w') (v := (.bool true)) (by rfl) rfl ?_ ?_
          · go_simp
            (try simp only [i64_w])
            try rfl
          refine hK.out _ _ ⟨(by rw [ha.out]; exact putSel_upk 20 hb_ rfl rfl rfl), Q_HB2, Q_S1', Q_S2, Q_HH2⟩
        exact steps_nil
      rintro b a w9 hall ⟨ha, Q_HB2, Q_S1', Q_S2, Q_HH2⟩
      clear HB2 HH2 S1' S2
      have hb0_ := hall 0 (by kernel_rfl)
      have hb1_ := hall 1 (by kernel_rfl)
      have hb2_ := hall 2 (by kernel_rfl)
      have hb3_ := hall 3 (by kernel_rfl)
      have hb4_ := hall 4 (by kernel_rfl)
      have hb5_ := hall 5 (by kernel_rfl)
      have hb6_ := hall 6 (by kernel_rfl)
      have hb7_ := hall 7 (by kernel_rfl)
      have hb8_ := hall 8 (by kernel_rfl)
      have hb9_ := hall 9 (by kernel_rfl)
      have hb10_ := hall 10 (by kernel_rfl)
      have hb11_ := hall 11 (by kernel_rfl)
      have hb12_ := hall 12 (by kernel_rfl)
      have hb13_ := hall 13 (by kernel_rfl)
      have hb14_ := hall 14 (by kernel_rfl)
      have hb15_ := hall 15 (by kernel_rfl)
      have hb16_ := hall 16 (by kernel_rfl)
      have hb17_ := hall 17 (by kernel_rfl)
      have hb18_ := hall 18 (by kernel_rfl)
      have hb19_ := hall 19 (by kernel_rfl)
      have hb20_ := hall 20 (by kernel_rfl)
      subst ha
      simp only [putSel, hb0_, hb1_, hb2_, hb3_, hb4_, hb5_, hb6_, hb7_, hb8_, hb9_, hb10_, hb11_, hb12_, hb13_, hb14_, hb15_, hb16_, hb17_, hb18_, hb19_, hb20_, if_true, Act.put, List.setIfInBounds_toArray, List.set_cons_zero, List.set_cons_succ]
      have HB2 := Aside0.mk Q_HB2
      clear Q_HB2
      have S1' := Aside0.mk Q_S1'
      clear Q_S1'
      have S2 := Aside0.mk Q_S2
      clear Q_S2
      have HH2 := Aside0.mk Q_HH2
      clear Q_HH2
      clear hall hb0_ hb1_ hb2_ hb3_ hb4_ hb5_ hb6_ hb7_ hb8_ hb9_ hb10_ hb11_ hb12_ hb13_ hb14_ hb15_ hb16_ hb17_ hb18_ hb19_ hb20_
      go_wp2_with fail
      go_ret
      exact ⟨rfl, HB2.out⟩
  exact main h1
set_option maxHeartbeats 2000000 in
set_option maxRecDepth 100000 in
theorem row (cs : Array Value) (x : Int × Int × Int × ByteArray) (w : World) (hK : (Kd.pair (Kd.int .i64) (Kd.pair (Kd.int .i64) (Kd.pair (Kd.int .i64) Kd.string))).K w x cs.toList) (_ : (Lit.int .i64 x.1).wf = true ∧ (Lit.int .i64 x.2.1).wf = true ∧ (Lit.int .i64 x.2.2.1).wf = true ∧ x.2.2.2.size ≤ maxLen) :
    Calls Try.prog 3 #[.agg cs] w fun e w' => e = .returned (.bool true) ∧ Below w.heap.size w w' := by
  obtain ⟨p, hp⟩ := pk_cells hK
  rw [hp]
  by_cases h1 : 2000 < p.d.size ∧ p.d.size ≤ 65536
  · obtain ⟨e, s, a, d⟩ := p
    unfold Pk.val
    simp only at h1 ⊢
    obtain ⟨h1, h2⟩ := h1
    have h3 : (2000 : Int) < (d.size : Int) := by omega
    have h4 : (d.size : Int) ≤ 65536 := by omega
    clear hK hp h1 h2
    go_enter Try.func3, Try.ntmps3
    go_wp2_with fail
    refine (FrameLives.lives_c _).mono ?_
    rintro e w1 ⟨rfl, hb⟩
    have HB := Aside0.mk ((below_alloc (Below.refl w.heap.size w) _).trans (hb.mono (by simp)))
    clear hb
    go_wp2_with fail
    go_ret
    exact ⟨rfl, HB.out⟩
  · by_cases h2 : p.d.size ≤ 131072
    · exact good_case p w h1 h2
    · obtain ⟨e, s, a, d⟩ := p
      unfold Pk.val
      simp only at h1 h2 ⊢
      have h3 : (2000 : Int) < (d.size : Int) := by omega
      have h4 : ¬ (d.size : Int) ≤ 65536 := by omega
      have h5 : (131072 : Int) < (d.size : Int) := by omega
      clear hK hp h1 h2
      go_enter Try.func3, Try.ntmps3
      go_wp2_with fail
      refine (FrameLives.lives_c _).mono ?_
      rintro e w1 ⟨rfl, hb⟩
      have HB := Aside0.mk ((below_alloc (Below.refl w.heap.size w) _).trans (hb.mono (by simp)))
      clear hb
      go_wp2_with fail
      go_ret
      exact ⟨rfl, HB.out⟩
end Go.Proofs.Ytedfcjcnhgomoaa.FramePuts

import Derived.Test.YtedfcjcnhgomoaaQC
-- MERGED YtedfcjcnhgomoaaFrameR
section
/- The walks of the reference's parse and Get. -/
namespace Go.Proofs.Ytedfcjcnhgomoaa.FrameR
open Go.RowKit Go.Proofs.Ytedfcjcnhgomoaa.P Go.Proofs.YtedfcjcnhgomoaaW.PrintWords Go.Proofs.YtedfcjcnhgomoaaW.PrintLast Go.Proofs.YtedfcjcnhgomoaaW.PrintMore Go.Proofs.Ytedfcjcnhgomoaa.Own Go.Proofs.Ytedfcjcnhgomoaa.Vy Go.Proofs.Ytedfcjcnhgomoaa.FrameP Go.Proofs.Ytedfcjcnhgomoaa.FrameL Go.Proofs.Ytedfcjcnhgomoaa.VaryR Go.Proofs.Ytedfcjcnhgomoaa.FrameG
set_option linter.unusedSimpArgs false
set_option linter.unusedVariables false

/-! The reference reads on whatever came before. -/
def i1 (x : List Int) : Nat := (numL x).2
def i2 (x : List Int) : Nat := (numL (x.drop (i1 x))).2
def i3 (x : List Int) : Nat := (numL (x.drop (i1 x + i2 x))).2
def i4 (x : List Int) : Nat := (textL (x.drop (i1 x + i2 x + i3 x))).2
def rp (x : List Int) : Pk := ⟨(numL x).1, (numL (x.drop (i1 x))).1, (numL (x.drop (i1 x + i2 x))).1, strOfNums (textL (x.drop (i1 x + i2 x + i3 x))).1⟩
theorem sums {x : List Int} (hok : Byt.Ok x) : i1 x + i2 x + i3 x + i4 x ≤ x.length := by
  have h1 : i1 x ≤ x.length := numL_le hok
  have h2 : i2 x ≤ (x.drop (i1 x)).length := numL_le (Byt.ok_drop hok (i1 x))
  have h3 : i3 x ≤ (x.drop (i1 x + i2 x)).length := numL_le (Byt.ok_drop hok (i1 x + i2 x))
  have h4 : i4 x ≤ (x.drop (i1 x + i2 x + i3 x)).length := textL_le (Byt.ok_drop hok (i1 x + i2 x + i3 x))
  rw [List.length_drop] at h2 h3 h4
  omega
theorem sv {α : Type} {z : α} {k : Nat} {x : α} (h : k ≠ 0) : stepV z false k x = x := stepV_ok (stepB_false.2 ⟨rfl, h⟩)
theorem same {x : List Int} (h1 : i1 x ≠ 0) (h2 : i2 x ≠ 0) (h3 : i3 x ≠ 0) (h4 : i4 x ≠ 0) : b4 x = false ∧ pk x = rp x := by
  have e0 : x.drop 0 = x := List.drop_zero
  have ea1 : a1 x = i1 x := by unfold a1 stepA i1; rw [e0]; simp
  have eb1 : b1 x = false := by unfold b1; rw [e0]; exact stepB_false.2 ⟨rfl, h1⟩
  have eb2 : b2 x = false := by unfold b2; rw [eb1, ea1]; exact stepB_false.2 ⟨rfl, h2⟩
  have ea2 : a2 x = i1 x + i2 x := by unfold a2 stepA; rw [eb1, ea1]; rfl
  have eb3 : b3 x = false := by unfold b3; rw [eb2, ea2]; exact stepB_false.2 ⟨rfl, h3⟩
  have ea3 : a3 x = i1 x + i2 x + i3 x := by unfold a3 stepA; rw [eb2, ea2]; rfl
  refine ⟨by unfold b4; rw [eb3, ea3]; exact stepB_false.2 ⟨rfl, h4⟩, ?_⟩
  unfold pk rp
  have q1 : (numL x).2 ≠ 0 := h1
  have q2 : (numL (x.drop (i1 x))).2 ≠ 0 := h2
  have q3 : (numL (x.drop (i1 x + i2 x))).2 ≠ 0 := h3
  have q4 : (textL (x.drop (i1 x + i2 x + i3 x))).2 ≠ 0 := h4
  rw [e0, ea1, ea2, ea3, eb1, eb2, eb3, sv q1, sv q2, sv q3, sv q4]
theorem b4_false {x : List Int} (h : b4 x = false) : i1 x ≠ 0 ∧ i2 x ≠ 0 ∧ i3 x ≠ 0 ∧ i4 x ≠ 0 := by
  obtain ⟨h3, k4⟩ := stepB_false.1 h
  obtain ⟨h2, k3⟩ := stepB_false.1 h3
  obtain ⟨h1, k2⟩ := stepB_false.1 h2
  obtain ⟨_, k1⟩ := stepB_false.1 h1
  have e0 : x.drop 0 = x := List.drop_zero
  have ea1 : a1 x = i1 x := by unfold a1 stepA i1; rw [e0]; simp
  have ea2 : a2 x = i1 x + i2 x := by unfold a2 stepA; rw [h1, ea1]; rfl
  have ea3 : a3 x = i1 x + i2 x + i3 x := by unfold a3 stepA; rw [h2, ea2]; rfl
  rw [e0] at k1
  rw [ea1] at k2
  rw [ea2] at k3
  rw [ea3] at k4
  exact ⟨k1, k2, k3, k4⟩
theorem parse_no {x : List Int} (hok : Byt.Ok x) (h : i1 x = 0 ∨ i2 x = 0 ∨ i3 x = 0 ∨ i4 x = 0) : parse x = none := by
  unfold parse
  rw [if_neg]
  intro hc
  rw [Bool.and_eq_true] at hc
  obtain ⟨q1, q2, q3, q4⟩ := b4_false ((dn_iff hok).1 hc.1).1
  rcases h with h | h | h | h <;> contradiction
theorem parse_yes {x : List Int} (hok : Byt.Ok x) (h1 : i1 x ≠ 0) (h2 : i2 x ≠ 0) (h3 : i3 x ≠ 0) (h4 : i4 x ≠ 0) : parse x = if good (rp x) = true ∧ body (rp x) = x then some (rp x) else none := by
  obtain ⟨e1, e2⟩ := same h1 h2 h3 h4
  unfold parse
  have hd := dn_iff hok
  rw [e2] at hd ⊢
  by_cases hb : body (rp x) = x
  · rw [hd.2 ⟨e1, hb⟩]
    cases hg : good (rp x) with
    | true => simp [hb]
    | false => simp
  · have hdf : dn x = false := by
      cases h : dn x with
      | false => rfl
      | true => exact absurd (hd.1 h).2 hb
    simp [hdf, hb]
def optPk (o : Option Pk) : Value := match o with | none => zp.val | some p => p.val

theorem nRefBody (p : Pk) (hd : p.d.size ≤ 140737488000000) (w : World) : Calls Try.prog 40 #[p.val] w fun e w' => ∃ v, e = .returned v ∧ Sl w' v (body p) ∧ Below w.heap.size w w' :=
  (variorumref12_body.calls 10 p.e p.s p.a p.d _ w (rbody_f p 10 (by decide) hd)).mono fun e w' ⟨v, he, hr, hb⟩ => ⟨v, he, Sl.of_R hr, hb⟩
def rparse.T6 : Bool × List (List Nat × List Nat) := (true, [([], []), ([0], [0]), ([1], [1]), ([2], [2]), ([3, 2], [2, 3]), ([2, 4], [2, 4]), ([5, 2], [5]), ([6], [6]), ([7, 6], [6, 7]), ([6, 8], [6, 8]), ([9, 6], [9]), ([10], [10]), ([11, 10], [10, 11]), ([10, 12], [10, 12]), ([13, 10], [13]), ([14], [14]), ([15, 14, 14], [14, 15]), ([16, 14], [14, 16]), ([14, 17], [14, 17]), ([18, 16], [18]), ([19], [19]), ([20, 19, 19], [19, 20]), ([21, 19], [19, 21]), ([19], [19]), ([23, 19], [19, 23]), ([22, 24, 19], [19, 22, 24]), ([19, 25], [19, 25])])
def rparse.B6 : List Nat := [0, 1, 3, 7, 15, 31, 63, 127, 255, 511, 1023, 2047, 4095, 8191, 16383, 32767, 65535, 131071, 262143, 524287, 1048575, 2097151, 4194303, 1048575, 9437183, 33554431, 67108863]
theorem rparse.tab6 : rtab .any (opsOf Try.f55 6) = rparse.T6 := by kernel_rfl
theorem rparse.bits6 : waitsOk rparse.T6.2 rparse.B6 = true := by kernel_rfl
set_option maxHeartbeats 8000000 in
set_option maxRecDepth 100000 in
theorem parse_c (A : Option Addr) (c : Nat) (l : List Int) (w : World) (hs : Sl w (.slice A l.length c) l) (hok : Byt.Ok l) (hl : l.length ≤ 1000000) :
    Calls Try.prog 55 #[.slice A l.length c] w fun e w' => e = .returned (.tuple #[optPk (parse l), .bool (parse l).isSome]) ∧ Below w.heap.size w w' := by
  have HS := Aside0.mk hs
  have HO := Aside0.mk hok
  have HL := Aside0.mk hl
  have hsum := sums hok
  have HNO := Aside0.mk (parse_no hok)
  have HYES := Aside0.mk (parse_yes hok)
  have HRP := Aside0.mk (show (rp l).val = .agg #[.int .i64 (numL l).1, .int .i64 (numL (l.drop (i1 l))).1, .int .i64 (numL (l.drop (i1 l + i2 l))).1, .string (strOfNums (textL (l.drop (i1 l + i2 l + i3 l))).1)] from rfl)
  obtain ⟨i, hi⟩ : ∃ i, i = i1 l := ⟨_, rfl⟩
  obtain ⟨j, hj⟩ : ∃ j, j = i2 l := ⟨_, rfl⟩
  obtain ⟨k, hk⟩ : ∃ k, k = i3 l := ⟨_, rfl⟩
  obtain ⟨m, hm⟩ : ∃ m, m = i4 l := ⟨_, rfl⟩
  rw [← hi, ← hj, ← hk, ← hm] at hsum HNO HYES
  rw [← hi, ← hj, ← hk] at HRP
  obtain ⟨u1, cut1, s1⟩ := slice_from (P := Try.prog) 25 5 Try.underlying25 info5 hs (i : Int) (by omega) (by omega)
  obtain ⟨u2, cut2, s2⟩ := slice_from (P := Try.prog) 25 5 Try.underlying25 info5 hs ((i : Int) + (j : Int)) (by omega) (by omega)
  obtain ⟨u3, cut3, s3⟩ := slice_from (P := Try.prog) 25 5 Try.underlying25 info5 hs ((i : Int) + (j : Int) + (k : Int)) (by omega) (by omega)
  rw [Int.toNat_natCast] at s1
  rw [show ((i : Int) + (j : Int)).toNat = i + j by omega] at s2
  rw [show ((i : Int) + (j : Int) + (k : Int)).toNat = i + j + k by omega] at s3
  have hij : (i : Int) + (j : Int) ≤ 1000000 := by omega
  have hijk : (i : Int) + (j : Int) + (k : Int) ≤ 1000000 := by omega
  obtain ⟨pe, he⟩ : ∃ pe, pe = (numL l).1 := ⟨_, rfl⟩
  obtain ⟨ps, hse⟩ : ∃ ps, ps = (numL (l.drop i)).1 := ⟨_, rfl⟩
  obtain ⟨pa, ha⟩ : ∃ pa, pa = (numL (l.drop (i + j))).1 := ⟨_, rfl⟩
  obtain ⟨pd, hd⟩ : ∃ pd, pd = strOfNums (textL (l.drop (i + j + k))).1 := ⟨_, rfl⟩
  rw [← he, ← hse, ← ha, ← hd] at HRP
  have N1 := Aside0.mk (fun W (h : Below w.heap.size w W) => VaryRef.nNum _ l W (hs.below h) hok)
  have N2 := Aside0.mk (fun W (h : Below w.heap.size w W) => VaryRef.nNum u1 (l.drop i) W (s1.below h) (Byt.ok_drop hok _))
  have N3 := Aside0.mk (fun W (h : Below w.heap.size w W) => VaryRef.nNum u2 (l.drop (i + j)) W (s2.below h) (Byt.ok_drop hok _))
  have N4 := Aside0.mk (fun W (h : Below w.heap.size w W) => VaryRef.nText u3 (l.drop (i + j + k)) W (s3.below h) (Byt.ok_drop hok _) (by rw [List.length_drop]; omega))
  rw [show (numL l).2 = i from hi.symm, ← he] at N1
  rw [show (numL (l.drop i)).2 = j by rw [hj, i2, hi], ← hse] at N2
  rw [show (numL (l.drop (i + j))).2 = k by rw [hk, i3, hi, hj], ← ha] at N3
  rw [show (textL (l.drop (i + j + k))).2 = m by rw [hm, i4, hi, hj, hk], ← hd] at N4
  have hval : rp l = ⟨pe, ps, pa, pd⟩ := by
    have := HRP.out
    unfold Pk.val at this
    injection this with this
    simp only [Array.mk.injEq, List.cons.injEq, Value.int.injEq, Value.string.injEq, true_and, and_true] at this
    obtain ⟨q1, q2, q3, q4⟩ := this
    rw [show rp l = ⟨(rp l).e, (rp l).s, (rp l).a, (rp l).d⟩ from rfl, q1, q2, q3, q4]
  rw [hval] at HYES
  have HV := Aside0.mk hval
  clear hs hok hl hi hj hk hm he hse ha hd HRP s1 s2 s3 hsum hval
  go_enter Try.func55, Try.ntmps55
  go_wp2_with fail
  obtain ⟨w0, hw0⟩ : ∃ w0, w0 = w.alloc (.cells #[.int .i64 0, .int .i64 0, .int .i64 0, .string ⟨#[]⟩] 23) := ⟨_, rfl⟩
  have HB0 := Aside0.mk (show Below w.heap.size w w0 by rw [hw0]; exact below_alloc (Below.refl _ _) _)
  have P0 := Aside0.mk (show w0.heap[w.heap.size]? = some (.cells #[.int .i64 0, .int .i64 0, .int .i64 0, .string ⟨#[]⟩] 23 (0, 0)) by rw [hw0]; exact Own.heap_new _ _)
  have hz0 : w0.heap.size = w.heap.size + 1 := by rw [hw0]; simp
  have Z0 := Aside0.mk hz0
  rw [← hw0]
  clear hw0 hz0
  refine (N1.out _ HB0.out).mono ?_
  rintro e1 w1 ⟨rfl, n1, rfl⟩
  go_wp2_with fail
  refine (N2.out _ (pw_below_drewN HB0.out _)).mono ?_
  rintro e1 w1 ⟨rfl, n2, rfl⟩
  go_wp2_with fail
  refine (N3.out _ (pw_below_drewN HB0.out _)).mono ?_
  rintro e1 w1 ⟨rfl, n3, rfl⟩
  go_wp2_with fail
  refine (N4.out _ (pw_below_drewN HB0.out _)).mono ?_
  rintro e1 w1 ⟨rfl, n4, rfl⟩
  simp only [World.drewN_drewN]
  have HB5 := Aside0.mk (pw_below_drewN HB0.out (n1 + n2 + n3 + n4))
  have P5 := Aside0.mk (show (w0.drewN (n1 + n2 + n3 + n4)).heap[w.heap.size]? = _ from P0.out)
  have Z5 := Aside0.mk (show (w0.drewN (n1 + n2 + n3 + n4)).heap.size = w.heap.size + 1 from Z0.out)
  obtain ⟨w5, hw5⟩ : ∃ w5, w5 = w0.drewN (n1 + n2 + n3 + n4) := ⟨_, rfl⟩
  rw [← hw5] at HB5 P5 Z5 ⊢
  clear hw5 N1 N2 N3 N4 HB0 P0 Z0
  go_wp2_with fail
  obtain ⟨w6, hw6⟩ : ∃ w6, w6 = w5.alloc (.cells #[.int .i64 pe, .int .i64 ps, .int .i64 pa, .string pd] 23) := ⟨_, rfl⟩
  have HB6 := Aside0.mk (show Below w.heap.size w w6 by rw [hw6]; exact below_alloc HB5.out _)
  have P6 := Aside0.mk (show w6.heap[w.heap.size]? = some (.cells #[.int .i64 0, .int .i64 0, .int .i64 0, .string ⟨#[]⟩] 23 (0, 0)) by rw [hw6, Own.heap_old _ _ _ (by have := Z5.out; omega)]; exact P5.out)
  have Q6 := Aside0.mk (show w6.heap[w5.heap.size]? = some (.cells #[.int .i64 pe, .int .i64 ps, .int .i64 pa, .string pd] 23 (0, 0)) by rw [hw6]; exact Own.heap_new _ _)
  have HS6 := Aside0.mk (HS.out.below HB6.out)
  rw [← hw6]
  clear hw6 HB5 P5 cut1 cut2 cut3
  by_cases hi : i = 0
  · have HGET := Aside0.mk (HNO.out (.inl hi))
    have zi : ((i : Int) == 0) = true := by simp; omega
    have yi : (i : Int) = 0 := by omega
    clear hi
    refine start_ (n := 27) (S := fun w' => True) (ds := []) #[false, false, false, false, false, false, false, false, false, false, false, false, false, false, false, false, false, false, false, false, false, false, false, false, false, false, false] (by kernel_rfl) rfl rfl trivial (fun hHeld => ?_); refine with_tabW rparse.tab6 rparse.bits6 (fun HT_ HW_ => ?_)
    refine inv_at [0, 1, 2, 3, 4, 5, 6, 7, 8, 9, 10, 11, 12, 13, 14, 15, 16, 17, 18, 19, 20, 21, 22, 23, 24, 25, 26] (fun a0_ b a w' => a = putSel a0_ b [(0, 50, (.int .i64 (i : Int))), (1, 51, (.bool true)), (2, 52, (.bool true)), (3, 53, undef), (4, 54, undef), (5, 55, (.bool true)), (6, 56, (.bool true)), (7, 57, undef), (8, 58, undef), (9, 59, (.bool true)), (10, 60, (.bool true)), (11, 61, undef), (12, 62, undef), (13, 63, (.bool true)), (14, 64, (.bool true)), (15, 65, undef), (16, 66, undef), (17, 67, undef), (18, 68, (.bool true)), (19, 69, (.bool true)), (20, 70, undef), (21, 71, undef), (22, 72, undef), (23, 73, undef), (24, 74, undef), (25, 75, undef), (26, 76, (.bool true))] ∧ (Below w.heap.size w w') ∧ (Sl w' (.slice A l.length c) l) ∧ (w'.heap[w.heap.size]? = some (.cells #[.int .i64 0, .int .i64 0, .int .i64 0, .string ⟨#[]⟩] 23 (0, 0))) ∧ (w'.heap[w5.heap.size]? = some (.cells #[.int .i64 pe, .int .i64 ps, .int .i64 pa, .string pd] 23 (0, 0)))) HT_.out HW_.out (by kernel_rfl) (by kernel_rfl) ?_ ?_ ?_
    · exact ⟨by simp only [putSel, Bool.false_eq_true, if_false], below_drew1 HB6.out, HS6.out.drew, P6.out, Q6.out⟩
    · skip
      clear HB6 HS6 P6 Q6
      refine steps_cons ?_ ?_
      · rintro b a w' ⟨ha, Q_HB6, Q_HS6, Q_P6, Q_Q6⟩ hb_ hon hoff
        refine ⟨_, rfl, fun K hK => ?_⟩
        have e5 : a.tmps[5]? = some ((.int .i64 (i : Int))) := by rw [ha]; exact (putSel_off rfl).trans rfl
        replace ha := Aside0.mk ha
        have HB6 := Aside0.mk Q_HB6
        have HS6 := Aside0.mk Q_HS6
        have P6 := Aside0.mk Q_P6
        have Q6 := Aside0.mk Q_Q6
        refine value_ (w1 := w') (v := (.int .i64 (i : Int))) (by rfl) rfl ?_ ?_
        · go_simp
          (try simp only [i64_w])
          try rfl
        refine hK.out _ _ ⟨(by rw [ha.out]; exact putSel_upk 0 hb_ rfl rfl rfl), Q_HB6, Q_HS6, Q_P6, Q_Q6⟩
      refine steps_cons ?_ ?_
      · rintro b a w' ⟨ha, Q_HB6, Q_HS6, Q_P6, Q_Q6⟩ hb_ hon hoff
        refine ⟨_, rfl, fun K hK => ?_⟩
        have e50 : a.tmps[50]? = some ((.int .i64 (i : Int))) := by rw [ha]; exact putSel_on (e := (0, 50, (.int .i64 (i : Int)))) 0 rfl rfl (hon 0 (by kernel_rfl)) rfl
        replace ha := Aside0.mk ha
        have HB6 := Aside0.mk Q_HB6
        have HS6 := Aside0.mk Q_HS6
        have P6 := Aside0.mk Q_P6
        have Q6 := Aside0.mk Q_Q6
        refine value_ (w1 := w') (v := (.bool true)) (by rfl) rfl ?_ ?_
        · go_simp
          (try simp only [i64_w])
          try rfl
        refine hK.out _ _ ⟨(by rw [ha.out]; exact putSel_upk 1 hb_ rfl rfl rfl), Q_HB6, Q_HS6, Q_P6, Q_Q6⟩
      refine steps_cons ?_ ?_
      · rintro b a w' ⟨ha, Q_HB6, Q_HS6, Q_P6, Q_Q6⟩ hb_ hon hoff
        refine ⟨_, rfl, fun K hK => ?_⟩
        have e51 : a.tmps[51]? = some ((.bool true)) := by rw [ha]; exact putSel_on (e := (1, 51, (.bool true))) 1 rfl rfl (hon 1 (by kernel_rfl)) rfl
        replace ha := Aside0.mk ha
        have HB6 := Aside0.mk Q_HB6
        have HS6 := Aside0.mk Q_HS6
        have P6 := Aside0.mk Q_P6
        have Q6 := Aside0.mk Q_Q6
        refine value_ (w1 := w') (v := (.bool true)) (by rfl) rfl ?_ ?_
        · go_simp
          (try simp only [i64_w])
          try rfl
        refine hK.out _ _ ⟨(by rw [ha.out]; exact putSel_upk 2 hb_ rfl rfl rfl), Q_HB6, Q_HS6, Q_P6, Q_Q6⟩
      refine steps_cons ?_ ?_
      · rintro b a w' ⟨ha, Q_HB6, Q_HS6, Q_P6, Q_Q6⟩ hb_ hon hoff
        refine ⟨_, rfl, fun K hK => ?_⟩
        have e52 : a.tmps[52]? = some ((.bool true)) := by rw [ha]; exact putSel_on (e := (2, 52, (.bool true))) 2 rfl rfl (hon 2 (by kernel_rfl)) rfl
        replace ha := Aside0.mk ha
        have HB6 := Aside0.mk Q_HB6
        have HS6 := Aside0.mk Q_HS6
        have P6 := Aside0.mk Q_P6
        have Q6 := Aside0.mk Q_Q6
        refine off_ (wanted_off rfl rfl rfl (e52.trans (by first | rfl | (simp [*]; done)))) ?_
        refine hK.out _ _ ⟨(by rw [ha.out]; exact putSel_upk 3 hb_ rfl rfl rfl), Q_HB6, Q_HS6, Q_P6, Q_Q6⟩
      refine steps_cons ?_ ?_
      · rintro b a w' ⟨ha, Q_HB6, Q_HS6, Q_P6, Q_Q6⟩ hb_ hon hoff
        refine ⟨_, rfl, fun K hK => ?_⟩
        have e52 : a.tmps[52]? = some ((.bool true)) := by rw [ha]; exact putSel_on (e := (2, 52, (.bool true))) 2 rfl rfl (hon 2 (by kernel_rfl)) rfl
        replace ha := Aside0.mk ha
        have HB6 := Aside0.mk Q_HB6
        have HS6 := Aside0.mk Q_HS6
        have P6 := Aside0.mk Q_P6
        have Q6 := Aside0.mk Q_Q6
        refine off_ (wanted_off rfl rfl rfl (e52.trans (by first | rfl | (simp [*]; done)))) ?_
        refine hK.out _ _ ⟨(by rw [ha.out]; exact putSel_upk 4 hb_ rfl rfl rfl), Q_HB6, Q_HS6, Q_P6, Q_Q6⟩
      refine steps_cons ?_ ?_
      · rintro b a w' ⟨ha, Q_HB6, Q_HS6, Q_P6, Q_Q6⟩ hb_ hon hoff
        refine ⟨_, rfl, fun K hK => ?_⟩
        have e52 : a.tmps[52]? = some ((.bool true)) := by rw [ha]; exact putSel_on (e := (2, 52, (.bool true))) 2 rfl rfl (hon 2 (by kernel_rfl)) rfl
        have e54 : a.tmps[54]? = some (undef) := by rw [ha]; exact putSel_on (e := (4, 54, undef)) 4 rfl rfl (hon 4 (by kernel_rfl)) rfl
        replace ha := Aside0.mk ha
        have HB6 := Aside0.mk Q_HB6
        have HS6 := Aside0.mk Q_HS6
        have P6 := Aside0.mk Q_P6
        have Q6 := Aside0.mk Q_Q6
        refine value_ (w1 := w') (v := (.bool true)) (by rfl) rfl ?_ ?_
        · go_simp
          (try simp only [i64_w])
          try rfl
        refine hK.out _ _ ⟨(by rw [ha.out]; exact putSel_upk 5 hb_ rfl rfl rfl), Q_HB6, Q_HS6, Q_P6, Q_Q6⟩
      refine steps_cons ?_ ?_
      · rintro b a w' ⟨ha, Q_HB6, Q_HS6, Q_P6, Q_Q6⟩ hb_ hon hoff
        refine ⟨_, rfl, fun K hK => ?_⟩
        have e55 : a.tmps[55]? = some ((.bool true)) := by rw [ha]; exact putSel_on (e := (5, 55, (.bool true))) 5 rfl rfl (hon 5 (by kernel_rfl)) rfl
        replace ha := Aside0.mk ha
        have HB6 := Aside0.mk Q_HB6
        have HS6 := Aside0.mk Q_HS6
        have P6 := Aside0.mk Q_P6
        have Q6 := Aside0.mk Q_Q6
        refine value_ (w1 := w') (v := (.bool true)) (by rfl) rfl ?_ ?_
        · go_simp
          (try simp only [i64_w])
          try rfl
        refine hK.out _ _ ⟨(by rw [ha.out]; exact putSel_upk 6 hb_ rfl rfl rfl), Q_HB6, Q_HS6, Q_P6, Q_Q6⟩
      refine steps_cons ?_ ?_
      · rintro b a w' ⟨ha, Q_HB6, Q_HS6, Q_P6, Q_Q6⟩ hb_ hon hoff
        refine ⟨_, rfl, fun K hK => ?_⟩
        have e56 : a.tmps[56]? = some ((.bool true)) := by rw [ha]; exact putSel_on (e := (6, 56, (.bool true))) 6 rfl rfl (hon 6 (by kernel_rfl)) rfl
        replace ha := Aside0.mk ha
        have HB6 := Aside0.mk Q_HB6
        have HS6 := Aside0.mk Q_HS6
        have P6 := Aside0.mk Q_P6
        have Q6 := Aside0.mk Q_Q6
        refine off_ (wanted_off rfl rfl rfl (e56.trans (by first | rfl | (simp [*]; done)))) ?_
        refine hK.out _ _ ⟨(by rw [ha.out]; exact putSel_upk 7 hb_ rfl rfl rfl), Q_HB6, Q_HS6, Q_P6, Q_Q6⟩
      refine steps_cons ?_ ?_
      · rintro b a w' ⟨ha, Q_HB6, Q_HS6, Q_P6, Q_Q6⟩ hb_ hon hoff
        refine ⟨_, rfl, fun K hK => ?_⟩
        have e56 : a.tmps[56]? = some ((.bool true)) := by rw [ha]; exact putSel_on (e := (6, 56, (.bool true))) 6 rfl rfl (hon 6 (by kernel_rfl)) rfl
        replace ha := Aside0.mk ha
        have HB6 := Aside0.mk Q_HB6
        have HS6 := Aside0.mk Q_HS6
        have P6 := Aside0.mk Q_P6
        have Q6 := Aside0.mk Q_Q6
        refine off_ (wanted_off rfl rfl rfl (e56.trans (by first | rfl | (simp [*]; done)))) ?_
        refine hK.out _ _ ⟨(by rw [ha.out]; exact putSel_upk 8 hb_ rfl rfl rfl), Q_HB6, Q_HS6, Q_P6, Q_Q6⟩
      refine steps_cons ?_ ?_
      · rintro b a w' ⟨ha, Q_HB6, Q_HS6, Q_P6, Q_Q6⟩ hb_ hon hoff
        refine ⟨_, rfl, fun K hK => ?_⟩
        have e56 : a.tmps[56]? = some ((.bool true)) := by rw [ha]; exact putSel_on (e := (6, 56, (.bool true))) 6 rfl rfl (hon 6 (by kernel_rfl)) rfl
        have e58 : a.tmps[58]? = some (undef) := by rw [ha]; exact putSel_on (e := (8, 58, undef)) 8 rfl rfl (hon 8 (by kernel_rfl)) rfl
        replace ha := Aside0.mk ha
        have HB6 := Aside0.mk Q_HB6
        have HS6 := Aside0.mk Q_HS6
        have P6 := Aside0.mk Q_P6
        have Q6 := Aside0.mk Q_Q6
        refine value_ (w1 := w') (v := (.bool true)) (by rfl) rfl ?_ ?_
        · go_simp
          (try simp only [i64_w])
          try rfl
        refine hK.out _ _ ⟨(by rw [ha.out]; exact putSel_upk 9 hb_ rfl rfl rfl), Q_HB6, Q_HS6, Q_P6, Q_Q6⟩
      refine steps_cons ?_ ?_
      · rintro b a w' ⟨ha, Q_HB6, Q_HS6, Q_P6, Q_Q6⟩ hb_ hon hoff
        refine ⟨_, rfl, fun K hK => ?_⟩
        have e59 : a.tmps[59]? = some ((.bool true)) := by rw [ha]; exact putSel_on (e := (9, 59, (.bool true))) 9 rfl rfl (hon 9 (by kernel_rfl)) rfl
        replace ha := Aside0.mk ha
        have HB6 := Aside0.mk Q_HB6
        have HS6 := Aside0.mk Q_HS6
        have P6 := Aside0.mk Q_P6
        have Q6 := Aside0.mk Q_Q6
        refine value_ (w1 := w') (v := (.bool true)) (by rfl) rfl ?_ ?_
        · go_simp
          (try simp only [i64_w])
          try rfl
        refine hK.out _ _ ⟨(by rw [ha.out]; exact putSel_upk 10 hb_ rfl rfl rfl), Q_HB6, Q_HS6, Q_P6, Q_Q6⟩
      refine steps_cons ?_ ?_
      · rintro b a w' ⟨ha, Q_HB6, Q_HS6, Q_P6, Q_Q6⟩ hb_ hon hoff
        refine ⟨_, rfl, fun K hK => ?_⟩
        have e60 : a.tmps[60]? = some ((.bool true)) := by rw [ha]; exact putSel_on (e := (10, 60, (.bool true))) 10 rfl rfl (hon 10 (by kernel_rfl)) rfl
        replace ha := Aside0.mk ha
        have HB6 := Aside0.mk Q_HB6
        have HS6 := Aside0.mk Q_HS6
        have P6 := Aside0.mk Q_P6
        have Q6 := Aside0.mk Q_Q6
        refine off_ (wanted_off rfl rfl rfl (e60.trans (by first | rfl | (simp [*]; done)))) ?_
        refine hK.out _ _ ⟨(by rw [ha.out]; exact putSel_upk 11 hb_ rfl rfl rfl), Q_HB6, Q_HS6, Q_P6, Q_Q6⟩
      refine steps_cons ?_ ?_
      · rintro b a w' ⟨ha, Q_HB6, Q_HS6, Q_P6, Q_Q6⟩ hb_ hon hoff
        refine ⟨_, rfl, fun K hK => ?_⟩
        have e60 : a.tmps[60]? = some ((.bool true)) := by rw [ha]; exact putSel_on (e := (10, 60, (.bool true))) 10 rfl rfl (hon 10 (by kernel_rfl)) rfl
        replace ha := Aside0.mk ha
        have HB6 := Aside0.mk Q_HB6
        have HS6 := Aside0.mk Q_HS6
        have P6 := Aside0.mk Q_P6
        have Q6 := Aside0.mk Q_Q6
        refine off_ (wanted_off rfl rfl rfl (e60.trans (by first | rfl | (simp [*]; done)))) ?_
        refine hK.out _ _ ⟨(by rw [ha.out]; exact putSel_upk 12 hb_ rfl rfl rfl), Q_HB6, Q_HS6, Q_P6, Q_Q6⟩
      refine steps_cons ?_ ?_
      · rintro b a w' ⟨ha, Q_HB6, Q_HS6, Q_P6, Q_Q6⟩ hb_ hon hoff
        refine ⟨_, rfl, fun K hK => ?_⟩
        have e60 : a.tmps[60]? = some ((.bool true)) := by rw [ha]; exact putSel_on (e := (10, 60, (.bool true))) 10 rfl rfl (hon 10 (by kernel_rfl)) rfl
        have e62 : a.tmps[62]? = some (undef) := by rw [ha]; exact putSel_on (e := (12, 62, undef)) 12 rfl rfl (hon 12 (by kernel_rfl)) rfl
        replace ha := Aside0.mk ha
        have HB6 := Aside0.mk Q_HB6
        have HS6 := Aside0.mk Q_HS6
        have P6 := Aside0.mk Q_P6
        have Q6 := Aside0.mk Q_Q6
        refine value_ (w1 := w') (v := (.bool true)) (by rfl) rfl ?_ ?_
        · go_simp
          (try simp only [i64_w])
          try rfl
        refine hK.out _ _ ⟨(by rw [ha.out]; exact putSel_upk 13 hb_ rfl rfl rfl), Q_HB6, Q_HS6, Q_P6, Q_Q6⟩
      refine steps_cons ?_ ?_
      · rintro b a w' ⟨ha, Q_HB6, Q_HS6, Q_P6, Q_Q6⟩ hb_ hon hoff
        refine ⟨_, rfl, fun K hK => ?_⟩
        have e63 : a.tmps[63]? = some ((.bool true)) := by rw [ha]; exact putSel_on (e := (13, 63, (.bool true))) 13 rfl rfl (hon 13 (by kernel_rfl)) rfl
        replace ha := Aside0.mk ha
        have HB6 := Aside0.mk Q_HB6
        have HS6 := Aside0.mk Q_HS6
        have P6 := Aside0.mk Q_P6
        have Q6 := Aside0.mk Q_Q6
        refine value_ (w1 := w') (v := (.bool true)) (by rfl) rfl ?_ ?_
        · go_simp
          (try simp only [i64_w])
          try rfl
        refine hK.out _ _ ⟨(by rw [ha.out]; exact putSel_upk 14 hb_ rfl rfl rfl), Q_HB6, Q_HS6, Q_P6, Q_Q6⟩
      refine steps_cons ?_ ?_
      · rintro b a w' ⟨ha, Q_HB6, Q_HS6, Q_P6, Q_Q6⟩ hb_ hon hoff
        refine ⟨_, rfl, fun K hK => ?_⟩
        have e64 : a.tmps[64]? = some ((.bool true)) := by rw [ha]; exact putSel_on (e := (14, 64, (.bool true))) 14 rfl rfl (hon 14 (by kernel_rfl)) rfl
        replace ha := Aside0.mk ha
        have HB6 := Aside0.mk Q_HB6
        have HS6 := Aside0.mk Q_HS6
        have P6 := Aside0.mk Q_P6
        have Q6 := Aside0.mk Q_Q6
        refine off_ (wanted_off rfl rfl rfl (e64.trans (by first | rfl | (simp [*]; done)))) ?_
        refine hK.out _ _ ⟨(by rw [ha.out]; exact putSel_upk 15 hb_ rfl rfl rfl), Q_HB6, Q_HS6, Q_P6, Q_Q6⟩
      refine steps_cons ?_ ?_
      · rintro b a w' ⟨ha, Q_HB6, Q_HS6, Q_P6, Q_Q6⟩ hb_ hon hoff
        refine ⟨_, rfl, fun K hK => ?_⟩
        have e64 : a.tmps[64]? = some ((.bool true)) := by rw [ha]; exact putSel_on (e := (14, 64, (.bool true))) 14 rfl rfl (hon 14 (by kernel_rfl)) rfl
        replace ha := Aside0.mk ha
        have HB6 := Aside0.mk Q_HB6
        have HS6 := Aside0.mk Q_HS6
        have P6 := Aside0.mk Q_P6
        have Q6 := Aside0.mk Q_Q6
        refine off_ (wanted_off rfl rfl rfl (e64.trans (by first | rfl | (simp [*]; done)))) ?_
        refine hK.out _ _ ⟨(by rw [ha.out]; exact putSel_upk 16 hb_ rfl rfl rfl), Q_HB6, Q_HS6, Q_P6, Q_Q6⟩
      refine steps_cons ?_ ?_
      · rintro b a w' ⟨ha, Q_HB6, Q_HS6, Q_P6, Q_Q6⟩ hb_ hon hoff
        refine ⟨_, rfl, fun K hK => ?_⟩
        have e64 : a.tmps[64]? = some ((.bool true)) := by rw [ha]; exact putSel_on (e := (14, 64, (.bool true))) 14 rfl rfl (hon 14 (by kernel_rfl)) rfl
        replace ha := Aside0.mk ha
        have HB6 := Aside0.mk Q_HB6
        have HS6 := Aside0.mk Q_HS6
        have P6 := Aside0.mk Q_P6
        have Q6 := Aside0.mk Q_Q6
        refine off_ (wanted_off rfl rfl rfl (e64.trans (by first | rfl | (simp [*]; done)))) ?_
        refine hK.out _ _ ⟨(by rw [ha.out]; exact putSel_upk 17 hb_ rfl rfl rfl), Q_HB6, Q_HS6, Q_P6, Q_Q6⟩
      refine steps_cons ?_ ?_
      · rintro b a w' ⟨ha, Q_HB6, Q_HS6, Q_P6, Q_Q6⟩ hb_ hon hoff
        refine ⟨_, rfl, fun K hK => ?_⟩
        have e64 : a.tmps[64]? = some ((.bool true)) := by rw [ha]; exact putSel_on (e := (14, 64, (.bool true))) 14 rfl rfl (hon 14 (by kernel_rfl)) rfl
        have e67 : a.tmps[67]? = some (undef) := by rw [ha]; exact putSel_on (e := (17, 67, undef)) 17 rfl rfl (hon 17 (by kernel_rfl)) rfl
        replace ha := Aside0.mk ha
        have HB6 := Aside0.mk Q_HB6
        have HS6 := Aside0.mk Q_HS6
        have P6 := Aside0.mk Q_P6
        have Q6 := Aside0.mk Q_Q6
        refine value_ (w1 := w') (v := (.bool true)) (by rfl) rfl ?_ ?_
        · go_simp
          (try simp only [i64_w])
          try rfl
        refine hK.out _ _ ⟨(by rw [ha.out]; exact putSel_upk 18 hb_ rfl rfl rfl), Q_HB6, Q_HS6, Q_P6, Q_Q6⟩
      refine steps_cons ?_ ?_
      · rintro b a w' ⟨ha, Q_HB6, Q_HS6, Q_P6, Q_Q6⟩ hb_ hon hoff
        refine ⟨_, rfl, fun K hK => ?_⟩
        have e68 : a.tmps[68]? = some ((.bool true)) := by rw [ha]; exact putSel_on (e := (18, 68, (.bool true))) 18 rfl rfl (hon 18 (by kernel_rfl)) rfl
        replace ha := Aside0.mk ha
        have HB6 := Aside0.mk Q_HB6
        have HS6 := Aside0.mk Q_HS6
        have P6 := Aside0.mk Q_P6
        have Q6 := Aside0.mk Q_Q6
        refine value_ (w1 := w') (v := (.bool true)) (by rfl) rfl ?_ ?_
        · go_simp
          (try simp only [i64_w])
          try rfl
        refine hK.out _ _ ⟨(by rw [ha.out]; exact putSel_upk 19 hb_ rfl rfl rfl), Q_HB6, Q_HS6, Q_P6, Q_Q6⟩
      refine steps_cons ?_ ?_
      · rintro b a w' ⟨ha, Q_HB6, Q_HS6, Q_P6, Q_Q6⟩ hb_ hon hoff
        refine ⟨_, rfl, fun K hK => ?_⟩
        have e69 : a.tmps[69]? = some ((.bool true)) := by rw [ha]; exact putSel_on (e := (19, 69, (.bool true))) 19 rfl rfl (hon 19 (by kernel_rfl)) rfl
        replace ha := Aside0.mk ha
        have HB6 := Aside0.mk Q_HB6
        have HS6 := Aside0.mk Q_HS6
        have P6 := Aside0.mk Q_P6
        have Q6 := Aside0.mk Q_Q6
        refine off_ (wanted_off rfl rfl rfl (e69.trans (by first | rfl | (simp [*]; done)))) ?_
        refine hK.out _ _ ⟨(by rw [ha.out]; exact putSel_upk 20 hb_ rfl rfl rfl), Q_HB6, Q_HS6, Q_P6, Q_Q6⟩
      refine steps_cons ?_ ?_
      · rintro b a w' ⟨ha, Q_HB6, Q_HS6, Q_P6, Q_Q6⟩ hb_ hon hoff
        refine ⟨_, rfl, fun K hK => ?_⟩
        have e69 : a.tmps[69]? = some ((.bool true)) := by rw [ha]; exact putSel_on (e := (19, 69, (.bool true))) 19 rfl rfl (hon 19 (by kernel_rfl)) rfl
        replace ha := Aside0.mk ha
        have HB6 := Aside0.mk Q_HB6
        have HS6 := Aside0.mk Q_HS6
        have P6 := Aside0.mk Q_P6
        have Q6 := Aside0.mk Q_Q6
        refine off_ (wanted_off rfl rfl rfl (e69.trans (by first | rfl | (simp [*]; done)))) ?_
        refine hK.out _ _ ⟨(by rw [ha.out]; exact putSel_upk 21 hb_ rfl rfl rfl), Q_HB6, Q_HS6, Q_P6, Q_Q6⟩
      refine steps_cons ?_ ?_
      · rintro b a w' ⟨ha, Q_HB6, Q_HS6, Q_P6, Q_Q6⟩ hb_ hon hoff
        refine ⟨_, rfl, fun K hK => ?_⟩
        have e69 : a.tmps[69]? = some ((.bool true)) := by rw [ha]; exact putSel_on (e := (19, 69, (.bool true))) 19 rfl rfl (hon 19 (by kernel_rfl)) rfl
        replace ha := Aside0.mk ha
        have HB6 := Aside0.mk Q_HB6
        have HS6 := Aside0.mk Q_HS6
        have P6 := Aside0.mk Q_P6
        have Q6 := Aside0.mk Q_Q6
        refine off_ (wanted_off rfl rfl rfl (e69.trans (by first | rfl | (simp [*]; done)))) ?_
        refine hK.out _ _ ⟨(by rw [ha.out]; exact putSel_upk 22 hb_ rfl rfl rfl), Q_HB6, Q_HS6, Q_P6, Q_Q6⟩
      refine steps_cons ?_ ?_
      · rintro b a w' ⟨ha, Q_HB6, Q_HS6, Q_P6, Q_Q6⟩ hb_ hon hoff
        refine ⟨_, rfl, fun K hK => ?_⟩
        have e69 : a.tmps[69]? = some ((.bool true)) := by rw [ha]; exact putSel_on (e := (19, 69, (.bool true))) 19 rfl rfl (hon 19 (by kernel_rfl)) rfl
        replace ha := Aside0.mk ha
        have HB6 := Aside0.mk Q_HB6
        have HS6 := Aside0.mk Q_HS6
        have P6 := Aside0.mk Q_P6
        have Q6 := Aside0.mk Q_Q6
        refine off_ (wanted_off rfl rfl rfl (e69.trans (by first | rfl | (simp [*]; done)))) ?_
        refine hK.out _ _ ⟨(by rw [ha.out]; exact putSel_upk 23 hb_ rfl rfl rfl), Q_HB6, Q_HS6, Q_P6, Q_Q6⟩
      refine steps_cons ?_ ?_
      · rintro b a w' ⟨ha, Q_HB6, Q_HS6, Q_P6, Q_Q6⟩ hb_ hon hoff
        refine ⟨_, rfl, fun K hK => ?_⟩
        have e69 : a.tmps[69]? = some ((.bool true)) := by rw [ha]; exact putSel_on (e := (19, 69, (.bool true))) 19 rfl rfl (hon 19 (by kernel_rfl)) rfl
        replace ha := Aside0.mk ha
        have HB6 := Aside0.mk Q_HB6
        have HS6 := Aside0.mk Q_HS6
        have P6 := Aside0.mk Q_P6
        have Q6 := Aside0.mk Q_Q6
        refine off_ (wanted_off rfl rfl rfl (e69.trans (by first | rfl | (simp [*]; done)))) ?_
        refine hK.out _ _ ⟨(by rw [ha.out]; exact putSel_upk 24 hb_ rfl rfl rfl), Q_HB6, Q_HS6, Q_P6, Q_Q6⟩
      refine steps_cons ?_ ?_
      · rintro b a w' ⟨ha, Q_HB6, Q_HS6, Q_P6, Q_Q6⟩ hb_ hon hoff
        refine ⟨_, rfl, fun K hK => ?_⟩
        have e69 : a.tmps[69]? = some ((.bool true)) := by rw [ha]; exact putSel_on (e := (19, 69, (.bool true))) 19 rfl rfl (hon 19 (by kernel_rfl)) rfl
        replace ha := Aside0.mk ha
        have HB6 := Aside0.mk Q_HB6
        have HS6 := Aside0.mk Q_HS6
        have P6 := Aside0.mk Q_P6
        have Q6 := Aside0.mk Q_Q6
        refine off_ (wanted_off rfl rfl rfl (e69.trans (by first | rfl | (simp [*]; done)))) ?_
        refine hK.out _ _ ⟨(by rw [ha.out]; exact putSel_upk 25 hb_ rfl rfl rfl), Q_HB6, Q_HS6, Q_P6, Q_Q6⟩
      refine steps_cons ?_ ?_
      · rintro b a w' ⟨ha, Q_HB6, Q_HS6, Q_P6, Q_Q6⟩ hb_ hon hoff
        refine ⟨_, rfl, fun K hK => ?_⟩
        have e69 : a.tmps[69]? = some ((.bool true)) := by rw [ha]; exact putSel_on (e := (19, 69, (.bool true))) 19 rfl rfl (hon 19 (by kernel_rfl)) rfl
        have e75 : a.tmps[75]? = some (undef) := by rw [ha]; exact putSel_on (e := (25, 75, undef)) 25 rfl rfl (hon 25 (by kernel_rfl)) rfl
        replace ha := Aside0.mk ha
        have HB6 := Aside0.mk Q_HB6
        have HS6 := Aside0.mk Q_HS6
        have P6 := Aside0.mk Q_P6
        have Q6 := Aside0.mk Q_Q6
        refine value_ (w1 := w') (v := (.bool true)) (by rfl) rfl ?_ ?_
        · go_simp
          (try simp only [i64_w])
          try rfl
        refine hK.out _ _ ⟨(by rw [ha.out]; exact putSel_upk 26 hb_ rfl rfl rfl), Q_HB6, Q_HS6, Q_P6, Q_Q6⟩
      exact steps_nil
    rintro b a w9 hall ⟨ha, Q_HB6, Q_HS6, Q_P6, Q_Q6⟩
    clear HB6 HS6 P6 Q6
    have hb0_ := hall 0 (by kernel_rfl)
    have hb1_ := hall 1 (by kernel_rfl)
    have hb2_ := hall 2 (by kernel_rfl)
    have hb3_ := hall 3 (by kernel_rfl)
    have hb4_ := hall 4 (by kernel_rfl)
    have hb5_ := hall 5 (by kernel_rfl)
    have hb6_ := hall 6 (by kernel_rfl)
    have hb7_ := hall 7 (by kernel_rfl)
    have hb8_ := hall 8 (by kernel_rfl)
    have hb9_ := hall 9 (by kernel_rfl)
    have hb10_ := hall 10 (by kernel_rfl)
    have hb11_ := hall 11 (by kernel_rfl)
    have hb12_ := hall 12 (by kernel_rfl)
    have hb13_ := hall 13 (by kernel_rfl)
    have hb14_ := hall 14 (by kernel_rfl)
    have hb15_ := hall 15 (by kernel_rfl)
    have hb16_ := hall 16 (by kernel_rfl)
    have hb17_ := hall 17 (by kernel_rfl)
    have hb18_ := hall 18 (by kernel_rfl)
    have hb19_ := hall 19 (by kernel_rfl)
    have hb20_ := hall 20 (by kernel_rfl)
    have hb21_ := hall 21 (by kernel_rfl)
    have hb22_ := hall 22 (by kernel_rfl)
    have hb23_ := hall 23 (by kernel_rfl)
    have hb24_ := hall 24 (by kernel_rfl)
    have hb25_ := hall 25 (by kernel_rfl)
    have hb26_ := hall 26 (by kernel_rfl)
    subst ha
    simp only [putSel, hb0_, hb1_, hb2_, hb3_, hb4_, hb5_, hb6_, hb7_, hb8_, hb9_, hb10_, hb11_, hb12_, hb13_, hb14_, hb15_, hb16_, hb17_, hb18_, hb19_, hb20_, hb21_, hb22_, hb23_, hb24_, hb25_, hb26_, if_true, Act.put, List.setIfInBounds_toArray, List.set_cons_zero, List.set_cons_succ]
    have HB6 := Aside0.mk Q_HB6
    clear Q_HB6
    have HS6 := Aside0.mk Q_HS6
    clear Q_HS6
    have P6 := Aside0.mk Q_P6
    clear Q_P6
    have Q6 := Aside0.mk Q_Q6
    clear Q_Q6
    clear hall hb0_ hb1_ hb2_ hb3_ hb4_ hb5_ hb6_ hb7_ hb8_ hb9_ hb10_ hb11_ hb12_ hb13_ hb14_ hb15_ hb16_ hb17_ hb18_ hb19_ hb20_ hb21_ hb22_ hb23_ hb24_ hb25_ hb26_
    have p0 : w9.cell? ⟨w.heap.size, 0, none⟩ = some (.int .i64 0) := by rw [cell_of_row w9 _ 0 _ _ _ P6.out]; rfl
    have p1 : w9.cell? ⟨w.heap.size, 1, none⟩ = some (.int .i64 0) := by rw [cell_of_row w9 _ 1 _ _ _ P6.out]; rfl
    have p2 : w9.cell? ⟨w.heap.size, 2, none⟩ = some (.int .i64 0) := by rw [cell_of_row w9 _ 2 _ _ _ P6.out]; rfl
    have p3 : w9.cell? ⟨w.heap.size, 3, none⟩ = some (.string ⟨#[]⟩) := by rw [cell_of_row w9 _ 3 _ _ _ P6.out]; rfl
    have f0 : w9.frozen? ⟨w.heap.size, 0, none⟩ = false := frozen_of_row w9 _ 0 _ _ P6.out
    have f1 : w9.frozen? ⟨w.heap.size, 1, none⟩ = false := frozen_of_row w9 _ 1 _ _ P6.out
    have f2 : w9.frozen? ⟨w.heap.size, 2, none⟩ = false := frozen_of_row w9 _ 2 _ _ P6.out
    have f3 : w9.frozen? ⟨w.heap.size, 3, none⟩ = false := frozen_of_row w9 _ 3 _ _ P6.out
    go_wp2_with fail
    refine bodyPost_ret (results_ct rfl _ _ w.heap.size 23 #[.int .i64 0, .int .i64 0, .int .i64 0, .string ⟨#[]⟩] (0, 0) _ rfl (pack_set P6.out) Try.underlying23 rfl (by kernel_rfl)) rfl ?_
    exact ⟨by rw [HGET.out]; rfl, below_set4 HB6.out (Nat.le_refl _) _ _ _ _⟩
  have zi : ((i : Int) == 0) = false := by simp; omega
  have yi : ¬ (i : Int) = 0 := by omega
  by_cases hj : j = 0
  · have HGET := Aside0.mk (HNO.out (.inr (.inl hj)))
    have zj : ((j : Int) == 0) = true := by simp; omega
    have yj : (j : Int) = 0 := by omega
    clear hj
    refine start_ (n := 27) (S := fun w' => True) (ds := []) #[false, false, false, false, false, false, false, false, false, false, false, false, false, false, false, false, false, false, false, false, false, false, false, false, false, false, false] (by kernel_rfl) rfl rfl trivial (fun hHeld => ?_); refine with_tabW rparse.tab6 rparse.bits6 (fun HT_ HW_ => ?_)
    refine inv_at [0, 1, 2, 3, 4, 5, 6, 7, 8, 9, 10, 11, 12, 13, 14, 15, 16, 17, 18, 19, 20, 21, 22, 23, 24, 25, 26] (fun a0_ b a w' => a = putSel a0_ b [(0, 50, (.int .i64 (i : Int))), (1, 51, (.bool false)), (2, 52, (.bool false)), (3, 53, (.int .i64 (j : Int))), (4, 54, (.bool true)), (5, 55, (.bool true)), (6, 56, (.bool true)), (7, 57, undef), (8, 58, undef), (9, 59, (.bool true)), (10, 60, (.bool true)), (11, 61, undef), (12, 62, undef), (13, 63, (.bool true)), (14, 64, (.bool true)), (15, 65, undef), (16, 66, undef), (17, 67, undef), (18, 68, (.bool true)), (19, 69, (.bool true)), (20, 70, undef), (21, 71, undef), (22, 72, undef), (23, 73, undef), (24, 74, undef), (25, 75, undef), (26, 76, (.bool true))] ∧ (Below w.heap.size w w') ∧ (Sl w' (.slice A l.length c) l) ∧ (w'.heap[w.heap.size]? = some (.cells #[.int .i64 0, .int .i64 0, .int .i64 0, .string ⟨#[]⟩] 23 (0, 0))) ∧ (w'.heap[w5.heap.size]? = some (.cells #[.int .i64 pe, .int .i64 ps, .int .i64 pa, .string pd] 23 (0, 0)))) HT_.out HW_.out (by kernel_rfl) (by kernel_rfl) ?_ ?_ ?_
    · exact ⟨by simp only [putSel, Bool.false_eq_true, if_false], below_drew1 HB6.out, HS6.out.drew, P6.out, Q6.out⟩
    · skip
      clear HB6 HS6 P6 Q6
      refine steps_cons ?_ ?_
      · rintro b a w' ⟨ha, Q_HB6, Q_HS6, Q_P6, Q_Q6⟩ hb_ hon hoff
        refine ⟨_, rfl, fun K hK => ?_⟩
        have e5 : a.tmps[5]? = some ((.int .i64 (i : Int))) := by rw [ha]; exact (putSel_off rfl).trans rfl
        replace ha := Aside0.mk ha
        have HB6 := Aside0.mk Q_HB6
        have HS6 := Aside0.mk Q_HS6
        have P6 := Aside0.mk Q_P6
        have Q6 := Aside0.mk Q_Q6
        refine value_ (w1 := w') (v := (.int .i64 (i : Int))) (by rfl) rfl ?_ ?_
        · go_simp
          (try simp only [i64_w])
          try rfl
        refine hK.out _ _ ⟨(by rw [ha.out]; exact putSel_upk 0 hb_ rfl rfl rfl), Q_HB6, Q_HS6, Q_P6, Q_Q6⟩
      refine steps_cons ?_ ?_
      · rintro b a w' ⟨ha, Q_HB6, Q_HS6, Q_P6, Q_Q6⟩ hb_ hon hoff
        refine ⟨_, rfl, fun K hK => ?_⟩
        have e50 : a.tmps[50]? = some ((.int .i64 (i : Int))) := by rw [ha]; exact putSel_on (e := (0, 50, (.int .i64 (i : Int)))) 0 rfl rfl (hon 0 (by kernel_rfl)) rfl
        replace ha := Aside0.mk ha
        have HB6 := Aside0.mk Q_HB6
        have HS6 := Aside0.mk Q_HS6
        have P6 := Aside0.mk Q_P6
        have Q6 := Aside0.mk Q_Q6
        refine value_ (w1 := w') (v := (.bool false)) (by rfl) rfl ?_ ?_
        · go_simp
          (try simp only [i64_w])
          try rfl
        refine hK.out _ _ ⟨(by rw [ha.out]; exact putSel_upk 1 hb_ rfl rfl rfl), Q_HB6, Q_HS6, Q_P6, Q_Q6⟩
      refine steps_cons ?_ ?_
      · rintro b a w' ⟨ha, Q_HB6, Q_HS6, Q_P6, Q_Q6⟩ hb_ hon hoff
        refine ⟨_, rfl, fun K hK => ?_⟩
        have e51 : a.tmps[51]? = some ((.bool false)) := by rw [ha]; exact putSel_on (e := (1, 51, (.bool false))) 1 rfl rfl (hon 1 (by kernel_rfl)) rfl
        replace ha := Aside0.mk ha
        have HB6 := Aside0.mk Q_HB6
        have HS6 := Aside0.mk Q_HS6
        have P6 := Aside0.mk Q_P6
        have Q6 := Aside0.mk Q_Q6
        refine value_ (w1 := w') (v := (.bool false)) (by rfl) rfl ?_ ?_
        · go_simp
          (try simp only [i64_w])
          try rfl
        refine hK.out _ _ ⟨(by rw [ha.out]; exact putSel_upk 2 hb_ rfl rfl rfl), Q_HB6, Q_HS6, Q_P6, Q_Q6⟩
      refine steps_cons ?_ ?_
      · rintro b a w' ⟨ha, Q_HB6, Q_HS6, Q_P6, Q_Q6⟩ hb_ hon hoff
        refine ⟨_, rfl, fun K hK => ?_⟩
        have e7 : a.tmps[7]? = some ((.int .i64 (j : Int))) := by rw [ha]; exact (putSel_off rfl).trans rfl
        have e52 : a.tmps[52]? = some ((.bool false)) := by rw [ha]; exact putSel_on (e := (2, 52, (.bool false))) 2 rfl rfl (hon 2 (by kernel_rfl)) rfl
        replace ha := Aside0.mk ha
        have HB6 := Aside0.mk Q_HB6
        have HS6 := Aside0.mk Q_HS6
        have P6 := Aside0.mk Q_P6
        have Q6 := Aside0.mk Q_Q6
        refine value_ (w1 := w') (v := (.int .i64 (j : Int))) (wanted_on rfl rfl rfl (e52.trans (by first | rfl | (simp [*]; done)))) rfl ?_ ?_
        · go_simp
          (try simp only [i64_w])
          try rfl
        refine hK.out _ _ ⟨(by rw [ha.out]; exact putSel_upk 3 hb_ rfl rfl rfl), Q_HB6, Q_HS6, Q_P6, Q_Q6⟩
      refine steps_cons ?_ ?_
      · rintro b a w' ⟨ha, Q_HB6, Q_HS6, Q_P6, Q_Q6⟩ hb_ hon hoff
        refine ⟨_, rfl, fun K hK => ?_⟩
        have e53 : a.tmps[53]? = some ((.int .i64 (j : Int))) := by rw [ha]; exact putSel_on (e := (3, 53, (.int .i64 (j : Int)))) 3 rfl rfl (hon 3 (by kernel_rfl)) rfl
        have e52 : a.tmps[52]? = some ((.bool false)) := by rw [ha]; exact putSel_on (e := (2, 52, (.bool false))) 2 rfl rfl (hon 2 (by kernel_rfl)) rfl
        replace ha := Aside0.mk ha
        have HB6 := Aside0.mk Q_HB6
        have HS6 := Aside0.mk Q_HS6
        have P6 := Aside0.mk Q_P6
        have Q6 := Aside0.mk Q_Q6
        refine value_ (w1 := w') (v := (.bool true)) (wanted_on rfl rfl rfl (e52.trans (by first | rfl | (simp [*]; done)))) rfl ?_ ?_
        · go_simp
          (try simp only [i64_w])
          try rfl
        refine hK.out _ _ ⟨(by rw [ha.out]; exact putSel_upk 4 hb_ rfl rfl rfl), Q_HB6, Q_HS6, Q_P6, Q_Q6⟩
      refine steps_cons ?_ ?_
      · rintro b a w' ⟨ha, Q_HB6, Q_HS6, Q_P6, Q_Q6⟩ hb_ hon hoff
        refine ⟨_, rfl, fun K hK => ?_⟩
        have e52 : a.tmps[52]? = some ((.bool false)) := by rw [ha]; exact putSel_on (e := (2, 52, (.bool false))) 2 rfl rfl (hon 2 (by kernel_rfl)) rfl
        have e54 : a.tmps[54]? = some ((.bool true)) := by rw [ha]; exact putSel_on (e := (4, 54, (.bool true))) 4 rfl rfl (hon 4 (by kernel_rfl)) rfl
        replace ha := Aside0.mk ha
        have HB6 := Aside0.mk Q_HB6
        have HS6 := Aside0.mk Q_HS6
        have P6 := Aside0.mk Q_P6
        have Q6 := Aside0.mk Q_Q6
        refine value_ (w1 := w') (v := (.bool true)) (by rfl) rfl ?_ ?_
        · go_simp
          (try simp only [i64_w])
          try rfl
        refine hK.out _ _ ⟨(by rw [ha.out]; exact putSel_upk 5 hb_ rfl rfl rfl), Q_HB6, Q_HS6, Q_P6, Q_Q6⟩
      refine steps_cons ?_ ?_
      · rintro b a w' ⟨ha, Q_HB6, Q_HS6, Q_P6, Q_Q6⟩ hb_ hon hoff
        refine ⟨_, rfl, fun K hK => ?_⟩
        have e55 : a.tmps[55]? = some ((.bool true)) := by rw [ha]; exact putSel_on (e := (5, 55, (.bool true))) 5 rfl rfl (hon 5 (by kernel_rfl)) rfl
        replace ha := Aside0.mk ha
        have HB6 := Aside0.mk Q_HB6
        have HS6 := Aside0.mk Q_HS6
        have P6 := Aside0.mk Q_P6
        have Q6 := Aside0.mk Q_Q6
        refine value_ (w1 := w') (v := (.bool true)) (by rfl) rfl ?_ ?_
        · go_simp
          (try simp only [i64_w])
          try rfl
        refine hK.out _ _ ⟨(by rw [ha.out]; exact putSel_upk 6 hb_ rfl rfl rfl), Q_HB6, Q_HS6, Q_P6, Q_Q6⟩
      refine steps_cons ?_ ?_
      · rintro b a w' ⟨ha, Q_HB6, Q_HS6, Q_P6, Q_Q6⟩ hb_ hon hoff
        refine ⟨_, rfl, fun K hK => ?_⟩
        have e56 : a.tmps[56]? = some ((.bool true)) := by rw [ha]; exact putSel_on (e := (6, 56, (.bool true))) 6 rfl rfl (hon 6 (by kernel_rfl)) rfl
        replace ha := Aside0.mk ha
        have HB6 := Aside0.mk Q_HB6
        have HS6 := Aside0.mk Q_HS6
        have P6 := Aside0.mk Q_P6
        have Q6 := Aside0.mk Q_Q6
        refine off_ (wanted_off rfl rfl rfl (e56.trans (by first | rfl | (simp [*]; done)))) ?_
        refine hK.out _ _ ⟨(by rw [ha.out]; exact putSel_upk 7 hb_ rfl rfl rfl), Q_HB6, Q_HS6, Q_P6, Q_Q6⟩
      refine steps_cons ?_ ?_
      · rintro b a w' ⟨ha, Q_HB6, Q_HS6, Q_P6, Q_Q6⟩ hb_ hon hoff
        refine ⟨_, rfl, fun K hK => ?_⟩
        have e56 : a.tmps[56]? = some ((.bool true)) := by rw [ha]; exact putSel_on (e := (6, 56, (.bool true))) 6 rfl rfl (hon 6 (by kernel_rfl)) rfl
        replace ha := Aside0.mk ha
        have HB6 := Aside0.mk Q_HB6
        have HS6 := Aside0.mk Q_HS6
        have P6 := Aside0.mk Q_P6
        have Q6 := Aside0.mk Q_Q6
        refine off_ (wanted_off rfl rfl rfl (e56.trans (by first | rfl | (simp [*]; done)))) ?_
        refine hK.out _ _ ⟨(by rw [ha.out]; exact putSel_upk 8 hb_ rfl rfl rfl), Q_HB6, Q_HS6, Q_P6, Q_Q6⟩
      refine steps_cons ?_ ?_
      · rintro b a w' ⟨ha, Q_HB6, Q_HS6, Q_P6, Q_Q6⟩ hb_ hon hoff
        refine ⟨_, rfl, fun K hK => ?_⟩
        have e56 : a.tmps[56]? = some ((.bool true)) := by rw [ha]; exact putSel_on (e := (6, 56, (.bool true))) 6 rfl rfl (hon 6 (by kernel_rfl)) rfl
        have e58 : a.tmps[58]? = some (undef) := by rw [ha]; exact putSel_on (e := (8, 58, undef)) 8 rfl rfl (hon 8 (by kernel_rfl)) rfl
        replace ha := Aside0.mk ha
        have HB6 := Aside0.mk Q_HB6
        have HS6 := Aside0.mk Q_HS6
        have P6 := Aside0.mk Q_P6
        have Q6 := Aside0.mk Q_Q6
        refine value_ (w1 := w') (v := (.bool true)) (by rfl) rfl ?_ ?_
        · go_simp
          (try simp only [i64_w])
          try rfl
        refine hK.out _ _ ⟨(by rw [ha.out]; exact putSel_upk 9 hb_ rfl rfl rfl), Q_HB6, Q_HS6, Q_P6, Q_Q6⟩
      refine steps_cons ?_ ?_
      · rintro b a w' ⟨ha, Q_HB6, Q_HS6, Q_P6, Q_Q6⟩ hb_ hon hoff
        refine ⟨_, rfl, fun K hK => ?_⟩
        have e59 : a.tmps[59]? = some ((.bool true)) := by rw [ha]; exact putSel_on (e := (9, 59, (.bool true))) 9 rfl rfl (hon 9 (by kernel_rfl)) rfl
        replace ha := Aside0.mk ha
        have HB6 := Aside0.mk Q_HB6
        have HS6 := Aside0.mk Q_HS6
        have P6 := Aside0.mk Q_P6
        have Q6 := Aside0.mk Q_Q6
        refine value_ (w1 := w') (v := (.bool true)) (by rfl) rfl ?_ ?_
        · go_simp
          (try simp only [i64_w])
          try rfl
        refine hK.out _ _ ⟨(by rw [ha.out]; exact putSel_upk 10 hb_ rfl rfl rfl), Q_HB6, Q_HS6, Q_P6, Q_Q6⟩
      refine steps_cons ?_ ?_
      · rintro b a w' ⟨ha, Q_HB6, Q_HS6, Q_P6, Q_Q6⟩ hb_ hon hoff
        refine ⟨_, rfl, fun K hK => ?_⟩
        have e60 : a.tmps[60]? = some ((.bool true)) := by rw [ha]; exact putSel_on (e := (10, 60, (.bool true))) 10 rfl rfl (hon 10 (by kernel_rfl)) rfl
        replace ha := Aside0.mk ha
        have HB6 := Aside0.mk Q_HB6
        have HS6 := Aside0.mk Q_HS6
        have P6 := Aside0.mk Q_P6
        have Q6 := Aside0.mk Q_Q6
        refine off_ (wanted_off rfl rfl rfl (e60.trans (by first | rfl | (simp [*]; done)))) ?_
        refine hK.out _ _ ⟨(by rw [ha.out]; exact putSel_upk 11 hb_ rfl rfl rfl), Q_HB6, Q_HS6, Q_P6, Q_Q6⟩
      refine steps_cons ?_ ?_
      · rintro b a w' ⟨ha, Q_HB6, Q_HS6, Q_P6, Q_Q6⟩ hb_ hon hoff
        refine ⟨_, rfl, fun K hK => ?_⟩
        have e60 : a.tmps[60]? = some ((.bool true)) := by rw [ha]; exact putSel_on (e := (10, 60, (.bool true))) 10 rfl rfl (hon 10 (by kernel_rfl)) rfl
        replace ha := Aside0.mk ha
        have HB6 := Aside0.mk Q_HB6
        have HS6 := Aside0.mk Q_HS6
        have P6 := Aside0.mk Q_P6
        have Q6 := Aside0.mk Q_Q6
        refine off_ (wanted_off rfl rfl rfl (e60.trans (by first | rfl | (simp [*]; done)))) ?_
        refine hK.out _ _ ⟨(by rw [ha.out]; exact putSel_upk 12 hb_ rfl rfl rfl), Q_HB6, Q_HS6, Q_P6, Q_Q6⟩
      refine steps_cons ?_ ?_
      · rintro b a w' ⟨ha, Q_HB6, Q_HS6, Q_P6, Q_Q6⟩ hb_ hon hoff
        refine ⟨_, rfl, fun K hK => ?_⟩
        have e60 : a.tmps[60]? = some ((.bool true)) := by rw [ha]; exact putSel_on (e := (10, 60, (.bool true))) 10 rfl rfl (hon 10 (by kernel_rfl)) rfl
        have e62 : a.tmps[62]? = some (undef) := by rw [ha]; exact putSel_on (e := (12, 62, undef)) 12 rfl rfl (hon 12 (by kernel_rfl)) rfl
        replace ha := Aside0.mk ha
        have HB6 := Aside0.mk Q_HB6
        have HS6 := Aside0.mk Q_HS6
        have P6 := Aside0.mk Q_P6
        have Q6 := Aside0.mk Q_Q6
        refine value_ (w1 := w') (v := (.bool true)) (by rfl) rfl ?_ ?_
        · go_simp
          (try simp only [i64_w])
          try rfl
        refine hK.out _ _ ⟨(by rw [ha.out]; exact putSel_upk 13 hb_ rfl rfl rfl), Q_HB6, Q_HS6, Q_P6, Q_Q6⟩
      refine steps_cons ?_ ?_
      · rintro b a w' ⟨ha, Q_HB6, Q_HS6, Q_P6, Q_Q6⟩ hb_ hon hoff
        refine ⟨_, rfl, fun K hK => ?_⟩
        have e63 : a.tmps[63]? = some ((.bool true)) := by rw [ha]; exact putSel_on (e := (13, 63, (.bool true))) 13 rfl rfl (hon 13 (by kernel_rfl)) rfl
        replace ha := Aside0.mk ha
        have HB6 := Aside0.mk Q_HB6
        have HS6 := Aside0.mk Q_HS6
        have P6 := Aside0.mk Q_P6
        have Q6 := Aside0.mk Q_Q6
        refine value_ (w1 := w') (v := (.bool true)) (by rfl) rfl ?_ ?_
        · go_simp
          (try simp only [i64_w])
          try rfl
        refine hK.out _ _ ⟨(by rw [ha.out]; exact putSel_upk 14 hb_ rfl rfl rfl), Q_HB6, Q_HS6, Q_P6, Q_Q6⟩
      refine steps_cons ?_ ?_
      · rintro b a w' ⟨ha, Q_HB6, Q_HS6, Q_P6, Q_Q6⟩ hb_ hon hoff
        refine ⟨_, rfl, fun K hK => ?_⟩
        have e64 : a.tmps[64]? = some ((.bool true)) := by rw [ha]; exact putSel_on (e := (14, 64, (.bool true))) 14 rfl rfl (hon 14 (by kernel_rfl)) rfl
        replace ha := Aside0.mk ha
        have HB6 := Aside0.mk Q_HB6
        have HS6 := Aside0.mk Q_HS6
        have P6 := Aside0.mk Q_P6
        have Q6 := Aside0.mk Q_Q6
        refine off_ (wanted_off rfl rfl rfl (e64.trans (by first | rfl | (simp [*]; done)))) ?_
        refine hK.out _ _ ⟨(by rw [ha.out]; exact putSel_upk 15 hb_ rfl rfl rfl), Q_HB6, Q_HS6, Q_P6, Q_Q6⟩
      refine steps_cons ?_ ?_
      · rintro b a w' ⟨ha, Q_HB6, Q_HS6, Q_P6, Q_Q6⟩ hb_ hon hoff
        refine ⟨_, rfl, fun K hK => ?_⟩
        have e64 : a.tmps[64]? = some ((.bool true)) := by rw [ha]; exact putSel_on (e := (14, 64, (.bool true))) 14 rfl rfl (hon 14 (by kernel_rfl)) rfl
        replace ha := Aside0.mk ha
        have HB6 := Aside0.mk Q_HB6
        have HS6 := Aside0.mk Q_HS6
        have P6 := Aside0.mk Q_P6
        have Q6 := Aside0.mk Q_Q6
        refine off_ (wanted_off rfl rfl rfl (e64.trans (by first | rfl | (simp [*]; done)))) ?_
        refine hK.out _ _ ⟨(by rw [ha.out]; exact putSel_upk 16 hb_ rfl rfl rfl), Q_HB6, Q_HS6, Q_P6, Q_Q6⟩
      refine steps_cons ?_ ?_
      · rintro b a w' ⟨ha, Q_HB6, Q_HS6, Q_P6, Q_Q6⟩ hb_ hon hoff
        refine ⟨_, rfl, fun K hK => ?_⟩
        have e64 : a.tmps[64]? = some ((.bool true)) := by rw [ha]; exact putSel_on (e := (14, 64, (.bool true))) 14 rfl rfl (hon 14 (by kernel_rfl)) rfl
        replace ha := Aside0.mk ha
        have HB6 := Aside0.mk Q_HB6
        have HS6 := Aside0.mk Q_HS6
        have P6 := Aside0.mk Q_P6
        have Q6 := Aside0.mk Q_Q6
        refine off_ (wanted_off rfl rfl rfl (e64.trans (by first | rfl | (simp [*]; done)))) ?_
        refine hK.out _ _ ⟨(by rw [ha.out]; exact putSel_upk 17 hb_ rfl rfl rfl), Q_HB6, Q_HS6, Q_P6, Q_Q6⟩
      refine steps_cons ?_ ?_
      · rintro b a w' ⟨ha, Q_HB6, Q_HS6, Q_P6, Q_Q6⟩ hb_ hon hoff
        refine ⟨_, rfl, fun K hK => ?_⟩
        have e64 : a.tmps[64]? = some ((.bool true)) := by rw [ha]; exact putSel_on (e := (14, 64, (.bool true))) 14 rfl rfl (hon 14 (by kernel_rfl)) rfl
        have e67 : a.tmps[67]? = some (undef) := by rw [ha]; exact putSel_on (e := (17, 67, undef)) 17 rfl rfl (hon 17 (by kernel_rfl)) rfl
        replace ha := Aside0.mk ha
        have HB6 := Aside0.mk Q_HB6
        have HS6 := Aside0.mk Q_HS6
        have P6 := Aside0.mk Q_P6
        have Q6 := Aside0.mk Q_Q6
        refine value_ (w1 := w') (v := (.bool true)) (by rfl) rfl ?_ ?_
        · go_simp
          (try simp only [i64_w])
          try rfl
        refine hK.out _ _ ⟨(by rw [ha.out]; exact putSel_upk 18 hb_ rfl rfl rfl), Q_HB6, Q_HS6, Q_P6, Q_Q6⟩
      refine steps_cons ?_ ?_
      · rintro b a w' ⟨ha, Q_HB6, Q_HS6, Q_P6, Q_Q6⟩ hb_ hon hoff
        refine ⟨_, rfl, fun K hK => ?_⟩
        have e68 : a.tmps[68]? = some ((.bool true)) := by rw [ha]; exact putSel_on (e := (18, 68, (.bool true))) 18 rfl rfl (hon 18 (by kernel_rfl)) rfl
        replace ha := Aside0.mk ha
        have HB6 := Aside0.mk Q_HB6
        have HS6 := Aside0.mk Q_HS6
        have P6 := Aside0.mk Q_P6
        have Q6 := Aside0.mk Q_Q6
        refine value_ (w1 := w') (v := (.bool true)) (by rfl) rfl ?_ ?_
        · go_simp
          (try simp only [i64_w])
          try rfl
        refine hK.out _ _ ⟨(by rw [ha.out]; exact putSel_upk 19 hb_ rfl rfl rfl), Q_HB6, Q_HS6, Q_P6, Q_Q6⟩
      refine steps_cons ?_ ?_
      · rintro b a w' ⟨ha, Q_HB6, Q_HS6, Q_P6, Q_Q6⟩ hb_ hon hoff
        refine ⟨_, rfl, fun K hK => ?_⟩
        have e69 : a.tmps[69]? = some ((.bool true)) := by rw [ha]; exact putSel_on (e := (19, 69, (.bool true))) 19 rfl rfl (hon 19 (by kernel_rfl)) rfl
        replace ha := Aside0.mk ha
        have HB6 := Aside0.mk Q_HB6
        have HS6 := Aside0.mk Q_HS6
        have P6 := Aside0.mk Q_P6
        have Q6 := Aside0.mk Q_Q6
        refine off_ (wanted_off rfl rfl rfl (e69.trans (by first | rfl | (simp [*]; done)))) ?_
        refine hK.out _ _ ⟨(by rw [ha.out]; exact putSel_upk 20 hb_ rfl rfl rfl), Q_HB6, Q_HS6, Q_P6, Q_Q6⟩
      refine steps_cons ?_ ?_
      · rintro b a w' ⟨ha, Q_HB6, Q_HS6, Q_P6, Q_Q6⟩ hb_ hon hoff
        refine ⟨_, rfl, fun K hK => ?_⟩
        have e69 : a.tmps[69]? = some ((.bool true)) := by rw [ha]; exact putSel_on (e := (19, 69, (.bool true))) 19 rfl rfl (hon 19 (by kernel_rfl)) rfl
        replace ha := Aside0.mk ha
        have HB6 := Aside0.mk Q_HB6
        have HS6 := Aside0.mk Q_HS6
        have P6 := Aside0.mk Q_P6
        have Q6 := Aside0.mk Q_Q6
        refine off_ (wanted_off rfl rfl rfl (e69.trans (by first | rfl | (simp [*]; done)))) ?_
        refine hK.out _ _ ⟨(by rw [ha.out]; exact putSel_upk 21 hb_ rfl rfl rfl), Q_HB6, Q_HS6, Q_P6, Q_Q6⟩
      refine steps_cons ?_ ?_
      · rintro b a w' ⟨ha, Q_HB6, Q_HS6, Q_P6, Q_Q6⟩ hb_ hon hoff
        refine ⟨_, rfl, fun K hK => ?_⟩
        have e69 : a.tmps[69]? = some ((.bool true)) := by rw [ha]; exact putSel_on (e := (19, 69, (.bool true))) 19 rfl rfl (hon 19 (by kernel_rfl)) rfl
        replace ha := Aside0.mk ha
        have HB6 := Aside0.mk Q_HB6
        have HS6 := Aside0.mk Q_HS6
        have P6 := Aside0.mk Q_P6
        have Q6 := Aside0.mk Q_Q6
        refine off_ (wanted_off rfl rfl rfl (e69.trans (by first | rfl | (simp [*]; done)))) ?_
        refine hK.out _ _ ⟨(by rw [ha.out]; exact putSel_upk 22 hb_ rfl rfl rfl), Q_HB6, Q_HS6, Q_P6, Q_Q6⟩
      refine steps_cons ?_ ?_
      · rintro b a w' ⟨ha, Q_HB6, Q_HS6, Q_P6, Q_Q6⟩ hb_ hon hoff
        refine ⟨_, rfl, fun K hK => ?_⟩
        have e69 : a.tmps[69]? = some ((.bool true)) := by rw [ha]; exact putSel_on (e := (19, 69, (.bool true))) 19 rfl rfl (hon 19 (by kernel_rfl)) rfl
        replace ha := Aside0.mk ha
        have HB6 := Aside0.mk Q_HB6
        have HS6 := Aside0.mk Q_HS6
        have P6 := Aside0.mk Q_P6
        have Q6 := Aside0.mk Q_Q6
        refine off_ (wanted_off rfl rfl rfl (e69.trans (by first | rfl | (simp [*]; done)))) ?_
        refine hK.out _ _ ⟨(by rw [ha.out]; exact putSel_upk 23 hb_ rfl rfl rfl), Q_HB6, Q_HS6, Q_P6, Q_Q6⟩
      refine steps_cons ?_ ?_
      · rintro b a w' ⟨ha, Q_HB6, Q_HS6, Q_P6, Q_Q6⟩ hb_ hon hoff
        refine ⟨_, rfl, fun K hK => ?_⟩
        have e69 : a.tmps[69]? = some ((.bool true)) := by rw [ha]; exact putSel_on (e := (19, 69, (.bool true))) 19 rfl rfl (hon 19 (by kernel_rfl)) rfl
        replace ha := Aside0.mk ha
        have HB6 := Aside0.mk Q_HB6
        have HS6 := Aside0.mk Q_HS6
        have P6 := Aside0.mk Q_P6
        have Q6 := Aside0.mk Q_Q6
        refine off_ (wanted_off rfl rfl rfl (e69.trans (by first | rfl | (simp [*]; done)))) ?_
        refine hK.out _ _ ⟨(by rw [ha.out]; exact putSel_upk 24 hb_ rfl rfl rfl), Q_HB6, Q_HS6, Q_P6, Q_Q6⟩
      refine steps_cons ?_ ?_
      · rintro b a w' ⟨ha, Q_HB6, Q_HS6, Q_P6, Q_Q6⟩ hb_ hon hoff
        refine ⟨_, rfl, fun K hK => ?_⟩
        have e69 : a.tmps[69]? = some ((.bool true)) := by rw [ha]; exact putSel_on (e := (19, 69, (.bool true))) 19 rfl rfl (hon 19 (by kernel_rfl)) rfl
        replace ha := Aside0.mk ha
        have HB6 := Aside0.mk Q_HB6
        have HS6 := Aside0.mk Q_HS6
        have P6 := Aside0.mk Q_P6
        have Q6 := Aside0.mk Q_Q6
        refine off_ (wanted_off rfl rfl rfl (e69.trans (by first | rfl | (simp [*]; done)))) ?_
        refine hK.out _ _ ⟨(by rw [ha.out]; exact putSel_upk 25 hb_ rfl rfl rfl), Q_HB6, Q_HS6, Q_P6, Q_Q6⟩
      refine steps_cons ?_ ?_
      · rintro b a w' ⟨ha, Q_HB6, Q_HS6, Q_P6, Q_Q6⟩ hb_ hon hoff
        refine ⟨_, rfl, fun K hK => ?_⟩
        have e69 : a.tmps[69]? = some ((.bool true)) := by rw [ha]; exact putSel_on (e := (19, 69, (.bool true))) 19 rfl rfl (hon 19 (by kernel_rfl)) rfl
        have e75 : a.tmps[75]? = some (undef) := by rw [ha]; exact putSel_on (e := (25, 75, undef)) 25 rfl rfl (hon 25 (by kernel_rfl)) rfl
        replace ha := Aside0.mk ha
        have HB6 := Aside0.mk Q_HB6
        have HS6 := Aside0.mk Q_HS6
        have P6 := Aside0.mk Q_P6
        have Q6 := Aside0.mk Q_Q6
        refine value_ (w1 := w') (v := (.bool true)) (by rfl) rfl ?_ ?_
        · go_simp
          (try simp only [i64_w])
          try rfl
        refine hK.out _ _ ⟨(by rw [ha.out]; exact putSel_upk 26 hb_ rfl rfl rfl), Q_HB6, Q_HS6, Q_P6, Q_Q6⟩
      exact steps_nil
    rintro b a w9 hall ⟨ha, Q_HB6, Q_HS6, Q_P6, Q_Q6⟩
    clear HB6 HS6 P6 Q6
    have hb0_ := hall 0 (by kernel_rfl)
    have hb1_ := hall 1 (by kernel_rfl)
    have hb2_ := hall 2 (by kernel_rfl)
    have hb3_ := hall 3 (by kernel_rfl)
    have hb4_ := hall 4 (by kernel_rfl)
    have hb5_ := hall 5 (by kernel_rfl)
    have hb6_ := hall 6 (by kernel_rfl)
    have hb7_ := hall 7 (by kernel_rfl)
    have hb8_ := hall 8 (by kernel_rfl)
    have hb9_ := hall 9 (by kernel_rfl)
    have hb10_ := hall 10 (by kernel_rfl)
    have hb11_ := hall 11 (by kernel_rfl)
    have hb12_ := hall 12 (by kernel_rfl)
    have hb13_ := hall 13 (by kernel_rfl)
    have hb14_ := hall 14 (by kernel_rfl)
    have hb15_ := hall 15 (by kernel_rfl)
    have hb16_ := hall 16 (by kernel_rfl)
    have hb17_ := hall 17 (by kernel_rfl)
    have hb18_ := hall 18 (by kernel_rfl)
    have hb19_ := hall 19 (by kernel_rfl)
    have hb20_ := hall 20 (by kernel_rfl)
    have hb21_ := hall 21 (by kernel_rfl)
    have hb22_ := hall 22 (by kernel_rfl)
    have hb23_ := hall 23 (by kernel_rfl)
    have hb24_ := hall 24 (by kernel_rfl)
    have hb25_ := hall 25 (by kernel_rfl)
    have hb26_ := hall 26 (by kernel_rfl)
    subst ha
    simp only [putSel, hb0_, hb1_, hb2_, hb3_, hb4_, hb5_, hb6_, hb7_, hb8_, hb9_, hb10_, hb11_, hb12_, hb13_, hb14_, hb15_, hb16_, hb17_, hb18_, hb19_, hb20_, hb21_, hb22_, hb23_, hb24_, hb25_, hb26_, if_true, Act.put, List.setIfInBounds_toArray, List.set_cons_zero, List.set_cons_succ]
    have HB6 := Aside0.mk Q_HB6
    clear Q_HB6
    have HS6 := Aside0.mk Q_HS6
    clear Q_HS6
    have P6 := Aside0.mk Q_P6
    clear Q_P6
    have Q6 := Aside0.mk Q_Q6
    clear Q_Q6
    clear hall hb0_ hb1_ hb2_ hb3_ hb4_ hb5_ hb6_ hb7_ hb8_ hb9_ hb10_ hb11_ hb12_ hb13_ hb14_ hb15_ hb16_ hb17_ hb18_ hb19_ hb20_ hb21_ hb22_ hb23_ hb24_ hb25_ hb26_
    have p0 : w9.cell? ⟨w.heap.size, 0, none⟩ = some (.int .i64 0) := by rw [cell_of_row w9 _ 0 _ _ _ P6.out]; rfl
    have p1 : w9.cell? ⟨w.heap.size, 1, none⟩ = some (.int .i64 0) := by rw [cell_of_row w9 _ 1 _ _ _ P6.out]; rfl
    have p2 : w9.cell? ⟨w.heap.size, 2, none⟩ = some (.int .i64 0) := by rw [cell_of_row w9 _ 2 _ _ _ P6.out]; rfl
    have p3 : w9.cell? ⟨w.heap.size, 3, none⟩ = some (.string ⟨#[]⟩) := by rw [cell_of_row w9 _ 3 _ _ _ P6.out]; rfl
    have f0 : w9.frozen? ⟨w.heap.size, 0, none⟩ = false := frozen_of_row w9 _ 0 _ _ P6.out
    have f1 : w9.frozen? ⟨w.heap.size, 1, none⟩ = false := frozen_of_row w9 _ 1 _ _ P6.out
    have f2 : w9.frozen? ⟨w.heap.size, 2, none⟩ = false := frozen_of_row w9 _ 2 _ _ P6.out
    have f3 : w9.frozen? ⟨w.heap.size, 3, none⟩ = false := frozen_of_row w9 _ 3 _ _ P6.out
    go_wp2_with fail
    refine bodyPost_ret (results_ct rfl _ _ w.heap.size 23 #[.int .i64 0, .int .i64 0, .int .i64 0, .string ⟨#[]⟩] (0, 0) _ rfl (pack_set P6.out) Try.underlying23 rfl (by kernel_rfl)) rfl ?_
    exact ⟨by rw [HGET.out]; rfl, below_set4 HB6.out (Nat.le_refl _) _ _ _ _⟩
  have zj : ((j : Int) == 0) = false := by simp; omega
  have yj : ¬ (j : Int) = 0 := by omega
  by_cases hk : k = 0
  · have HGET := Aside0.mk (HNO.out (.inr (.inr (.inl hk))))
    have zk : ((k : Int) == 0) = true := by simp; omega
    have yk : (k : Int) = 0 := by omega
    clear hk
    refine start_ (n := 27) (S := fun w' => True) (ds := []) #[false, false, false, false, false, false, false, false, false, false, false, false, false, false, false, false, false, false, false, false, false, false, false, false, false, false, false] (by kernel_rfl) rfl rfl trivial (fun hHeld => ?_); refine with_tabW rparse.tab6 rparse.bits6 (fun HT_ HW_ => ?_)
    refine inv_at [0, 1, 2, 3, 4, 5, 6, 7, 8, 9, 10, 11, 12, 13, 14, 15, 16, 17, 18, 19, 20, 21, 22, 23, 24, 25, 26] (fun a0_ b a w' => a = putSel a0_ b [(0, 50, (.int .i64 (i : Int))), (1, 51, (.bool false)), (2, 52, (.bool false)), (3, 53, (.int .i64 (j : Int))), (4, 54, (.bool false)), (5, 55, (.bool false)), (6, 56, (.bool false)), (7, 57, (.int .i64 (k : Int))), (8, 58, (.bool true)), (9, 59, (.bool true)), (10, 60, (.bool true)), (11, 61, undef), (12, 62, undef), (13, 63, (.bool true)), (14, 64, (.bool true)), (15, 65, undef), (16, 66, undef), (17, 67, undef), (18, 68, (.bool true)), (19, 69, (.bool true)), (20, 70, undef), (21, 71, undef), (22, 72, undef), (23, 73, undef), (24, 74, undef), (25, 75, undef), (26, 76, (.bool true))] ∧ (Below w.heap.size w w') ∧ (Sl w' (.slice A l.length c) l) ∧ (w'.heap[w.heap.size]? = some (.cells #[.int .i64 0, .int .i64 0, .int .i64 0, .string ⟨#[]⟩] 23 (0, 0))) ∧ (w'.heap[w5.heap.size]? = some (.cells #[.int .i64 pe, .int .i64 ps, .int .i64 pa, .string pd] 23 (0, 0)))) HT_.out HW_.out (by kernel_rfl) (by kernel_rfl) ?_ ?_ ?_
    · exact ⟨by simp only [putSel, Bool.false_eq_true, if_false], below_drew1 HB6.out, HS6.out.drew, P6.out, Q6.out⟩
    · skip
      clear HB6 HS6 P6 Q6
      refine steps_cons ?_ ?_
      · rintro b a w' ⟨ha, Q_HB6, Q_HS6, Q_P6, Q_Q6⟩ hb_ hon hoff
        refine ⟨_, rfl, fun K hK => ?_⟩
        have e5 : a.tmps[5]? = some ((.int .i64 (i : Int))) := by rw [ha]; exact (putSel_off rfl).trans rfl
        replace ha := Aside0.mk ha
        have HB6 := Aside0.mk Q_HB6
        have HS6 := Aside0.mk Q_HS6
        have P6 := Aside0.mk Q_P6
        have Q6 := Aside0.mk Q_Q6
        refine value_ (w1 := w') (v := (.int .i64 (i : Int))) (by rfl) rfl ?_ ?_
        · go_simp
          (try simp only [i64_w])
          try rfl
        refine hK.out _ _ ⟨(by rw [ha.out]; exact putSel_upk 0 hb_ rfl rfl rfl), Q_HB6, Q_HS6, Q_P6, Q_Q6⟩
      refine steps_cons ?_ ?_
      · rintro b a w' ⟨ha, Q_HB6, Q_HS6, Q_P6, Q_Q6⟩ hb_ hon hoff
        refine ⟨_, rfl, fun K hK => ?_⟩
        have e50 : a.tmps[50]? = some ((.int .i64 (i : Int))) := by rw [ha]; exact putSel_on (e := (0, 50, (.int .i64 (i : Int)))) 0 rfl rfl (hon 0 (by kernel_rfl)) rfl
        replace ha := Aside0.mk ha
        have HB6 := Aside0.mk Q_HB6
        have HS6 := Aside0.mk Q_HS6
        have P6 := Aside0.mk Q_P6
        have Q6 := Aside0.mk Q_Q6
        refine value_ (w1 := w') (v := (.bool false)) (by rfl) rfl ?_ ?_
        · go_simp
          (try simp only [i64_w])
          try rfl
        refine hK.out _ _ ⟨(by rw [ha.out]; exact putSel_upk 1 hb_ rfl rfl rfl), Q_HB6, Q_HS6, Q_P6, Q_Q6⟩
      refine steps_cons ?_ ?_
      · rintro b a w' ⟨ha, Q_HB6, Q_HS6, Q_P6, Q_Q6⟩ hb_ hon hoff
        refine ⟨_, rfl, fun K hK => ?_⟩
        have e51 : a.tmps[51]? = some ((.bool false)) := by rw [ha]; exact putSel_on (e := (1, 51, (.bool false))) 1 rfl rfl (hon 1 (by kernel_rfl)) rfl
        replace ha := Aside0.mk ha
        have HB6 := Aside0.mk Q_HB6
        have HS6 := Aside0.mk Q_HS6
        have P6 := Aside0.mk Q_P6
        have Q6 := Aside0.mk Q_Q6
        refine value_ (w1 := w') (v := (.bool false)) (by rfl) rfl ?_ ?_
        · go_simp
          (try simp only [i64_w])
          try rfl
        refine hK.out _ _ ⟨(by rw [ha.out]; exact putSel_upk 2 hb_ rfl rfl rfl), Q_HB6, Q_HS6, Q_P6, Q_Q6⟩
      refine steps_cons ?_ ?_
      · rintro b a w' ⟨ha, Q_HB6, Q_HS6, Q_P6, Q_Q6⟩ hb_ hon hoff
        refine ⟨_, rfl, fun K hK => ?_⟩
        have e7 : a.tmps[7]? = some ((.int .i64 (j : Int))) := by rw [ha]; exact (putSel_off rfl).trans rfl
        have e52 : a.tmps[52]? = some ((.bool false)) := by rw [ha]; exact putSel_on (e := (2, 52, (.bool false))) 2 rfl rfl (hon 2 (by kernel_rfl)) rfl
        replace ha := Aside0.mk ha
        have HB6 := Aside0.mk Q_HB6
        have HS6 := Aside0.mk Q_HS6
        have P6 := Aside0.mk Q_P6
        have Q6 := Aside0.mk Q_Q6
        refine value_ (w1 := w') (v := (.int .i64 (j : Int))) (wanted_on rfl rfl rfl (e52.trans (by first | rfl | (simp [*]; done)))) rfl ?_ ?_
        · go_simp
          (try simp only [i64_w])
          try rfl
        refine hK.out _ _ ⟨(by rw [ha.out]; exact putSel_upk 3 hb_ rfl rfl rfl), Q_HB6, Q_HS6, Q_P6, Q_Q6⟩
      refine steps_cons ?_ ?_
      · rintro b a w' ⟨ha, Q_HB6, Q_HS6, Q_P6, Q_Q6⟩ hb_ hon hoff
        refine ⟨_, rfl, fun K hK => ?_⟩
        have e53 : a.tmps[53]? = some ((.int .i64 (j : Int))) := by rw [ha]; exact putSel_on (e := (3, 53, (.int .i64 (j : Int)))) 3 rfl rfl (hon 3 (by kernel_rfl)) rfl
        have e52 : a.tmps[52]? = some ((.bool false)) := by rw [ha]; exact putSel_on (e := (2, 52, (.bool false))) 2 rfl rfl (hon 2 (by kernel_rfl)) rfl
        replace ha := Aside0.mk ha
        have HB6 := Aside0.mk Q_HB6
        have HS6 := Aside0.mk Q_HS6
        have P6 := Aside0.mk Q_P6
        have Q6 := Aside0.mk Q_Q6
        refine value_ (w1 := w') (v := (.bool false)) (wanted_on rfl rfl rfl (e52.trans (by first | rfl | (simp [*]; done)))) rfl ?_ ?_
        · go_simp
          (try simp only [i64_w])
          try rfl
        refine hK.out _ _ ⟨(by rw [ha.out]; exact putSel_upk 4 hb_ rfl rfl rfl), Q_HB6, Q_HS6, Q_P6, Q_Q6⟩
      refine steps_cons ?_ ?_
      · rintro b a w' ⟨ha, Q_HB6, Q_HS6, Q_P6, Q_Q6⟩ hb_ hon hoff
        refine ⟨_, rfl, fun K hK => ?_⟩
        have e52 : a.tmps[52]? = some ((.bool false)) := by rw [ha]; exact putSel_on (e := (2, 52, (.bool false))) 2 rfl rfl (hon 2 (by kernel_rfl)) rfl
        have e54 : a.tmps[54]? = some ((.bool false)) := by rw [ha]; exact putSel_on (e := (4, 54, (.bool false))) 4 rfl rfl (hon 4 (by kernel_rfl)) rfl
        replace ha := Aside0.mk ha
        have HB6 := Aside0.mk Q_HB6
        have HS6 := Aside0.mk Q_HS6
        have P6 := Aside0.mk Q_P6
        have Q6 := Aside0.mk Q_Q6
        refine value_ (w1 := w') (v := (.bool false)) (by rfl) rfl ?_ ?_
        · go_simp
          (try simp only [i64_w])
          try rfl
        refine hK.out _ _ ⟨(by rw [ha.out]; exact putSel_upk 5 hb_ rfl rfl rfl), Q_HB6, Q_HS6, Q_P6, Q_Q6⟩
      refine steps_cons ?_ ?_
      · rintro b a w' ⟨ha, Q_HB6, Q_HS6, Q_P6, Q_Q6⟩ hb_ hon hoff
        refine ⟨_, rfl, fun K hK => ?_⟩
        have e55 : a.tmps[55]? = some ((.bool false)) := by rw [ha]; exact putSel_on (e := (5, 55, (.bool false))) 5 rfl rfl (hon 5 (by kernel_rfl)) rfl
        replace ha := Aside0.mk ha
        have HB6 := Aside0.mk Q_HB6
        have HS6 := Aside0.mk Q_HS6
        have P6 := Aside0.mk Q_P6
        have Q6 := Aside0.mk Q_Q6
        refine value_ (w1 := w') (v := (.bool false)) (by rfl) rfl ?_ ?_
        · go_simp
          (try simp only [i64_w])
          try rfl
        refine hK.out _ _ ⟨(by rw [ha.out]; exact putSel_upk 6 hb_ rfl rfl rfl), Q_HB6, Q_HS6, Q_P6, Q_Q6⟩
      refine steps_cons ?_ ?_
      · rintro b a w' ⟨ha, Q_HB6, Q_HS6, Q_P6, Q_Q6⟩ hb_ hon hoff
        refine ⟨_, rfl, fun K hK => ?_⟩
        have e9 : a.tmps[9]? = some ((.int .i64 (k : Int))) := by rw [ha]; exact (putSel_off rfl).trans rfl
        have e56 : a.tmps[56]? = some ((.bool false)) := by rw [ha]; exact putSel_on (e := (6, 56, (.bool false))) 6 rfl rfl (hon 6 (by kernel_rfl)) rfl
        replace ha := Aside0.mk ha
        have HB6 := Aside0.mk Q_HB6
        have HS6 := Aside0.mk Q_HS6
        have P6 := Aside0.mk Q_P6
        have Q6 := Aside0.mk Q_Q6
        refine value_ (w1 := w') (v := (.int .i64 (k : Int))) (wanted_on rfl rfl rfl (e56.trans (by first | rfl | (simp [*]; done)))) rfl ?_ ?_
        · go_simp
          (try simp only [i64_w])
          try rfl
        refine hK.out _ _ ⟨(by rw [ha.out]; exact putSel_upk 7 hb_ rfl rfl rfl), Q_HB6, Q_HS6, Q_P6, Q_Q6⟩
      refine steps_cons ?_ ?_
      · rintro b a w' ⟨ha, Q_HB6, Q_HS6, Q_P6, Q_Q6⟩ hb_ hon hoff
        refine ⟨_, rfl, fun K hK => ?_⟩
        have e57 : a.tmps[57]? = some ((.int .i64 (k : Int))) := by rw [ha]; exact putSel_on (e := (7, 57, (.int .i64 (k : Int)))) 7 rfl rfl (hon 7 (by kernel_rfl)) rfl
        have e56 : a.tmps[56]? = some ((.bool false)) := by rw [ha]; exact putSel_on (e := (6, 56, (.bool false))) 6 rfl rfl (hon 6 (by kernel_rfl)) rfl
        replace ha := Aside0.mk ha
        have HB6 := Aside0.mk Q_HB6
        have HS6 := Aside0.mk Q_HS6
        have P6 := Aside0.mk Q_P6
        have Q6 := Aside0.mk Q_Q6
        refine value_ (w1 := w') (v := (.bool true)) (wanted_on rfl rfl rfl (e56.trans (by first | rfl | (simp [*]; done)))) rfl ?_ ?_
        · go_simp
          (try simp only [i64_w])
          try rfl
        refine hK.out _ _ ⟨(by rw [ha.out]; exact putSel_upk 8 hb_ rfl rfl rfl), Q_HB6, Q_HS6, Q_P6, Q_Q6⟩
      refine steps_cons ?_ ?_
      · rintro b a w' ⟨ha, Q_HB6, Q_HS6, Q_P6, Q_Q6⟩ hb_ hon hoff
        refine ⟨_, rfl, fun K hK => ?_⟩
        have e56 : a.tmps[56]? = some ((.bool false)) := by rw [ha]; exact putSel_on (e := (6, 56, (.bool false))) 6 rfl rfl (hon 6 (by kernel_rfl)) rfl
        have e58 : a.tmps[58]? = some ((.bool true)) := by rw [ha]; exact putSel_on (e := (8, 58, (.bool true))) 8 rfl rfl (hon 8 (by kernel_rfl)) rfl
        replace ha := Aside0.mk ha
        have HB6 := Aside0.mk Q_HB6
        have HS6 := Aside0.mk Q_HS6
        have P6 := Aside0.mk Q_P6
        have Q6 := Aside0.mk Q_Q6
        refine value_ (w1 := w') (v := (.bool true)) (by rfl) rfl ?_ ?_
        · go_simp
          (try simp only [i64_w])
          try rfl
        refine hK.out _ _ ⟨(by rw [ha.out]; exact putSel_upk 9 hb_ rfl rfl rfl), Q_HB6, Q_HS6, Q_P6, Q_Q6⟩
      refine steps_cons ?_ ?_
      · rintro b a w' ⟨ha, Q_HB6, Q_HS6, Q_P6, Q_Q6⟩ hb_ hon hoff
        refine ⟨_, rfl, fun K hK => ?_⟩
        have e59 : a.tmps[59]? = some ((.bool true)) := by rw [ha]; exact putSel_on (e := (9, 59, (.bool true))) 9 rfl rfl (hon 9 (by kernel_rfl)) rfl
        replace ha := Aside0.mk ha
        have HB6 := Aside0.mk Q_HB6
        have HS6 := Aside0.mk Q_HS6
        have P6 := Aside0.mk Q_P6
        have Q6 := Aside0.mk Q_Q6
        refine value_ (w1 := w') (v := (.bool true)) (by rfl) rfl ?_ ?_
        · go_simp
          (try simp only [i64_w])
          try rfl
        refine hK.out _ _ ⟨(by rw [ha.out]; exact putSel_upk 10 hb_ rfl rfl rfl), Q_HB6, Q_HS6, Q_P6, Q_Q6⟩
      refine steps_cons ?_ ?_
      · rintro b a w' ⟨ha, Q_HB6, Q_HS6, Q_P6, Q_Q6⟩ hb_ hon hoff
        refine ⟨_, rfl, fun K hK => ?_⟩
        have e60 : a.tmps[60]? = some ((.bool true)) := by rw [ha]; exact putSel_on (e := (10, 60, (.bool true))) 10 rfl rfl (hon 10 (by kernel_rfl)) rfl
        replace ha := Aside0.mk ha
        have HB6 := Aside0.mk Q_HB6
        have HS6 := Aside0.mk Q_HS6
        have P6 := Aside0.mk Q_P6
        have Q6 := Aside0.mk Q_Q6
        refine off_ (wanted_off rfl rfl rfl (e60.trans (by first | rfl | (simp [*]; done)))) ?_
        refine hK.out _ _ ⟨(by rw [ha.out]; exact putSel_upk 11 hb_ rfl rfl rfl), Q_HB6, Q_HS6, Q_P6, Q_Q6⟩
      refine steps_cons ?_ ?_
      · rintro b a w' ⟨ha, Q_HB6, Q_HS6, Q_P6, Q_Q6⟩ hb_ hon hoff
        refine ⟨_, rfl, fun K hK => ?_⟩
        have e60 : a.tmps[60]? = some ((.bool true)) := by rw [ha]; exact putSel_on (e := (10, 60, (.bool true))) 10 rfl rfl (hon 10 (by kernel_rfl)) rfl
        replace ha := Aside0.mk ha
        have HB6 := Aside0.mk Q_HB6
        have HS6 := Aside0.mk Q_HS6
        have P6 := Aside0.mk Q_P6
        have Q6 := Aside0.mk Q_Q6
        refine off_ (wanted_off rfl rfl rfl (e60.trans (by first | rfl | (simp [*]; done)))) ?_
        refine hK.out _ _ ⟨(by rw [ha.out]; exact putSel_upk 12 hb_ rfl rfl rfl), Q_HB6, Q_HS6, Q_P6, Q_Q6⟩
      refine steps_cons ?_ ?_
      · rintro b a w' ⟨ha, Q_HB6, Q_HS6, Q_P6, Q_Q6⟩ hb_ hon hoff
        refine ⟨_, rfl, fun K hK => ?_⟩
        have e60 : a.tmps[60]? = some ((.bool true)) := by rw [ha]; exact putSel_on (e := (10, 60, (.bool true))) 10 rfl rfl (hon 10 (by kernel_rfl)) rfl
        have e62 : a.tmps[62]? = some (undef) := by rw [ha]; exact putSel_on (e := (12, 62, undef)) 12 rfl rfl (hon 12 (by kernel_rfl)) rfl
        replace ha := Aside0.mk ha
        have HB6 := Aside0.mk Q_HB6
        have HS6 := Aside0.mk Q_HS6
        have P6 := Aside0.mk Q_P6
        have Q6 := Aside0.mk Q_Q6
        refine value_ (w1 := w') (v := (.bool true)) (by rfl) rfl ?_ ?_
        · go_simp
          (try simp only [i64_w])
          try rfl
        refine hK.out _ _ ⟨(by rw [ha.out]; exact putSel_upk 13 hb_ rfl rfl rfl), Q_HB6, Q_HS6, Q_P6, Q_Q6⟩
      refine steps_cons ?_ ?_
      · rintro b a w' ⟨ha, Q_HB6, Q_HS6, Q_P6, Q_Q6⟩ hb_ hon hoff
        refine ⟨_, rfl, fun K hK => ?_⟩
        have e63 : a.tmps[63]? = some ((.bool true)) := by rw [ha]; exact putSel_on (e := (13, 63, (.bool true))) 13 rfl rfl (hon 13 (by kernel_rfl)) rfl
        replace ha := Aside0.mk ha
        have HB6 := Aside0.mk Q_HB6
        have HS6 := Aside0.mk Q_HS6
        have P6 := Aside0.mk Q_P6
        have Q6 := Aside0.mk Q_Q6
        refine value_ (w1 := w') (v := (.bool true)) (by rfl) rfl ?_ ?_
        · go_simp
          (try simp only [i64_w])
          try rfl
        refine hK.out _ _ ⟨(by rw [ha.out]; exact putSel_upk 14 hb_ rfl rfl rfl), Q_HB6, Q_HS6, Q_P6, Q_Q6⟩
      refine steps_cons ?_ ?_
      · rintro b a w' ⟨ha, Q_HB6, Q_HS6, Q_P6, Q_Q6⟩ hb_ hon hoff
        refine ⟨_, rfl, fun K hK => ?_⟩
        have e64 : a.tmps[64]? = some ((.bool true)) := by rw [ha]; exact putSel_on (e := (14, 64, (.bool true))) 14 rfl rfl (hon 14 (by kernel_rfl)) rfl
        replace ha := Aside0.mk ha
        have HB6 := Aside0.mk Q_HB6
        have HS6 := Aside0.mk Q_HS6
        have P6 := Aside0.mk Q_P6
        have Q6 := Aside0.mk Q_Q6
        refine off_ (wanted_off rfl rfl rfl (e64.trans (by first | rfl | (simp [*]; done)))) ?_
        refine hK.out _ _ ⟨(by rw [ha.out]; exact putSel_upk 15 hb_ rfl rfl rfl), Q_HB6, Q_HS6, Q_P6, Q_Q6⟩
      refine steps_cons ?_ ?_
      · rintro b a w' ⟨ha, Q_HB6, Q_HS6, Q_P6, Q_Q6⟩ hb_ hon hoff
        refine ⟨_, rfl, fun K hK => ?_⟩
        have e64 : a.tmps[64]? = some ((.bool true)) := by rw [ha]; exact putSel_on (e := (14, 64, (.bool true))) 14 rfl rfl (hon 14 (by kernel_rfl)) rfl
        replace ha := Aside0.mk ha
        have HB6 := Aside0.mk Q_HB6
        have HS6 := Aside0.mk Q_HS6
        have P6 := Aside0.mk Q_P6
        have Q6 := Aside0.mk Q_Q6
        refine off_ (wanted_off rfl rfl rfl (e64.trans (by first | rfl | (simp [*]; done)))) ?_
        refine hK.out _ _ ⟨(by rw [ha.out]; exact putSel_upk 16 hb_ rfl rfl rfl), Q_HB6, Q_HS6, Q_P6, Q_Q6⟩
      refine steps_cons ?_ ?_
      · rintro b a w' ⟨ha, Q_HB6, Q_HS6, Q_P6, Q_Q6⟩ hb_ hon hoff
        refine ⟨_, rfl, fun K hK => ?_⟩
        have e64 : a.tmps[64]? = some ((.bool true)) := by rw [ha]; exact putSel_on (e := (14, 64, (.bool true))) 14 rfl rfl (hon 14 (by kernel_rfl)) rfl
        replace ha := Aside0.mk ha
        have HB6 := Aside0.mk Q_HB6
        have HS6 := Aside0.mk Q_HS6
        have P6 := Aside0.mk Q_P6
        have Q6 := Aside0.mk Q_Q6
        refine off_ (wanted_off rfl rfl rfl (e64.trans (by first | rfl | (simp [*]; done)))) ?_
        refine hK.out _ _ ⟨(by rw [ha.out]; exact putSel_upk 17 hb_ rfl rfl rfl), Q_HB6, Q_HS6, Q_P6, Q_Q6⟩
      refine steps_cons ?_ ?_
      · rintro b a w' ⟨ha, Q_HB6, Q_HS6, Q_P6, Q_Q6⟩ hb_ hon hoff
        refine ⟨_, rfl, fun K hK => ?_⟩
        have e64 : a.tmps[64]? = some ((.bool true)) := by rw [ha]; exact putSel_on (e := (14, 64, (.bool true))) 14 rfl rfl (hon 14 (by kernel_rfl)) rfl
        have e67 : a.tmps[67]? = some (undef) := by rw [ha]; exact putSel_on (e := (17, 67, undef)) 17 rfl rfl (hon 17 (by kernel_rfl)) rfl
        replace ha := Aside0.mk ha
        have HB6 := Aside0.mk Q_HB6
        have HS6 := Aside0.mk Q_HS6
        have P6 := Aside0.mk Q_P6
        have Q6 := Aside0.mk Q_Q6
        refine value_ (w1 := w') (v := (.bool true)) (by rfl) rfl ?_ ?_
        · go_simp
          (try simp only [i64_w])
          try rfl
        refine hK.out _ _ ⟨(by rw [ha.out]; exact putSel_upk 18 hb_ rfl rfl rfl), Q_HB6, Q_HS6, Q_P6, Q_Q6⟩
      refine steps_cons ?_ ?_
      · rintro b a w' ⟨ha, Q_HB6, Q_HS6, Q_P6, Q_Q6⟩ hb_ hon hoff
        refine ⟨_, rfl, fun K hK => ?_⟩
        have e68 : a.tmps[68]? = some ((.bool true)) := by rw [ha]; exact putSel_on (e := (18, 68, (.bool true))) 18 rfl rfl (hon 18 (by kernel_rfl)) rfl
        replace ha := Aside0.mk ha
        have HB6 := Aside0.mk Q_HB6
        have HS6 := Aside0.mk Q_HS6
        have P6 := Aside0.mk Q_P6
        have Q6 := Aside0.mk Q_Q6
        refine value_ (w1 := w') (v := (.bool true)) (by rfl) rfl ?_ ?_
        · go_simp
          (try simp only [i64_w])
          try rfl
        refine hK.out _ _ ⟨(by rw [ha.out]; exact putSel_upk 19 hb_ rfl rfl rfl), Q_HB6, Q_HS6, Q_P6, Q_Q6⟩
      refine steps_cons ?_ ?_
      · rintro b a w' ⟨ha, Q_HB6, Q_HS6, Q_P6, Q_Q6⟩ hb_ hon hoff
        refine ⟨_, rfl, fun K hK => ?_⟩
        have e69 : a.tmps[69]? = some ((.bool true)) := by rw [ha]; exact putSel_on (e := (19, 69, (.bool true))) 19 rfl rfl (hon 19 (by kernel_rfl)) rfl
        replace ha := Aside0.mk ha
        have HB6 := Aside0.mk Q_HB6
        have HS6 := Aside0.mk Q_HS6
        have P6 := Aside0.mk Q_P6
        have Q6 := Aside0.mk Q_Q6
        refine off_ (wanted_off rfl rfl rfl (e69.trans (by first | rfl | (simp [*]; done)))) ?_
        refine hK.out _ _ ⟨(by rw [ha.out]; exact putSel_upk 20 hb_ rfl rfl rfl), Q_HB6, Q_HS6, Q_P6, Q_Q6⟩
      refine steps_cons ?_ ?_
      · rintro b a w' ⟨ha, Q_HB6, Q_HS6, Q_P6, Q_Q6⟩ hb_ hon hoff
        refine ⟨_, rfl, fun K hK => ?_⟩
        have e69 : a.tmps[69]? = some ((.bool true)) := by rw [ha]; exact putSel_on (e := (19, 69, (.bool true))) 19 rfl rfl (hon 19 (by kernel_rfl)) rfl
        replace ha := Aside0.mk ha
        have HB6 := Aside0.mk Q_HB6
        have HS6 := Aside0.mk Q_HS6
        have P6 := Aside0.mk Q_P6
        have Q6 := Aside0.mk Q_Q6
        refine off_ (wanted_off rfl rfl rfl (e69.trans (by first | rfl | (simp [*]; done)))) ?_
        refine hK.out _ _ ⟨(by rw [ha.out]; exact putSel_upk 21 hb_ rfl rfl rfl), Q_HB6, Q_HS6, Q_P6, Q_Q6⟩
      refine steps_cons ?_ ?_
      · rintro b a w' ⟨ha, Q_HB6, Q_HS6, Q_P6, Q_Q6⟩ hb_ hon hoff
        refine ⟨_, rfl, fun K hK => ?_⟩
        have e69 : a.tmps[69]? = some ((.bool true)) := by rw [ha]; exact putSel_on (e := (19, 69, (.bool true))) 19 rfl rfl (hon 19 (by kernel_rfl)) rfl
        replace ha := Aside0.mk ha
        have HB6 := Aside0.mk Q_HB6
        have HS6 := Aside0.mk Q_HS6
        have P6 := Aside0.mk Q_P6
        have Q6 := Aside0.mk Q_Q6
        refine off_ (wanted_off rfl rfl rfl (e69.trans (by first | rfl | (simp [*]; done)))) ?_
        refine hK.out _ _ ⟨(by rw [ha.out]; exact putSel_upk 22 hb_ rfl rfl rfl), Q_HB6, Q_HS6, Q_P6, Q_Q6⟩
      refine steps_cons ?_ ?_
      · rintro b a w' ⟨ha, Q_HB6, Q_HS6, Q_P6, Q_Q6⟩ hb_ hon hoff
        refine ⟨_, rfl, fun K hK => ?_⟩
        have e69 : a.tmps[69]? = some ((.bool true)) := by rw [ha]; exact putSel_on (e := (19, 69, (.bool true))) 19 rfl rfl (hon 19 (by kernel_rfl)) rfl
        replace ha := Aside0.mk ha
        have HB6 := Aside0.mk Q_HB6
        have HS6 := Aside0.mk Q_HS6
        have P6 := Aside0.mk Q_P6
        have Q6 := Aside0.mk Q_Q6
        refine off_ (wanted_off rfl rfl rfl (e69.trans (by first | rfl | (simp [*]; done)))) ?_
        refine hK.out _ _ ⟨(by rw [ha.out]; exact putSel_upk 23 hb_ rfl rfl rfl), Q_HB6, Q_HS6, Q_P6, Q_Q6⟩
      refine steps_cons ?_ ?_
      · rintro b a w' ⟨ha, Q_HB6, Q_HS6, Q_P6, Q_Q6⟩ hb_ hon hoff
        refine ⟨_, rfl, fun K hK => ?_⟩
        have e69 : a.tmps[69]? = some ((.bool true)) := by rw [ha]; exact putSel_on (e := (19, 69, (.bool true))) 19 rfl rfl (hon 19 (by kernel_rfl)) rfl
        replace ha := Aside0.mk ha
        have HB6 := Aside0.mk Q_HB6
        have HS6 := Aside0.mk Q_HS6
        have P6 := Aside0.mk Q_P6
        have Q6 := Aside0.mk Q_Q6
        refine off_ (wanted_off rfl rfl rfl (e69.trans (by first | rfl | (simp [*]; done)))) ?_
        refine hK.out _ _ ⟨(by rw [ha.out]; exact putSel_upk 24 hb_ rfl rfl rfl), Q_HB6, Q_HS6, Q_P6, Q_Q6⟩
      refine steps_cons ?_ ?_
      · rintro b a w' ⟨ha, Q_HB6, Q_HS6, Q_P6, Q_Q6⟩ hb_ hon hoff
        refine ⟨_, rfl, fun K hK => ?_⟩
        have e69 : a.tmps[69]? = some ((.bool true)) := by rw [ha]; exact putSel_on (e := (19, 69, (.bool true))) 19 rfl rfl (hon 19 (by kernel_rfl)) rfl
        replace ha := Aside0.mk ha
        have HB6 := Aside0.mk Q_HB6
        have HS6 := Aside0.mk Q_HS6
        have P6 := Aside0.mk Q_P6
        have Q6 := Aside0.mk Q_Q6
        refine off_ (wanted_off rfl rfl rfl (e69.trans (by first | rfl | (simp [*]; done)))) ?_
        refine hK.out _ _ ⟨(by rw [ha.out]; exact putSel_upk 25 hb_ rfl rfl rfl), Q_HB6, Q_HS6, Q_P6, Q_Q6⟩
      refine steps_cons ?_ ?_
      · rintro b a w' ⟨ha, Q_HB6, Q_HS6, Q_P6, Q_Q6⟩ hb_ hon hoff
        refine ⟨_, rfl, fun K hK => ?_⟩
        have e69 : a.tmps[69]? = some ((.bool true)) := by rw [ha]; exact putSel_on (e := (19, 69, (.bool true))) 19 rfl rfl (hon 19 (by kernel_rfl)) rfl
        have e75 : a.tmps[75]? = some (undef) := by rw [ha]; exact putSel_on (e := (25, 75, undef)) 25 rfl rfl (hon 25 (by kernel_rfl)) rfl
        replace ha := Aside0.mk ha
        have HB6 := Aside0.mk Q_HB6
        have HS6 := Aside0.mk Q_HS6
        have P6 := Aside0.mk Q_P6
        have Q6 := Aside0.mk Q_Q6
        refine value_ (w1 := w') (v := (.bool true)) (by rfl) rfl ?_ ?_
        · go_simp
          (try simp only [i64_w])
          try rfl
        refine hK.out _ _ ⟨(by rw [ha.out]; exact putSel_upk 26 hb_ rfl rfl rfl), Q_HB6, Q_HS6, Q_P6, Q_Q6⟩
      exact steps_nil
    rintro b a w9 hall ⟨ha, Q_HB6, Q_HS6, Q_P6, Q_Q6⟩
    clear HB6 HS6 P6 Q6
    have hb0_ := hall 0 (by kernel_rfl)
    have hb1_ := hall 1 (by kernel_rfl)
    have hb2_ := hall 2 (by kernel_rfl)
    have hb3_ := hall 3 (by kernel_rfl)
    have hb4_ := hall 4 (by kernel_rfl)
    have hb5_ := hall 5 (by kernel_rfl)
    have hb6_ := hall 6 (by kernel_rfl)
    have hb7_ := hall 7 (by kernel_rfl)
    have hb8_ := hall 8 (by kernel_rfl)
    have hb9_ := hall 9 (by kernel_rfl)
    have hb10_ := hall 10 (by kernel_rfl)
    have hb11_ := hall 11 (by kernel_rfl)
    have hb12_ := hall 12 (by kernel_rfl)
    have hb13_ := hall 13 (by kernel_rfl)
    have hb14_ := hall 14 (by kernel_rfl)
    have hb15_ := hall 15 (by kernel_rfl)
    have hb16_ := hall 16 (by kernel_rfl)
    have hb17_ := hall 17 (by kernel_rfl)
    have hb18_ := hall 18 (by kernel_rfl)
    have hb19_ := hall 19 (by kernel_rfl)
    have hb20_ := hall 20 (by kernel_rfl)
    have hb21_ := hall 21 (by kernel_rfl)
    have hb22_ := hall 22 (by kernel_rfl)
    have hb23_ := hall 23 (by kernel_rfl)
    have hb24_ := hall 24 (by kernel_rfl)
    have hb25_ := hall 25 (by kernel_rfl)
    have hb26_ := hall 26 (by kernel_rfl)
    subst ha
    simp only [putSel, hb0_, hb1_, hb2_, hb3_, hb4_, hb5_, hb6_, hb7_, hb8_, hb9_, hb10_, hb11_, hb12_, hb13_, hb14_, hb15_, hb16_, hb17_, hb18_, hb19_, hb20_, hb21_, hb22_, hb23_, hb24_, hb25_, hb26_, if_true, Act.put, List.setIfInBounds_toArray, List.set_cons_zero, List.set_cons_succ]
    have HB6 := Aside0.mk Q_HB6
    clear Q_HB6
    have HS6 := Aside0.mk Q_HS6
    clear Q_HS6
    have P6 := Aside0.mk Q_P6
    clear Q_P6
    have Q6 := Aside0.mk Q_Q6
    clear Q_Q6
    clear hall hb0_ hb1_ hb2_ hb3_ hb4_ hb5_ hb6_ hb7_ hb8_ hb9_ hb10_ hb11_ hb12_ hb13_ hb14_ hb15_ hb16_ hb17_ hb18_ hb19_ hb20_ hb21_ hb22_ hb23_ hb24_ hb25_ hb26_
    have p0 : w9.cell? ⟨w.heap.size, 0, none⟩ = some (.int .i64 0) := by rw [cell_of_row w9 _ 0 _ _ _ P6.out]; rfl
    have p1 : w9.cell? ⟨w.heap.size, 1, none⟩ = some (.int .i64 0) := by rw [cell_of_row w9 _ 1 _ _ _ P6.out]; rfl
    have p2 : w9.cell? ⟨w.heap.size, 2, none⟩ = some (.int .i64 0) := by rw [cell_of_row w9 _ 2 _ _ _ P6.out]; rfl
    have p3 : w9.cell? ⟨w.heap.size, 3, none⟩ = some (.string ⟨#[]⟩) := by rw [cell_of_row w9 _ 3 _ _ _ P6.out]; rfl
    have f0 : w9.frozen? ⟨w.heap.size, 0, none⟩ = false := frozen_of_row w9 _ 0 _ _ P6.out
    have f1 : w9.frozen? ⟨w.heap.size, 1, none⟩ = false := frozen_of_row w9 _ 1 _ _ P6.out
    have f2 : w9.frozen? ⟨w.heap.size, 2, none⟩ = false := frozen_of_row w9 _ 2 _ _ P6.out
    have f3 : w9.frozen? ⟨w.heap.size, 3, none⟩ = false := frozen_of_row w9 _ 3 _ _ P6.out
    go_wp2_with fail
    refine bodyPost_ret (results_ct rfl _ _ w.heap.size 23 #[.int .i64 0, .int .i64 0, .int .i64 0, .string ⟨#[]⟩] (0, 0) _ rfl (pack_set P6.out) Try.underlying23 rfl (by kernel_rfl)) rfl ?_
    exact ⟨by rw [HGET.out]; rfl, below_set4 HB6.out (Nat.le_refl _) _ _ _ _⟩
  have zk : ((k : Int) == 0) = false := by simp; omega
  have yk : ¬ (k : Int) = 0 := by omega
  by_cases hm : m = 0
  · have HGET := Aside0.mk (HNO.out (.inr (.inr (.inr (hm)))))
    have zm : ((m : Int) == 0) = true := by simp; omega
    have ym : (m : Int) = 0 := by omega
    clear hm
    refine start_ (n := 27) (S := fun w' => True) (ds := []) #[false, false, false, false, false, false, false, false, false, false, false, false, false, false, false, false, false, false, false, false, false, false, false, false, false, false, false] (by kernel_rfl) rfl rfl trivial (fun hHeld => ?_); refine with_tabW rparse.tab6 rparse.bits6 (fun HT_ HW_ => ?_)
    refine inv_at [0, 1, 2, 3, 4, 5, 6, 7, 8, 9, 10, 11, 12, 13, 14, 15, 16, 17, 18, 19, 20, 21, 22, 23, 24, 25, 26] (fun a0_ b a w' => a = putSel a0_ b [(0, 50, (.int .i64 (i : Int))), (1, 51, (.bool false)), (2, 52, (.bool false)), (3, 53, (.int .i64 (j : Int))), (4, 54, (.bool false)), (5, 55, (.bool false)), (6, 56, (.bool false)), (7, 57, (.int .i64 (k : Int))), (8, 58, (.bool false)), (9, 59, (.bool false)), (10, 60, (.bool false)), (11, 61, (.int .i64 (m : Int))), (12, 62, (.bool true)), (13, 63, (.bool true)), (14, 64, (.bool true)), (15, 65, undef), (16, 66, undef), (17, 67, undef), (18, 68, (.bool true)), (19, 69, (.bool true)), (20, 70, undef), (21, 71, undef), (22, 72, undef), (23, 73, undef), (24, 74, undef), (25, 75, undef), (26, 76, (.bool true))] ∧ (Below w.heap.size w w') ∧ (Sl w' (.slice A l.length c) l) ∧ (w'.heap[w.heap.size]? = some (.cells #[.int .i64 0, .int .i64 0, .int .i64 0, .string ⟨#[]⟩] 23 (0, 0))) ∧ (w'.heap[w5.heap.size]? = some (.cells #[.int .i64 pe, .int .i64 ps, .int .i64 pa, .string pd] 23 (0, 0)))) HT_.out HW_.out (by kernel_rfl) (by kernel_rfl) ?_ ?_ ?_
    · exact ⟨by simp only [putSel, Bool.false_eq_true, if_false], below_drew1 HB6.out, HS6.out.drew, P6.out, Q6.out⟩
    · skip
      clear HB6 HS6 P6 Q6
      refine steps_cons ?_ ?_
      · rintro b a w' ⟨ha, Q_HB6, Q_HS6, Q_P6, Q_Q6⟩ hb_ hon hoff
        refine ⟨_, rfl, fun K hK => ?_⟩
        have e5 : a.tmps[5]? = some ((.int .i64 (i : Int))) := by rw [ha]; exact (putSel_off rfl).trans rfl
        replace ha := Aside0.mk ha
        have HB6 := Aside0.mk Q_HB6
        have HS6 := Aside0.mk Q_HS6
        have P6 := Aside0.mk Q_P6
        have Q6 := Aside0.mk Q_Q6
        refine value_ (w1 := w') (v := (.int .i64 (i : Int))) (by rfl) rfl ?_ ?_
        · go_simp
          (try simp only [i64_w])
          try rfl
        refine hK.out _ _ ⟨(by rw [ha.out]; exact putSel_upk 0 hb_ rfl rfl rfl), Q_HB6, Q_HS6, Q_P6, Q_Q6⟩
      refine steps_cons ?_ ?_
      · rintro b a w' ⟨ha, Q_HB6, Q_HS6, Q_P6, Q_Q6⟩ hb_ hon hoff
        refine ⟨_, rfl, fun K hK => ?_⟩
        have e50 : a.tmps[50]? = some ((.int .i64 (i : Int))) := by rw [ha]; exact putSel_on (e := (0, 50, (.int .i64 (i : Int)))) 0 rfl rfl (hon 0 (by kernel_rfl)) rfl
        replace ha := Aside0.mk ha
        have HB6 := Aside0.mk Q_HB6
        have HS6 := Aside0.mk Q_HS6
        have P6 := Aside0.mk Q_P6
        have Q6 := Aside0.mk Q_Q6
        refine value_ (w1 := w') (v := (.bool false)) (by rfl) rfl ?_ ?_
        · go_simp
          (try simp only [i64_w])
          try rfl
        refine hK.out _ _ ⟨(by rw [ha.out]; exact putSel_upk 1 hb_ rfl rfl rfl), Q_HB6, Q_HS6, Q_P6, Q_Q6⟩
      refine steps_cons ?_ ?_
      · rintro b a w' ⟨ha, Q_HB6, Q_HS6, Q_P6, Q_Q6⟩ hb_ hon hoff
        refine ⟨_, rfl, fun K hK => ?_⟩
        have e51 : a.tmps[51]? = some ((.bool false)) := by rw [ha]; exact putSel_on (e := (1, 51, (.bool false))) 1 rfl rfl (hon 1 (by kernel_rfl)) rfl
        replace ha := Aside0.mk ha
        have HB6 := Aside0.mk Q_HB6
        have HS6 := Aside0.mk Q_HS6
        have P6 := Aside0.mk Q_P6
        have Q6 := Aside0.mk Q_Q6
        refine value_ (w1 := w') (v := (.bool false)) (by rfl) rfl ?_ ?_
        · go_simp
          (try simp only [i64_w])
          try rfl
        refine hK.out _ _ ⟨(by rw [ha.out]; exact putSel_upk 2 hb_ rfl rfl rfl), Q_HB6, Q_HS6, Q_P6, Q_Q6⟩
      refine steps_cons ?_ ?_
      · rintro b a w' ⟨ha, Q_HB6, Q_HS6, Q_P6, Q_Q6⟩ hb_ hon hoff
        refine ⟨_, rfl, fun K hK => ?_⟩
        have e7 : a.tmps[7]? = some ((.int .i64 (j : Int))) := by rw [ha]; exact (putSel_off rfl).trans rfl
        have e52 : a.tmps[52]? = some ((.bool false)) := by rw [ha]; exact putSel_on (e := (2, 52, (.bool false))) 2 rfl rfl (hon 2 (by kernel_rfl)) rfl
        replace ha := Aside0.mk ha
        have HB6 := Aside0.mk Q_HB6
        have HS6 := Aside0.mk Q_HS6
        have P6 := Aside0.mk Q_P6
        have Q6 := Aside0.mk Q_Q6
        refine value_ (w1 := w') (v := (.int .i64 (j : Int))) (wanted_on rfl rfl rfl (e52.trans (by first | rfl | (simp [*]; done)))) rfl ?_ ?_
        · go_simp
          (try simp only [i64_w])
          try rfl
        refine hK.out _ _ ⟨(by rw [ha.out]; exact putSel_upk 3 hb_ rfl rfl rfl), Q_HB6, Q_HS6, Q_P6, Q_Q6⟩
      refine steps_cons ?_ ?_
      · rintro b a w' ⟨ha, Q_HB6, Q_HS6, Q_P6, Q_Q6⟩ hb_ hon hoff
        refine ⟨_, rfl, fun K hK => ?_⟩
        have e53 : a.tmps[53]? = some ((.int .i64 (j : Int))) := by rw [ha]; exact putSel_on (e := (3, 53, (.int .i64 (j : Int)))) 3 rfl rfl (hon 3 (by kernel_rfl)) rfl
        have e52 : a.tmps[52]? = some ((.bool false)) := by rw [ha]; exact putSel_on (e := (2, 52, (.bool false))) 2 rfl rfl (hon 2 (by kernel_rfl)) rfl
        replace ha := Aside0.mk ha
        have HB6 := Aside0.mk Q_HB6
        have HS6 := Aside0.mk Q_HS6
        have P6 := Aside0.mk Q_P6
        have Q6 := Aside0.mk Q_Q6
        refine value_ (w1 := w') (v := (.bool false)) (wanted_on rfl rfl rfl (e52.trans (by first | rfl | (simp [*]; done)))) rfl ?_ ?_
        · go_simp
          (try simp only [i64_w])
          try rfl
        refine hK.out _ _ ⟨(by rw [ha.out]; exact putSel_upk 4 hb_ rfl rfl rfl), Q_HB6, Q_HS6, Q_P6, Q_Q6⟩
      refine steps_cons ?_ ?_
      · rintro b a w' ⟨ha, Q_HB6, Q_HS6, Q_P6, Q_Q6⟩ hb_ hon hoff
        refine ⟨_, rfl, fun K hK => ?_⟩
        have e52 : a.tmps[52]? = some ((.bool false)) := by rw [ha]; exact putSel_on (e := (2, 52, (.bool false))) 2 rfl rfl (hon 2 (by kernel_rfl)) rfl
        have e54 : a.tmps[54]? = some ((.bool false)) := by rw [ha]; exact putSel_on (e := (4, 54, (.bool false))) 4 rfl rfl (hon 4 (by kernel_rfl)) rfl
        replace ha := Aside0.mk ha
        have HB6 := Aside0.mk Q_HB6
        have HS6 := Aside0.mk Q_HS6
        have P6 := Aside0.mk Q_P6
        have Q6 := Aside0.mk Q_Q6
        refine value_ (w1 := w') (v := (.bool false)) (by rfl) rfl ?_ ?_
        · go_simp
          (try simp only [i64_w])
          try rfl
        refine hK.out _ _ ⟨(by rw [ha.out]; exact putSel_upk 5 hb_ rfl rfl rfl), Q_HB6, Q_HS6, Q_P6, Q_Q6⟩
      refine steps_cons ?_ ?_
      · rintro b a w' ⟨ha, Q_HB6, Q_HS6, Q_P6, Q_Q6⟩ hb_ hon hoff
        refine ⟨_, rfl, fun K hK => ?_⟩
        have e55 : a.tmps[55]? = some ((.bool false)) := by rw [ha]; exact putSel_on (e := (5, 55, (.bool false))) 5 rfl rfl (hon 5 (by kernel_rfl)) rfl
        replace ha := Aside0.mk ha
        have HB6 := Aside0.mk Q_HB6
        have HS6 := Aside0.mk Q_HS6
        have P6 := Aside0.mk Q_P6
        have Q6 := Aside0.mk Q_Q6
        refine value_ (w1 := w') (v := (.bool false)) (by rfl) rfl ?_ ?_
        · go_simp
          (try simp only [i64_w])
          try rfl
        refine hK.out _ _ ⟨(by rw [ha.out]; exact putSel_upk 6 hb_ rfl rfl rfl), Q_HB6, Q_HS6, Q_P6, Q_Q6⟩
      refine steps_cons ?_ ?_
      · rintro b a w' ⟨ha, Q_HB6, Q_HS6, Q_P6, Q_Q6⟩ hb_ hon hoff
        refine ⟨_, rfl, fun K hK => ?_⟩
        have e9 : a.tmps[9]? = some ((.int .i64 (k : Int))) := by rw [ha]; exact (putSel_off rfl).trans rfl
        have e56 : a.tmps[56]? = some ((.bool false)) := by rw [ha]; exact putSel_on (e := (6, 56, (.bool false))) 6 rfl rfl (hon 6 (by kernel_rfl)) rfl
        replace ha := Aside0.mk ha
        have HB6 := Aside0.mk Q_HB6
        have HS6 := Aside0.mk Q_HS6
        have P6 := Aside0.mk Q_P6
        have Q6 := Aside0.mk Q_Q6
        refine value_ (w1 := w') (v := (.int .i64 (k : Int))) (wanted_on rfl rfl rfl (e56.trans (by first | rfl | (simp [*]; done)))) rfl ?_ ?_
        · go_simp
          (try simp only [i64_w])
          try rfl
        refine hK.out _ _ ⟨(by rw [ha.out]; exact putSel_upk 7 hb_ rfl rfl rfl), Q_HB6, Q_HS6, Q_P6, Q_Q6⟩
      refine steps_cons ?_ ?_
      · rintro b a w' ⟨ha, Q_HB6, Q_HS6, Q_P6, Q_Q6⟩ hb_ hon hoff
        refine ⟨_, rfl, fun K hK => ?_⟩
        have e57 : a.tmps[57]? = some ((.int .i64 (k : Int))) := by rw [ha]; exact putSel_on (e := (7, 57, (.int .i64 (k : Int)))) 7 rfl rfl (hon 7 (by kernel_rfl)) rfl
        have e56 : a.tmps[56]? = some ((.bool false)) := by rw [ha]; exact putSel_on (e := (6, 56, (.bool false))) 6 rfl rfl (hon 6 (by kernel_rfl)) rfl
        replace ha := Aside0.mk ha
        have HB6 := Aside0.mk Q_HB6
        have HS6 := Aside0.mk Q_HS6
        have P6 := Aside0.mk Q_P6
        have Q6 := Aside0.mk Q_Q6
        refine value_ (w1 := w') (v := (.bool false)) (wanted_on rfl rfl rfl (e56.trans (by first | rfl | (simp [*]; done)))) rfl ?_ ?_
        · go_simp
          (try simp only [i64_w])
          try rfl
        refine hK.out _ _ ⟨(by rw [ha.out]; exact putSel_upk 8 hb_ rfl rfl rfl), Q_HB6, Q_HS6, Q_P6, Q_Q6⟩
      refine steps_cons ?_ ?_
      · rintro b a w' ⟨ha, Q_HB6, Q_HS6, Q_P6, Q_Q6⟩ hb_ hon hoff
        refine ⟨_, rfl, fun K hK => ?_⟩
        have e56 : a.tmps[56]? = some ((.bool false)) := by rw [ha]; exact putSel_on (e := (6, 56, (.bool false))) 6 rfl rfl (hon 6 (by kernel_rfl)) rfl
        have e58 : a.tmps[58]? = some ((.bool false)) := by rw [ha]; exact putSel_on (e := (8, 58, (.bool false))) 8 rfl rfl (hon 8 (by kernel_rfl)) rfl
        replace ha := Aside0.mk ha
        have HB6 := Aside0.mk Q_HB6
        have HS6 := Aside0.mk Q_HS6
        have P6 := Aside0.mk Q_P6
        have Q6 := Aside0.mk Q_Q6
        refine value_ (w1 := w') (v := (.bool false)) (by rfl) rfl ?_ ?_
        · go_simp
          (try simp only [i64_w])
          try rfl
        refine hK.out _ _ ⟨(by rw [ha.out]; exact putSel_upk 9 hb_ rfl rfl rfl), Q_HB6, Q_HS6, Q_P6, Q_Q6⟩
      refine steps_cons ?_ ?_
      · rintro b a w' ⟨ha, Q_HB6, Q_HS6, Q_P6, Q_Q6⟩ hb_ hon hoff
        refine ⟨_, rfl, fun K hK => ?_⟩
        have e59 : a.tmps[59]? = some ((.bool false)) := by rw [ha]; exact putSel_on (e := (9, 59, (.bool false))) 9 rfl rfl (hon 9 (by kernel_rfl)) rfl
        replace ha := Aside0.mk ha
        have HB6 := Aside0.mk Q_HB6
        have HS6 := Aside0.mk Q_HS6
        have P6 := Aside0.mk Q_P6
        have Q6 := Aside0.mk Q_Q6
        refine value_ (w1 := w') (v := (.bool false)) (by rfl) rfl ?_ ?_
        · go_simp
          (try simp only [i64_w])
          try rfl
        refine hK.out _ _ ⟨(by rw [ha.out]; exact putSel_upk 10 hb_ rfl rfl rfl), Q_HB6, Q_HS6, Q_P6, Q_Q6⟩
      refine steps_cons ?_ ?_
      · rintro b a w' ⟨ha, Q_HB6, Q_HS6, Q_P6, Q_Q6⟩ hb_ hon hoff
        refine ⟨_, rfl, fun K hK => ?_⟩
        have e11 : a.tmps[11]? = some ((.int .i64 (m : Int))) := by rw [ha]; exact (putSel_off rfl).trans rfl
        have e60 : a.tmps[60]? = some ((.bool false)) := by rw [ha]; exact putSel_on (e := (10, 60, (.bool false))) 10 rfl rfl (hon 10 (by kernel_rfl)) rfl
        replace ha := Aside0.mk ha
        have HB6 := Aside0.mk Q_HB6
        have HS6 := Aside0.mk Q_HS6
        have P6 := Aside0.mk Q_P6
        have Q6 := Aside0.mk Q_Q6
        refine value_ (w1 := w') (v := (.int .i64 (m : Int))) (wanted_on rfl rfl rfl (e60.trans (by first | rfl | (simp [*]; done)))) rfl ?_ ?_
        · go_simp
          (try simp only [i64_w])
          try rfl
        refine hK.out _ _ ⟨(by rw [ha.out]; exact putSel_upk 11 hb_ rfl rfl rfl), Q_HB6, Q_HS6, Q_P6, Q_Q6⟩
      refine steps_cons ?_ ?_
      · rintro b a w' ⟨ha, Q_HB6, Q_HS6, Q_P6, Q_Q6⟩ hb_ hon hoff
        refine ⟨_, rfl, fun K hK => ?_⟩
        have e61 : a.tmps[61]? = some ((.int .i64 (m : Int))) := by rw [ha]; exact putSel_on (e := (11, 61, (.int .i64 (m : Int)))) 11 rfl rfl (hon 11 (by kernel_rfl)) rfl
        have e60 : a.tmps[60]? = some ((.bool false)) := by rw [ha]; exact putSel_on (e := (10, 60, (.bool false))) 10 rfl rfl (hon 10 (by kernel_rfl)) rfl
        replace ha := Aside0.mk ha
        have HB6 := Aside0.mk Q_HB6
        have HS6 := Aside0.mk Q_HS6
        have P6 := Aside0.mk Q_P6
        have Q6 := Aside0.mk Q_Q6
        refine value_ (w1 := w') (v := (.bool true)) (wanted_on rfl rfl rfl (e60.trans (by first | rfl | (simp [*]; done)))) rfl ?_ ?_
        · go_simp
          (try simp only [i64_w])
          try rfl
        refine hK.out _ _ ⟨(by rw [ha.out]; exact putSel_upk 12 hb_ rfl rfl rfl), Q_HB6, Q_HS6, Q_P6, Q_Q6⟩
      refine steps_cons ?_ ?_
      · rintro b a w' ⟨ha, Q_HB6, Q_HS6, Q_P6, Q_Q6⟩ hb_ hon hoff
        refine ⟨_, rfl, fun K hK => ?_⟩
        have e60 : a.tmps[60]? = some ((.bool false)) := by rw [ha]; exact putSel_on (e := (10, 60, (.bool false))) 10 rfl rfl (hon 10 (by kernel_rfl)) rfl
        have e62 : a.tmps[62]? = some ((.bool true)) := by rw [ha]; exact putSel_on (e := (12, 62, (.bool true))) 12 rfl rfl (hon 12 (by kernel_rfl)) rfl
        replace ha := Aside0.mk ha
        have HB6 := Aside0.mk Q_HB6
        have HS6 := Aside0.mk Q_HS6
        have P6 := Aside0.mk Q_P6
        have Q6 := Aside0.mk Q_Q6
        refine value_ (w1 := w') (v := (.bool true)) (by rfl) rfl ?_ ?_
        · go_simp
          (try simp only [i64_w])
          try rfl
        refine hK.out _ _ ⟨(by rw [ha.out]; exact putSel_upk 13 hb_ rfl rfl rfl), Q_HB6, Q_HS6, Q_P6, Q_Q6⟩
      refine steps_cons ?_ ?_
      · rintro b a w' ⟨ha, Q_HB6, Q_HS6, Q_P6, Q_Q6⟩ hb_ hon hoff
        refine ⟨_, rfl, fun K hK => ?_⟩
        have e63 : a.tmps[63]? = some ((.bool true)) := by rw [ha]; exact putSel_on (e := (13, 63, (.bool true))) 13 rfl rfl (hon 13 (by kernel_rfl)) rfl
        replace ha := Aside0.mk ha
        have HB6 := Aside0.mk Q_HB6
        have HS6 := Aside0.mk Q_HS6
        have P6 := Aside0.mk Q_P6
        have Q6 := Aside0.mk Q_Q6
        refine value_ (w1 := w') (v := (.bool true)) (by rfl) rfl ?_ ?_
        · go_simp
          (try simp only [i64_w])
          try rfl
        refine hK.out _ _ ⟨(by rw [ha.out]; exact putSel_upk 14 hb_ rfl rfl rfl), Q_HB6, Q_HS6, Q_P6, Q_Q6⟩
      refine steps_cons ?_ ?_
      · rintro b a w' ⟨ha, Q_HB6, Q_HS6, Q_P6, Q_Q6⟩ hb_ hon hoff
        refine ⟨_, rfl, fun K hK => ?_⟩
        have e64 : a.tmps[64]? = some ((.bool true)) := by rw [ha]; exact putSel_on (e := (14, 64, (.bool true))) 14 rfl rfl (hon 14 (by kernel_rfl)) rfl
        replace ha := Aside0.mk ha
        have HB6 := Aside0.mk Q_HB6
        have HS6 := Aside0.mk Q_HS6
        have P6 := Aside0.mk Q_P6
        have Q6 := Aside0.mk Q_Q6
        refine off_ (wanted_off rfl rfl rfl (e64.trans (by first | rfl | (simp [*]; done)))) ?_
        refine hK.out _ _ ⟨(by rw [ha.out]; exact putSel_upk 15 hb_ rfl rfl rfl), Q_HB6, Q_HS6, Q_P6, Q_Q6⟩
      refine steps_cons ?_ ?_
      · rintro b a w' ⟨ha, Q_HB6, Q_HS6, Q_P6, Q_Q6⟩ hb_ hon hoff
        refine ⟨_, rfl, fun K hK => ?_⟩
        have e64 : a.tmps[64]? = some ((.bool true)) := by rw [ha]; exact putSel_on (e := (14, 64, (.bool true))) 14 rfl rfl (hon 14 (by kernel_rfl)) rfl
        replace ha := Aside0.mk ha
        have HB6 := Aside0.mk Q_HB6
        have HS6 := Aside0.mk Q_HS6
        have P6 := Aside0.mk Q_P6
        have Q6 := Aside0.mk Q_Q6
        refine off_ (wanted_off rfl rfl rfl (e64.trans (by first | rfl | (simp [*]; done)))) ?_
        refine hK.out _ _ ⟨(by rw [ha.out]; exact putSel_upk 16 hb_ rfl rfl rfl), Q_HB6, Q_HS6, Q_P6, Q_Q6⟩
      refine steps_cons ?_ ?_
      · rintro b a w' ⟨ha, Q_HB6, Q_HS6, Q_P6, Q_Q6⟩ hb_ hon hoff
        refine ⟨_, rfl, fun K hK => ?_⟩
        have e64 : a.tmps[64]? = some ((.bool true)) := by rw [ha]; exact putSel_on (e := (14, 64, (.bool true))) 14 rfl rfl (hon 14 (by kernel_rfl)) rfl
        replace ha := Aside0.mk ha
        have HB6 := Aside0.mk Q_HB6
        have HS6 := Aside0.mk Q_HS6
        have P6 := Aside0.mk Q_P6
        have Q6 := Aside0.mk Q_Q6
        refine off_ (wanted_off rfl rfl rfl (e64.trans (by first | rfl | (simp [*]; done)))) ?_
        refine hK.out _ _ ⟨(by rw [ha.out]; exact putSel_upk 17 hb_ rfl rfl rfl), Q_HB6, Q_HS6, Q_P6, Q_Q6⟩
      refine steps_cons ?_ ?_
      · rintro b a w' ⟨ha, Q_HB6, Q_HS6, Q_P6, Q_Q6⟩ hb_ hon hoff
        refine ⟨_, rfl, fun K hK => ?_⟩
        have e64 : a.tmps[64]? = some ((.bool true)) := by rw [ha]; exact putSel_on (e := (14, 64, (.bool true))) 14 rfl rfl (hon 14 (by kernel_rfl)) rfl
        have e67 : a.tmps[67]? = some (undef) := by rw [ha]; exact putSel_on (e := (17, 67, undef)) 17 rfl rfl (hon 17 (by kernel_rfl)) rfl
        replace ha := Aside0.mk ha
        have HB6 := Aside0.mk Q_HB6
        have HS6 := Aside0.mk Q_HS6
        have P6 := Aside0.mk Q_P6
        have Q6 := Aside0.mk Q_Q6
        refine value_ (w1 := w') (v := (.bool true)) (by rfl) rfl ?_ ?_
        · go_simp
          (try simp only [i64_w])
          try rfl
        refine hK.out _ _ ⟨(by rw [ha.out]; exact putSel_upk 18 hb_ rfl rfl rfl), Q_HB6, Q_HS6, Q_P6, Q_Q6⟩
      refine steps_cons ?_ ?_
      · rintro b a w' ⟨ha, Q_HB6, Q_HS6, Q_P6, Q_Q6⟩ hb_ hon hoff
        refine ⟨_, rfl, fun K hK => ?_⟩
        have e68 : a.tmps[68]? = some ((.bool true)) := by rw [ha]; exact putSel_on (e := (18, 68, (.bool true))) 18 rfl rfl (hon 18 (by kernel_rfl)) rfl
        replace ha := Aside0.mk ha
        have HB6 := Aside0.mk Q_HB6
        have HS6 := Aside0.mk Q_HS6
        have P6 := Aside0.mk Q_P6
        have Q6 := Aside0.mk Q_Q6
        refine value_ (w1 := w') (v := (.bool true)) (by rfl) rfl ?_ ?_
        · go_simp
          (try simp only [i64_w])
          try rfl
        refine hK.out _ _ ⟨(by rw [ha.out]; exact putSel_upk 19 hb_ rfl rfl rfl), Q_HB6, Q_HS6, Q_P6, Q_Q6⟩
      refine steps_cons ?_ ?_
      · rintro b a w' ⟨ha, Q_HB6, Q_HS6, Q_P6, Q_Q6⟩ hb_ hon hoff
        refine ⟨_, rfl, fun K hK => ?_⟩
        have e69 : a.tmps[69]? = some ((.bool true)) := by rw [ha]; exact putSel_on (e := (19, 69, (.bool true))) 19 rfl rfl (hon 19 (by kernel_rfl)) rfl
        replace ha := Aside0.mk ha
        have HB6 := Aside0.mk Q_HB6
        have HS6 := Aside0.mk Q_HS6
        have P6 := Aside0.mk Q_P6
        have Q6 := Aside0.mk Q_Q6
        refine off_ (wanted_off rfl rfl rfl (e69.trans (by first | rfl | (simp [*]; done)))) ?_
        refine hK.out _ _ ⟨(by rw [ha.out]; exact putSel_upk 20 hb_ rfl rfl rfl), Q_HB6, Q_HS6, Q_P6, Q_Q6⟩
      refine steps_cons ?_ ?_
      · rintro b a w' ⟨ha, Q_HB6, Q_HS6, Q_P6, Q_Q6⟩ hb_ hon hoff
        refine ⟨_, rfl, fun K hK => ?_⟩
        have e69 : a.tmps[69]? = some ((.bool true)) := by rw [ha]; exact putSel_on (e := (19, 69, (.bool true))) 19 rfl rfl (hon 19 (by kernel_rfl)) rfl
        replace ha := Aside0.mk ha
        have HB6 := Aside0.mk Q_HB6
        have HS6 := Aside0.mk Q_HS6
        have P6 := Aside0.mk Q_P6
        have Q6 := Aside0.mk Q_Q6
        refine off_ (wanted_off rfl rfl rfl (e69.trans (by first | rfl | (simp [*]; done)))) ?_
        refine hK.out _ _ ⟨(by rw [ha.out]; exact putSel_upk 21 hb_ rfl rfl rfl), Q_HB6, Q_HS6, Q_P6, Q_Q6⟩
      refine steps_cons ?_ ?_
      · rintro b a w' ⟨ha, Q_HB6, Q_HS6, Q_P6, Q_Q6⟩ hb_ hon hoff
        refine ⟨_, rfl, fun K hK => ?_⟩
        have e69 : a.tmps[69]? = some ((.bool true)) := by rw [ha]; exact putSel_on (e := (19, 69, (.bool true))) 19 rfl rfl (hon 19 (by kernel_rfl)) rfl
        replace ha := Aside0.mk ha
        have HB6 := Aside0.mk Q_HB6
        have HS6 := Aside0.mk Q_HS6
        have P6 := Aside0.mk Q_P6
        have Q6 := Aside0.mk Q_Q6
        refine off_ (wanted_off rfl rfl rfl (e69.trans (by first | rfl | (simp [*]; done)))) ?_
        refine hK.out _ _ ⟨(by rw [ha.out]; exact putSel_upk 22 hb_ rfl rfl rfl), Q_HB6, Q_HS6, Q_P6, Q_Q6⟩
      refine steps_cons ?_ ?_
      · rintro b a w' ⟨ha, Q_HB6, Q_HS6, Q_P6, Q_Q6⟩ hb_ hon hoff
        refine ⟨_, rfl, fun K hK => ?_⟩
        have e69 : a.tmps[69]? = some ((.bool true)) := by rw [ha]; exact putSel_on (e := (19, 69, (.bool true))) 19 rfl rfl (hon 19 (by kernel_rfl)) rfl
        replace ha := Aside0.mk ha
        have HB6 := Aside0.mk Q_HB6
        have HS6 := Aside0.mk Q_HS6
        have P6 := Aside0.mk Q_P6
        have Q6 := Aside0.mk Q_Q6
        refine off_ (wanted_off rfl rfl rfl (e69.trans (by first | rfl | (simp [*]; done)))) ?_
        refine hK.out _ _ ⟨(by rw [ha.out]; exact putSel_upk 23 hb_ rfl rfl rfl), Q_HB6, Q_HS6, Q_P6, Q_Q6⟩
      refine steps_cons ?_ ?_
      · rintro b a w' ⟨ha, Q_HB6, Q_HS6, Q_P6, Q_Q6⟩ hb_ hon hoff
        refine ⟨_, rfl, fun K hK => ?_⟩
        have e69 : a.tmps[69]? = some ((.bool true)) := by rw [ha]; exact putSel_on (e := (19, 69, (.bool true))) 19 rfl rfl (hon 19 (by kernel_rfl)) rfl
        replace ha := Aside0.mk ha
        have HB6 := Aside0.mk Q_HB6
        have HS6 := Aside0.mk Q_HS6
        have P6 := Aside0.mk Q_P6
        have Q6 := Aside0.mk Q_Q6
        refine off_ (wanted_off rfl rfl rfl (e69.trans (by first | rfl | (simp [*]; done)))) ?_
        refine hK.out _ _ ⟨(by rw [ha.out]; exact putSel_upk 24 hb_ rfl rfl rfl), Q_HB6, Q_HS6, Q_P6, Q_Q6⟩
      refine steps_cons ?_ ?_
      · rintro b a w' ⟨ha, Q_HB6, Q_HS6, Q_P6, Q_Q6⟩ hb_ hon hoff
        refine ⟨_, rfl, fun K hK => ?_⟩
        have e69 : a.tmps[69]? = some ((.bool true)) := by rw [ha]; exact putSel_on (e := (19, 69, (.bool true))) 19 rfl rfl (hon 19 (by kernel_rfl)) rfl
        replace ha := Aside0.mk ha
        have HB6 := Aside0.mk Q_HB6
        have HS6 := Aside0.mk Q_HS6
        have P6 := Aside0.mk Q_P6
        have Q6 := Aside0.mk Q_Q6
        refine off_ (wanted_off rfl rfl rfl (e69.trans (by first | rfl | (simp [*]; done)))) ?_
        refine hK.out _ _ ⟨(by rw [ha.out]; exact putSel_upk 25 hb_ rfl rfl rfl), Q_HB6, Q_HS6, Q_P6, Q_Q6⟩
      refine steps_cons ?_ ?_
      · rintro b a w' ⟨ha, Q_HB6, Q_HS6, Q_P6, Q_Q6⟩ hb_ hon hoff
        refine ⟨_, rfl, fun K hK => ?_⟩
        have e69 : a.tmps[69]? = some ((.bool true)) := by rw [ha]; exact putSel_on (e := (19, 69, (.bool true))) 19 rfl rfl (hon 19 (by kernel_rfl)) rfl
        have e75 : a.tmps[75]? = some (undef) := by rw [ha]; exact putSel_on (e := (25, 75, undef)) 25 rfl rfl (hon 25 (by kernel_rfl)) rfl
        replace ha := Aside0.mk ha
        have HB6 := Aside0.mk Q_HB6
        have HS6 := Aside0.mk Q_HS6
        have P6 := Aside0.mk Q_P6
        have Q6 := Aside0.mk Q_Q6
        refine value_ (w1 := w') (v := (.bool true)) (by rfl) rfl ?_ ?_
        · go_simp
          (try simp only [i64_w])
          try rfl
        refine hK.out _ _ ⟨(by rw [ha.out]; exact putSel_upk 26 hb_ rfl rfl rfl), Q_HB6, Q_HS6, Q_P6, Q_Q6⟩
      exact steps_nil
    rintro b a w9 hall ⟨ha, Q_HB6, Q_HS6, Q_P6, Q_Q6⟩
    clear HB6 HS6 P6 Q6
    have hb0_ := hall 0 (by kernel_rfl)
    have hb1_ := hall 1 (by kernel_rfl)
    have hb2_ := hall 2 (by kernel_rfl)
    have hb3_ := hall 3 (by kernel_rfl)
    have hb4_ := hall 4 (by kernel_rfl)
    have hb5_ := hall 5 (by kernel_rfl)
    have hb6_ := hall 6 (by kernel_rfl)
    have hb7_ := hall 7 (by kernel_rfl)
    have hb8_ := hall 8 (by kernel_rfl)
    have hb9_ := hall 9 (by kernel_rfl)
    have hb10_ := hall 10 (by kernel_rfl)
    have hb11_ := hall 11 (by kernel_rfl)
    have hb12_ := hall 12 (by kernel_rfl)
    have hb13_ := hall 13 (by kernel_rfl)
    have hb14_ := hall 14 (by kernel_rfl)
    have hb15_ := hall 15 (by kernel_rfl)
    have hb16_ := hall 16 (by kernel_rfl)
    have hb17_ := hall 17 (by kernel_rfl)
    have hb18_ := hall 18 (by kernel_rfl)
    have hb19_ := hall 19 (by kernel_rfl)
    have hb20_ := hall 20 (by kernel_rfl)
    have hb21_ := hall 21 (by kernel_rfl)
    have hb22_ := hall 22 (by kernel_rfl)
    have hb23_ := hall 23 (by kernel_rfl)
    have hb24_ := hall 24 (by kernel_rfl)
    have hb25_ := hall 25 (by kernel_rfl)
    have hb26_ := hall 26 (by kernel_rfl)
    subst ha
    simp only [putSel, hb0_, hb1_, hb2_, hb3_, hb4_, hb5_, hb6_, hb7_, hb8_, hb9_, hb10_, hb11_, hb12_, hb13_, hb14_, hb15_, hb16_, hb17_, hb18_, hb19_, hb20_, hb21_, hb22_, hb23_, hb24_, hb25_, hb26_, if_true, Act.put, List.setIfInBounds_toArray, List.set_cons_zero, List.set_cons_succ]
    have HB6 := Aside0.mk Q_HB6
    clear Q_HB6
    have HS6 := Aside0.mk Q_HS6
    clear Q_HS6
    have P6 := Aside0.mk Q_P6
    clear Q_P6
    have Q6 := Aside0.mk Q_Q6
    clear Q_Q6
    clear hall hb0_ hb1_ hb2_ hb3_ hb4_ hb5_ hb6_ hb7_ hb8_ hb9_ hb10_ hb11_ hb12_ hb13_ hb14_ hb15_ hb16_ hb17_ hb18_ hb19_ hb20_ hb21_ hb22_ hb23_ hb24_ hb25_ hb26_
    have p0 : w9.cell? ⟨w.heap.size, 0, none⟩ = some (.int .i64 0) := by rw [cell_of_row w9 _ 0 _ _ _ P6.out]; rfl
    have p1 : w9.cell? ⟨w.heap.size, 1, none⟩ = some (.int .i64 0) := by rw [cell_of_row w9 _ 1 _ _ _ P6.out]; rfl
    have p2 : w9.cell? ⟨w.heap.size, 2, none⟩ = some (.int .i64 0) := by rw [cell_of_row w9 _ 2 _ _ _ P6.out]; rfl
    have p3 : w9.cell? ⟨w.heap.size, 3, none⟩ = some (.string ⟨#[]⟩) := by rw [cell_of_row w9 _ 3 _ _ _ P6.out]; rfl
    have f0 : w9.frozen? ⟨w.heap.size, 0, none⟩ = false := frozen_of_row w9 _ 0 _ _ P6.out
    have f1 : w9.frozen? ⟨w.heap.size, 1, none⟩ = false := frozen_of_row w9 _ 1 _ _ P6.out
    have f2 : w9.frozen? ⟨w.heap.size, 2, none⟩ = false := frozen_of_row w9 _ 2 _ _ P6.out
    have f3 : w9.frozen? ⟨w.heap.size, 3, none⟩ = false := frozen_of_row w9 _ 3 _ _ P6.out
    go_wp2_with fail
    refine bodyPost_ret (results_ct rfl _ _ w.heap.size 23 #[.int .i64 0, .int .i64 0, .int .i64 0, .string ⟨#[]⟩] (0, 0) _ rfl (pack_set P6.out) Try.underlying23 rfl (by kernel_rfl)) rfl ?_
    exact ⟨by rw [HGET.out]; rfl, below_set4 HB6.out (Nat.le_refl _) _ _ _ _⟩
  have zm : ((m : Int) == 0) = false := by simp; omega
  have ym : ¬ (m : Int) = 0 := by omega
  have HY := Aside0.mk (HYES.out hi hj hk hm)
  clear hi hj hk hm HYES HNO
  have hgd := nRefGood ⟨pe, ps, pa, pd⟩
  unfold Pk.val at hgd
  simp only at hgd
  cases hgp : good ⟨pe, ps, pa, pd⟩ with
  | false =>
    have HGET := Aside0.mk (show parse l = none by rw [HY.out, if_neg]; intro h; rw [hgp] at h; cases h.1)
    rw [hgp] at hgd
    have HGD := Aside0.mk hgd
    clear hgp hgd
    refine start_ (n := 27) (S := fun w' => True) (ds := []) #[false, false, false, false, false, false, false, false, false, false, false, false, false, false, false, false, false, false, false, false, false, false, false, false, false, false, false] (by kernel_rfl) rfl rfl trivial (fun hHeld => ?_); refine with_tabW rparse.tab6 rparse.bits6 (fun HT_ HW_ => ?_)
    refine inv_at [0, 1, 2, 3, 4, 5, 6, 7, 8, 9, 10, 11, 12, 13, 14, 15, 16, 17, 18, 19, 20, 21, 22, 23, 24, 25, 26] (fun a0_ b a w' => a = putSel a0_ b [(0, 50, (.int .i64 (i : Int))), (1, 51, (.bool false)), (2, 52, (.bool false)), (3, 53, (.int .i64 (j : Int))), (4, 54, (.bool false)), (5, 55, (.bool false)), (6, 56, (.bool false)), (7, 57, (.int .i64 (k : Int))), (8, 58, (.bool false)), (9, 59, (.bool false)), (10, 60, (.bool false)), (11, 61, (.int .i64 (m : Int))), (12, 62, (.bool false)), (13, 63, (.bool false)), (14, 64, (.bool false)), (15, 65, (.agg #[.int .i64 pe, .int .i64 ps, .int .i64 pa, .string pd])), (16, 66, (.bool false)), (17, 67, (.bool true)), (18, 68, (.bool true)), (19, 69, (.bool true)), (20, 70, undef), (21, 71, undef), (22, 72, undef), (23, 73, undef), (24, 74, undef), (25, 75, undef), (26, 76, (.bool true))] ∧ (Below w.heap.size w w') ∧ (Sl w' (.slice A l.length c) l) ∧ (w'.heap[w.heap.size]? = some (.cells #[.int .i64 0, .int .i64 0, .int .i64 0, .string ⟨#[]⟩] 23 (0, 0))) ∧ (w'.heap[w5.heap.size]? = some (.cells #[.int .i64 pe, .int .i64 ps, .int .i64 pa, .string pd] 23 (0, 0)))) HT_.out HW_.out (by kernel_rfl) (by kernel_rfl) ?_ ?_ ?_
    · exact ⟨by simp only [putSel, Bool.false_eq_true, if_false], below_drew1 HB6.out, HS6.out.drew, P6.out, Q6.out⟩
    · skip
      clear HB6 HS6 P6 Q6
      refine steps_cons ?_ ?_
      · rintro b a w' ⟨ha, Q_HB6, Q_HS6, Q_P6, Q_Q6⟩ hb_ hon hoff
        refine ⟨_, rfl, fun K hK => ?_⟩
        have e5 : a.tmps[5]? = some ((.int .i64 (i : Int))) := by rw [ha]; exact (putSel_off rfl).trans rfl
        replace ha := Aside0.mk ha
        have HB6 := Aside0.mk Q_HB6
        have HS6 := Aside0.mk Q_HS6
        have P6 := Aside0.mk Q_P6
        have Q6 := Aside0.mk Q_Q6
        refine value_ (w1 := w') (v := (.int .i64 (i : Int))) (by rfl) rfl ?_ ?_
        · go_simp
          (try simp only [i64_w])
          try rfl
        refine hK.out _ _ ⟨(by rw [ha.out]; exact putSel_upk 0 hb_ rfl rfl rfl), Q_HB6, Q_HS6, Q_P6, Q_Q6⟩
      refine steps_cons ?_ ?_
      · rintro b a w' ⟨ha, Q_HB6, Q_HS6, Q_P6, Q_Q6⟩ hb_ hon hoff
        refine ⟨_, rfl, fun K hK => ?_⟩
        have e50 : a.tmps[50]? = some ((.int .i64 (i : Int))) := by rw [ha]; exact putSel_on (e := (0, 50, (.int .i64 (i : Int)))) 0 rfl rfl (hon 0 (by kernel_rfl)) rfl
        replace ha := Aside0.mk ha
        have HB6 := Aside0.mk Q_HB6
        have HS6 := Aside0.mk Q_HS6
        have P6 := Aside0.mk Q_P6
        have Q6 := Aside0.mk Q_Q6
        refine value_ (w1 := w') (v := (.bool false)) (by rfl) rfl ?_ ?_
        · go_simp
          (try simp only [i64_w])
          try rfl
        refine hK.out _ _ ⟨(by rw [ha.out]; exact putSel_upk 1 hb_ rfl rfl rfl), Q_HB6, Q_HS6, Q_P6, Q_Q6⟩
      refine steps_cons ?_ ?_
      · rintro b a w' ⟨ha, Q_HB6, Q_HS6, Q_P6, Q_Q6⟩ hb_ hon hoff
        refine ⟨_, rfl, fun K hK => ?_⟩
        have e51 : a.tmps[51]? = some ((.bool false)) := by rw [ha]; exact putSel_on (e := (1, 51, (.bool false))) 1 rfl rfl (hon 1 (by kernel_rfl)) rfl
        replace ha := Aside0.mk ha
        have HB6 := Aside0.mk Q_HB6
        have HS6 := Aside0.mk Q_HS6
        have P6 := Aside0.mk Q_P6
        have Q6 := Aside0.mk Q_Q6
        refine value_ (w1 := w') (v := (.bool false)) (by rfl) rfl ?_ ?_
        · go_simp
          (try simp only [i64_w])
          try rfl
        refine hK.out _ _ ⟨(by rw [ha.out]; exact putSel_upk 2 hb_ rfl rfl rfl), Q_HB6, Q_HS6, Q_P6, Q_Q6⟩
      refine steps_cons ?_ ?_
      · rintro b a w' ⟨ha, Q_HB6, Q_HS6, Q_P6, Q_Q6⟩ hb_ hon hoff
        refine ⟨_, rfl, fun K hK => ?_⟩
        have e7 : a.tmps[7]? = some ((.int .i64 (j : Int))) := by rw [ha]; exact (putSel_off rfl).trans rfl
        have e52 : a.tmps[52]? = some ((.bool false)) := by rw [ha]; exact putSel_on (e := (2, 52, (.bool false))) 2 rfl rfl (hon 2 (by kernel_rfl)) rfl
        replace ha := Aside0.mk ha
        have HB6 := Aside0.mk Q_HB6
        have HS6 := Aside0.mk Q_HS6
        have P6 := Aside0.mk Q_P6
        have Q6 := Aside0.mk Q_Q6
        refine value_ (w1 := w') (v := (.int .i64 (j : Int))) (wanted_on rfl rfl rfl (e52.trans (by first | rfl | (simp [*]; done)))) rfl ?_ ?_
        · go_simp
          (try simp only [i64_w])
          try rfl
        refine hK.out _ _ ⟨(by rw [ha.out]; exact putSel_upk 3 hb_ rfl rfl rfl), Q_HB6, Q_HS6, Q_P6, Q_Q6⟩
      refine steps_cons ?_ ?_
      · rintro b a w' ⟨ha, Q_HB6, Q_HS6, Q_P6, Q_Q6⟩ hb_ hon hoff
        refine ⟨_, rfl, fun K hK => ?_⟩
        have e53 : a.tmps[53]? = some ((.int .i64 (j : Int))) := by rw [ha]; exact putSel_on (e := (3, 53, (.int .i64 (j : Int)))) 3 rfl rfl (hon 3 (by kernel_rfl)) rfl
        have e52 : a.tmps[52]? = some ((.bool false)) := by rw [ha]; exact putSel_on (e := (2, 52, (.bool false))) 2 rfl rfl (hon 2 (by kernel_rfl)) rfl
        replace ha := Aside0.mk ha
        have HB6 := Aside0.mk Q_HB6
        have HS6 := Aside0.mk Q_HS6
        have P6 := Aside0.mk Q_P6
        have Q6 := Aside0.mk Q_Q6
        refine value_ (w1 := w') (v := (.bool false)) (wanted_on rfl rfl rfl (e52.trans (by first | rfl | (simp [*]; done)))) rfl ?_ ?_
        · go_simp
          (try simp only [i64_w])
          try rfl
        refine hK.out _ _ ⟨(by rw [ha.out]; exact putSel_upk 4 hb_ rfl rfl rfl), Q_HB6, Q_HS6, Q_P6, Q_Q6⟩
      refine steps_cons ?_ ?_
      · rintro b a w' ⟨ha, Q_HB6, Q_HS6, Q_P6, Q_Q6⟩ hb_ hon hoff
        refine ⟨_, rfl, fun K hK => ?_⟩
        have e52 : a.tmps[52]? = some ((.bool false)) := by rw [ha]; exact putSel_on (e := (2, 52, (.bool false))) 2 rfl rfl (hon 2 (by kernel_rfl)) rfl
        have e54 : a.tmps[54]? = some ((.bool false)) := by rw [ha]; exact putSel_on (e := (4, 54, (.bool false))) 4 rfl rfl (hon 4 (by kernel_rfl)) rfl
        replace ha := Aside0.mk ha
        have HB6 := Aside0.mk Q_HB6
        have HS6 := Aside0.mk Q_HS6
        have P6 := Aside0.mk Q_P6
        have Q6 := Aside0.mk Q_Q6
        refine value_ (w1 := w') (v := (.bool false)) (by rfl) rfl ?_ ?_
        · go_simp
          (try simp only [i64_w])
          try rfl
        refine hK.out _ _ ⟨(by rw [ha.out]; exact putSel_upk 5 hb_ rfl rfl rfl), Q_HB6, Q_HS6, Q_P6, Q_Q6⟩
      refine steps_cons ?_ ?_
      · rintro b a w' ⟨ha, Q_HB6, Q_HS6, Q_P6, Q_Q6⟩ hb_ hon hoff
        refine ⟨_, rfl, fun K hK => ?_⟩
        have e55 : a.tmps[55]? = some ((.bool false)) := by rw [ha]; exact putSel_on (e := (5, 55, (.bool false))) 5 rfl rfl (hon 5 (by kernel_rfl)) rfl
        replace ha := Aside0.mk ha
        have HB6 := Aside0.mk Q_HB6
        have HS6 := Aside0.mk Q_HS6
        have P6 := Aside0.mk Q_P6
        have Q6 := Aside0.mk Q_Q6
        refine value_ (w1 := w') (v := (.bool false)) (by rfl) rfl ?_ ?_
        · go_simp
          (try simp only [i64_w])
          try rfl
        refine hK.out _ _ ⟨(by rw [ha.out]; exact putSel_upk 6 hb_ rfl rfl rfl), Q_HB6, Q_HS6, Q_P6, Q_Q6⟩
      refine steps_cons ?_ ?_
      · rintro b a w' ⟨ha, Q_HB6, Q_HS6, Q_P6, Q_Q6⟩ hb_ hon hoff
        refine ⟨_, rfl, fun K hK => ?_⟩
        have e9 : a.tmps[9]? = some ((.int .i64 (k : Int))) := by rw [ha]; exact (putSel_off rfl).trans rfl
        have e56 : a.tmps[56]? = some ((.bool false)) := by rw [ha]; exact putSel_on (e := (6, 56, (.bool false))) 6 rfl rfl (hon 6 (by kernel_rfl)) rfl
        replace ha := Aside0.mk ha
        have HB6 := Aside0.mk Q_HB6
        have HS6 := Aside0.mk Q_HS6
        have P6 := Aside0.mk Q_P6
        have Q6 := Aside0.mk Q_Q6
        refine value_ (w1 := w') (v := (.int .i64 (k : Int))) (wanted_on rfl rfl rfl (e56.trans (by first | rfl | (simp [*]; done)))) rfl ?_ ?_
        · go_simp
          (try simp only [i64_w])
          try rfl
        refine hK.out _ _ ⟨(by rw [ha.out]; exact putSel_upk 7 hb_ rfl rfl rfl), Q_HB6, Q_HS6, Q_P6, Q_Q6⟩
      refine steps_cons ?_ ?_
      · rintro b a w' ⟨ha, Q_HB6, Q_HS6, Q_P6, Q_Q6⟩ hb_ hon hoff
        refine ⟨_, rfl, fun K hK => ?_⟩
        have e57 : a.tmps[57]? = some ((.int .i64 (k : Int))) := by rw [ha]; exact putSel_on (e := (7, 57, (.int .i64 (k : Int)))) 7 rfl rfl (hon 7 (by kernel_rfl)) rfl
        have e56 : a.tmps[56]? = some ((.bool false)) := by rw [ha]; exact putSel_on (e := (6, 56, (.bool false))) 6 rfl rfl (hon 6 (by kernel_rfl)) rfl
        replace ha := Aside0.mk ha
        have HB6 := Aside0.mk Q_HB6
        have HS6 := Aside0.mk Q_HS6
        have P6 := Aside0.mk Q_P6
        have Q6 := Aside0.mk Q_Q6
        refine value_ (w1 := w') (v := (.bool false)) (wanted_on rfl rfl rfl (e56.trans (by first | rfl | (simp [*]; done)))) rfl ?_ ?_
        · go_simp
          (try simp only [i64_w])
          try rfl
        refine hK.out _ _ ⟨(by rw [ha.out]; exact putSel_upk 8 hb_ rfl rfl rfl), Q_HB6, Q_HS6, Q_P6, Q_Q6⟩
      refine steps_cons ?_ ?_
      · rintro b a w' ⟨ha, Q_HB6, Q_HS6, Q_P6, Q_Q6⟩ hb_ hon hoff
        refine ⟨_, rfl, fun K hK => ?_⟩
        have e56 : a.tmps[56]? = some ((.bool false)) := by rw [ha]; exact putSel_on (e := (6, 56, (.bool false))) 6 rfl rfl (hon 6 (by kernel_rfl)) rfl
        have e58 : a.tmps[58]? = some ((.bool false)) := by rw [ha]; exact putSel_on (e := (8, 58, (.bool false))) 8 rfl rfl (hon 8 (by kernel_rfl)) rfl
        replace ha := Aside0.mk ha
        have HB6 := Aside0.mk Q_HB6
        have HS6 := Aside0.mk Q_HS6
        have P6 := Aside0.mk Q_P6
        have Q6 := Aside0.mk Q_Q6
        refine value_ (w1 := w') (v := (.bool false)) (by rfl) rfl ?_ ?_
        · go_simp
          (try simp only [i64_w])
          try rfl
        refine hK.out _ _ ⟨(by rw [ha.out]; exact putSel_upk 9 hb_ rfl rfl rfl), Q_HB6, Q_HS6, Q_P6, Q_Q6⟩
      refine steps_cons ?_ ?_
      · rintro b a w' ⟨ha, Q_HB6, Q_HS6, Q_P6, Q_Q6⟩ hb_ hon hoff
        refine ⟨_, rfl, fun K hK => ?_⟩
        have e59 : a.tmps[59]? = some ((.bool false)) := by rw [ha]; exact putSel_on (e := (9, 59, (.bool false))) 9 rfl rfl (hon 9 (by kernel_rfl)) rfl
        replace ha := Aside0.mk ha
        have HB6 := Aside0.mk Q_HB6
        have HS6 := Aside0.mk Q_HS6
        have P6 := Aside0.mk Q_P6
        have Q6 := Aside0.mk Q_Q6
        refine value_ (w1 := w') (v := (.bool false)) (by rfl) rfl ?_ ?_
        · go_simp
          (try simp only [i64_w])
          try rfl
        refine hK.out _ _ ⟨(by rw [ha.out]; exact putSel_upk 10 hb_ rfl rfl rfl), Q_HB6, Q_HS6, Q_P6, Q_Q6⟩
      refine steps_cons ?_ ?_
      · rintro b a w' ⟨ha, Q_HB6, Q_HS6, Q_P6, Q_Q6⟩ hb_ hon hoff
        refine ⟨_, rfl, fun K hK => ?_⟩
        have e11 : a.tmps[11]? = some ((.int .i64 (m : Int))) := by rw [ha]; exact (putSel_off rfl).trans rfl
        have e60 : a.tmps[60]? = some ((.bool false)) := by rw [ha]; exact putSel_on (e := (10, 60, (.bool false))) 10 rfl rfl (hon 10 (by kernel_rfl)) rfl
        replace ha := Aside0.mk ha
        have HB6 := Aside0.mk Q_HB6
        have HS6 := Aside0.mk Q_HS6
        have P6 := Aside0.mk Q_P6
        have Q6 := Aside0.mk Q_Q6
        refine value_ (w1 := w') (v := (.int .i64 (m : Int))) (wanted_on rfl rfl rfl (e60.trans (by first | rfl | (simp [*]; done)))) rfl ?_ ?_
        · go_simp
          (try simp only [i64_w])
          try rfl
        refine hK.out _ _ ⟨(by rw [ha.out]; exact putSel_upk 11 hb_ rfl rfl rfl), Q_HB6, Q_HS6, Q_P6, Q_Q6⟩
      refine steps_cons ?_ ?_
      · rintro b a w' ⟨ha, Q_HB6, Q_HS6, Q_P6, Q_Q6⟩ hb_ hon hoff
        refine ⟨_, rfl, fun K hK => ?_⟩
        have e61 : a.tmps[61]? = some ((.int .i64 (m : Int))) := by rw [ha]; exact putSel_on (e := (11, 61, (.int .i64 (m : Int)))) 11 rfl rfl (hon 11 (by kernel_rfl)) rfl
        have e60 : a.tmps[60]? = some ((.bool false)) := by rw [ha]; exact putSel_on (e := (10, 60, (.bool false))) 10 rfl rfl (hon 10 (by kernel_rfl)) rfl
        replace ha := Aside0.mk ha
        have HB6 := Aside0.mk Q_HB6
        have HS6 := Aside0.mk Q_HS6
        have P6 := Aside0.mk Q_P6
        have Q6 := Aside0.mk Q_Q6
        refine value_ (w1 := w') (v := (.bool false)) (wanted_on rfl rfl rfl (e60.trans (by first | rfl | (simp [*]; done)))) rfl ?_ ?_
        · go_simp
          (try simp only [i64_w])
          try rfl
        refine hK.out _ _ ⟨(by rw [ha.out]; exact putSel_upk 12 hb_ rfl rfl rfl), Q_HB6, Q_HS6, Q_P6, Q_Q6⟩
      refine steps_cons ?_ ?_
      · rintro b a w' ⟨ha, Q_HB6, Q_HS6, Q_P6, Q_Q6⟩ hb_ hon hoff
        refine ⟨_, rfl, fun K hK => ?_⟩
        have e60 : a.tmps[60]? = some ((.bool false)) := by rw [ha]; exact putSel_on (e := (10, 60, (.bool false))) 10 rfl rfl (hon 10 (by kernel_rfl)) rfl
        have e62 : a.tmps[62]? = some ((.bool false)) := by rw [ha]; exact putSel_on (e := (12, 62, (.bool false))) 12 rfl rfl (hon 12 (by kernel_rfl)) rfl
        replace ha := Aside0.mk ha
        have HB6 := Aside0.mk Q_HB6
        have HS6 := Aside0.mk Q_HS6
        have P6 := Aside0.mk Q_P6
        have Q6 := Aside0.mk Q_Q6
        refine value_ (w1 := w') (v := (.bool false)) (by rfl) rfl ?_ ?_
        · go_simp
          (try simp only [i64_w])
          try rfl
        refine hK.out _ _ ⟨(by rw [ha.out]; exact putSel_upk 13 hb_ rfl rfl rfl), Q_HB6, Q_HS6, Q_P6, Q_Q6⟩
      refine steps_cons ?_ ?_
      · rintro b a w' ⟨ha, Q_HB6, Q_HS6, Q_P6, Q_Q6⟩ hb_ hon hoff
        refine ⟨_, rfl, fun K hK => ?_⟩
        have e63 : a.tmps[63]? = some ((.bool false)) := by rw [ha]; exact putSel_on (e := (13, 63, (.bool false))) 13 rfl rfl (hon 13 (by kernel_rfl)) rfl
        replace ha := Aside0.mk ha
        have HB6 := Aside0.mk Q_HB6
        have HS6 := Aside0.mk Q_HS6
        have P6 := Aside0.mk Q_P6
        have Q6 := Aside0.mk Q_Q6
        refine value_ (w1 := w') (v := (.bool false)) (by rfl) rfl ?_ ?_
        · go_simp
          (try simp only [i64_w])
          try rfl
        refine hK.out _ _ ⟨(by rw [ha.out]; exact putSel_upk 14 hb_ rfl rfl rfl), Q_HB6, Q_HS6, Q_P6, Q_Q6⟩
      refine steps_cons ?_ ?_
      · rintro b a w' ⟨ha, Q_HB6, Q_HS6, Q_P6, Q_Q6⟩ hb_ hon hoff
        refine ⟨_, rfl, fun K hK => ?_⟩
        have e12 : a.tmps[12]? = some ((.pointer (some ⟨w5.heap.size, 0, none⟩))) := by rw [ha]; exact (putSel_off rfl).trans rfl
        have e64 : a.tmps[64]? = some ((.bool false)) := by rw [ha]; exact putSel_on (e := (14, 64, (.bool false))) 14 rfl rfl (hon 14 (by kernel_rfl)) rfl
        replace ha := Aside0.mk ha
        have HB6 := Aside0.mk Q_HB6
        have HS6 := Aside0.mk Q_HS6
        have P6 := Aside0.mk Q_P6
        have Q6 := Aside0.mk Q_Q6
        have q0_ : w'.cell? ⟨w5.heap.size, 0, none⟩ = some (.int .i64 pe) := by rw [cell_of_row w' _ 0 _ _ _ Q6.out]; rfl
        have q1_ : w'.cell? ⟨w5.heap.size, 1, none⟩ = some (.int .i64 ps) := by rw [cell_of_row w' _ 1 _ _ _ Q6.out]; rfl
        have q2_ : w'.cell? ⟨w5.heap.size, 2, none⟩ = some (.int .i64 pa) := by rw [cell_of_row w' _ 2 _ _ _ Q6.out]; rfl
        have q3_ : w'.cell? ⟨w5.heap.size, 3, none⟩ = some (.string pd) := by rw [cell_of_row w' _ 3 _ _ _ Q6.out]; rfl
        refine value_ (w1 := w') (v := (.agg #[.int .i64 pe, .int .i64 ps, .int .i64 pa, .string pd])) (wanted_on rfl rfl rfl (e64.trans (by first | rfl | (simp [*]; done)))) rfl ?_ ?_
        · go_simp
          (try simp only [i64_w])
          try rfl
        refine hK.out _ _ ⟨(by rw [ha.out]; exact putSel_upk 15 hb_ rfl rfl rfl), Q_HB6, Q_HS6, Q_P6, Q_Q6⟩
      refine steps_cons ?_ ?_
      · rintro b a w' ⟨ha, Q_HB6, Q_HS6, Q_P6, Q_Q6⟩ hb_ hon hoff
        refine ⟨_, rfl, fun K hK => ?_⟩
        have e65 : a.tmps[65]? = some ((.agg #[.int .i64 pe, .int .i64 ps, .int .i64 pa, .string pd])) := by rw [ha]; exact putSel_on (e := (15, 65, (.agg #[.int .i64 pe, .int .i64 ps, .int .i64 pa, .string pd]))) 15 rfl rfl (hon 15 (by kernel_rfl)) rfl
        have e64 : a.tmps[64]? = some ((.bool false)) := by rw [ha]; exact putSel_on (e := (14, 64, (.bool false))) 14 rfl rfl (hon 14 (by kernel_rfl)) rfl
        replace ha := Aside0.mk ha
        have HB6 := Aside0.mk Q_HB6
        have HS6 := Aside0.mk Q_HS6
        have P6 := Aside0.mk Q_P6
        have Q6 := Aside0.mk Q_Q6
        refine goes_ Try.func16 (by kernel_rfl) rfl #[.agg #[.int .i64 pe, .int .i64 ps, .int .i64 pa, .string pd]] (wanted_on rfl rfl rfl (e64.trans (by first | rfl | (simp [*]; done)))) rfl rfl (by first | (simp only [List.map_toArray, List.map_cons, List.map_nil, Act.eval, Array.getD_eq_getD_getElem?, Option.getD_some, e65, e64]; done) | (simp only [List.map_toArray, List.map_cons, List.map_nil, Act.eval, Array.getD_eq_getD_getElem?, Option.getD_some, e65, e64]; rfl)) ?_
        refine (HGD.out _).mono ?_
        rintro e w1_ ⟨rfl, hb⟩
        refine ⟨_, rfl, ?_⟩
        refine hK.out _ _ ⟨(by rw [ha.out]; exact putSel_upk 16 hb_ rfl rfl rfl), below_step HB6.out hb, HS6.out.below hb, (hb.block _ (lt_of P6.out)).trans P6.out, (hb.block _ (lt_of Q6.out)).trans Q6.out⟩
      refine steps_cons ?_ ?_
      · rintro b a w' ⟨ha, Q_HB6, Q_HS6, Q_P6, Q_Q6⟩ hb_ hon hoff
        refine ⟨_, rfl, fun K hK => ?_⟩
        have e66 : a.tmps[66]? = some ((.bool false)) := by rw [ha]; exact putSel_on (e := (16, 66, (.bool false))) 16 rfl rfl (hon 16 (by kernel_rfl)) rfl
        have e64 : a.tmps[64]? = some ((.bool false)) := by rw [ha]; exact putSel_on (e := (14, 64, (.bool false))) 14 rfl rfl (hon 14 (by kernel_rfl)) rfl
        replace ha := Aside0.mk ha
        have HB6 := Aside0.mk Q_HB6
        have HS6 := Aside0.mk Q_HS6
        have P6 := Aside0.mk Q_P6
        have Q6 := Aside0.mk Q_Q6
        refine value_ (w1 := w') (v := (.bool true)) (wanted_on rfl rfl rfl (e64.trans (by first | rfl | (simp [*]; done)))) rfl ?_ ?_
        · go_simp
          (try simp only [i64_w])
          try rfl
        refine hK.out _ _ ⟨(by rw [ha.out]; exact putSel_upk 17 hb_ rfl rfl rfl), Q_HB6, Q_HS6, Q_P6, Q_Q6⟩
      refine steps_cons ?_ ?_
      · rintro b a w' ⟨ha, Q_HB6, Q_HS6, Q_P6, Q_Q6⟩ hb_ hon hoff
        refine ⟨_, rfl, fun K hK => ?_⟩
        have e64 : a.tmps[64]? = some ((.bool false)) := by rw [ha]; exact putSel_on (e := (14, 64, (.bool false))) 14 rfl rfl (hon 14 (by kernel_rfl)) rfl
        have e67 : a.tmps[67]? = some ((.bool true)) := by rw [ha]; exact putSel_on (e := (17, 67, (.bool true))) 17 rfl rfl (hon 17 (by kernel_rfl)) rfl
        replace ha := Aside0.mk ha
        have HB6 := Aside0.mk Q_HB6
        have HS6 := Aside0.mk Q_HS6
        have P6 := Aside0.mk Q_P6
        have Q6 := Aside0.mk Q_Q6
        refine value_ (w1 := w') (v := (.bool true)) (by rfl) rfl ?_ ?_
        · go_simp
          (try simp only [i64_w])
          try rfl
        refine hK.out _ _ ⟨(by rw [ha.out]; exact putSel_upk 18 hb_ rfl rfl rfl), Q_HB6, Q_HS6, Q_P6, Q_Q6⟩
      refine steps_cons ?_ ?_
      · rintro b a w' ⟨ha, Q_HB6, Q_HS6, Q_P6, Q_Q6⟩ hb_ hon hoff
        refine ⟨_, rfl, fun K hK => ?_⟩
        have e68 : a.tmps[68]? = some ((.bool true)) := by rw [ha]; exact putSel_on (e := (18, 68, (.bool true))) 18 rfl rfl (hon 18 (by kernel_rfl)) rfl
        replace ha := Aside0.mk ha
        have HB6 := Aside0.mk Q_HB6
        have HS6 := Aside0.mk Q_HS6
        have P6 := Aside0.mk Q_P6
        have Q6 := Aside0.mk Q_Q6
        refine value_ (w1 := w') (v := (.bool true)) (by rfl) rfl ?_ ?_
        · go_simp
          (try simp only [i64_w])
          try rfl
        refine hK.out _ _ ⟨(by rw [ha.out]; exact putSel_upk 19 hb_ rfl rfl rfl), Q_HB6, Q_HS6, Q_P6, Q_Q6⟩
      refine steps_cons ?_ ?_
      · rintro b a w' ⟨ha, Q_HB6, Q_HS6, Q_P6, Q_Q6⟩ hb_ hon hoff
        refine ⟨_, rfl, fun K hK => ?_⟩
        have e69 : a.tmps[69]? = some ((.bool true)) := by rw [ha]; exact putSel_on (e := (19, 69, (.bool true))) 19 rfl rfl (hon 19 (by kernel_rfl)) rfl
        replace ha := Aside0.mk ha
        have HB6 := Aside0.mk Q_HB6
        have HS6 := Aside0.mk Q_HS6
        have P6 := Aside0.mk Q_P6
        have Q6 := Aside0.mk Q_Q6
        refine off_ (wanted_off rfl rfl rfl (e69.trans (by first | rfl | (simp [*]; done)))) ?_
        refine hK.out _ _ ⟨(by rw [ha.out]; exact putSel_upk 20 hb_ rfl rfl rfl), Q_HB6, Q_HS6, Q_P6, Q_Q6⟩
      refine steps_cons ?_ ?_
      · rintro b a w' ⟨ha, Q_HB6, Q_HS6, Q_P6, Q_Q6⟩ hb_ hon hoff
        refine ⟨_, rfl, fun K hK => ?_⟩
        have e69 : a.tmps[69]? = some ((.bool true)) := by rw [ha]; exact putSel_on (e := (19, 69, (.bool true))) 19 rfl rfl (hon 19 (by kernel_rfl)) rfl
        replace ha := Aside0.mk ha
        have HB6 := Aside0.mk Q_HB6
        have HS6 := Aside0.mk Q_HS6
        have P6 := Aside0.mk Q_P6
        have Q6 := Aside0.mk Q_Q6
        refine off_ (wanted_off rfl rfl rfl (e69.trans (by first | rfl | (simp [*]; done)))) ?_
        refine hK.out _ _ ⟨(by rw [ha.out]; exact putSel_upk 21 hb_ rfl rfl rfl), Q_HB6, Q_HS6, Q_P6, Q_Q6⟩
      refine steps_cons ?_ ?_
      · rintro b a w' ⟨ha, Q_HB6, Q_HS6, Q_P6, Q_Q6⟩ hb_ hon hoff
        refine ⟨_, rfl, fun K hK => ?_⟩
        have e69 : a.tmps[69]? = some ((.bool true)) := by rw [ha]; exact putSel_on (e := (19, 69, (.bool true))) 19 rfl rfl (hon 19 (by kernel_rfl)) rfl
        replace ha := Aside0.mk ha
        have HB6 := Aside0.mk Q_HB6
        have HS6 := Aside0.mk Q_HS6
        have P6 := Aside0.mk Q_P6
        have Q6 := Aside0.mk Q_Q6
        refine off_ (wanted_off rfl rfl rfl (e69.trans (by first | rfl | (simp [*]; done)))) ?_
        refine hK.out _ _ ⟨(by rw [ha.out]; exact putSel_upk 22 hb_ rfl rfl rfl), Q_HB6, Q_HS6, Q_P6, Q_Q6⟩
      refine steps_cons ?_ ?_
      · rintro b a w' ⟨ha, Q_HB6, Q_HS6, Q_P6, Q_Q6⟩ hb_ hon hoff
        refine ⟨_, rfl, fun K hK => ?_⟩
        have e69 : a.tmps[69]? = some ((.bool true)) := by rw [ha]; exact putSel_on (e := (19, 69, (.bool true))) 19 rfl rfl (hon 19 (by kernel_rfl)) rfl
        replace ha := Aside0.mk ha
        have HB6 := Aside0.mk Q_HB6
        have HS6 := Aside0.mk Q_HS6
        have P6 := Aside0.mk Q_P6
        have Q6 := Aside0.mk Q_Q6
        refine off_ (wanted_off rfl rfl rfl (e69.trans (by first | rfl | (simp [*]; done)))) ?_
        refine hK.out _ _ ⟨(by rw [ha.out]; exact putSel_upk 23 hb_ rfl rfl rfl), Q_HB6, Q_HS6, Q_P6, Q_Q6⟩
      refine steps_cons ?_ ?_
      · rintro b a w' ⟨ha, Q_HB6, Q_HS6, Q_P6, Q_Q6⟩ hb_ hon hoff
        refine ⟨_, rfl, fun K hK => ?_⟩
        have e69 : a.tmps[69]? = some ((.bool true)) := by rw [ha]; exact putSel_on (e := (19, 69, (.bool true))) 19 rfl rfl (hon 19 (by kernel_rfl)) rfl
        replace ha := Aside0.mk ha
        have HB6 := Aside0.mk Q_HB6
        have HS6 := Aside0.mk Q_HS6
        have P6 := Aside0.mk Q_P6
        have Q6 := Aside0.mk Q_Q6
        refine off_ (wanted_off rfl rfl rfl (e69.trans (by first | rfl | (simp [*]; done)))) ?_
        refine hK.out _ _ ⟨(by rw [ha.out]; exact putSel_upk 24 hb_ rfl rfl rfl), Q_HB6, Q_HS6, Q_P6, Q_Q6⟩
      refine steps_cons ?_ ?_
      · rintro b a w' ⟨ha, Q_HB6, Q_HS6, Q_P6, Q_Q6⟩ hb_ hon hoff
        refine ⟨_, rfl, fun K hK => ?_⟩
        have e69 : a.tmps[69]? = some ((.bool true)) := by rw [ha]; exact putSel_on (e := (19, 69, (.bool true))) 19 rfl rfl (hon 19 (by kernel_rfl)) rfl
        replace ha := Aside0.mk ha
        have HB6 := Aside0.mk Q_HB6
        have HS6 := Aside0.mk Q_HS6
        have P6 := Aside0.mk Q_P6
        have Q6 := Aside0.mk Q_Q6
        refine off_ (wanted_off rfl rfl rfl (e69.trans (by first | rfl | (simp [*]; done)))) ?_
        refine hK.out _ _ ⟨(by rw [ha.out]; exact putSel_upk 25 hb_ rfl rfl rfl), Q_HB6, Q_HS6, Q_P6, Q_Q6⟩
      refine steps_cons ?_ ?_
      · rintro b a w' ⟨ha, Q_HB6, Q_HS6, Q_P6, Q_Q6⟩ hb_ hon hoff
        refine ⟨_, rfl, fun K hK => ?_⟩
        have e69 : a.tmps[69]? = some ((.bool true)) := by rw [ha]; exact putSel_on (e := (19, 69, (.bool true))) 19 rfl rfl (hon 19 (by kernel_rfl)) rfl
        have e75 : a.tmps[75]? = some (undef) := by rw [ha]; exact putSel_on (e := (25, 75, undef)) 25 rfl rfl (hon 25 (by kernel_rfl)) rfl
        replace ha := Aside0.mk ha
        have HB6 := Aside0.mk Q_HB6
        have HS6 := Aside0.mk Q_HS6
        have P6 := Aside0.mk Q_P6
        have Q6 := Aside0.mk Q_Q6
        refine value_ (w1 := w') (v := (.bool true)) (by rfl) rfl ?_ ?_
        · go_simp
          (try simp only [i64_w])
          try rfl
        refine hK.out _ _ ⟨(by rw [ha.out]; exact putSel_upk 26 hb_ rfl rfl rfl), Q_HB6, Q_HS6, Q_P6, Q_Q6⟩
      exact steps_nil
    rintro b a w9 hall ⟨ha, Q_HB6, Q_HS6, Q_P6, Q_Q6⟩
    clear HB6 HS6 P6 Q6
    have hb0_ := hall 0 (by kernel_rfl)
    have hb1_ := hall 1 (by kernel_rfl)
    have hb2_ := hall 2 (by kernel_rfl)
    have hb3_ := hall 3 (by kernel_rfl)
    have hb4_ := hall 4 (by kernel_rfl)
    have hb5_ := hall 5 (by kernel_rfl)
    have hb6_ := hall 6 (by kernel_rfl)
    have hb7_ := hall 7 (by kernel_rfl)
    have hb8_ := hall 8 (by kernel_rfl)
    have hb9_ := hall 9 (by kernel_rfl)
    have hb10_ := hall 10 (by kernel_rfl)
    have hb11_ := hall 11 (by kernel_rfl)
    have hb12_ := hall 12 (by kernel_rfl)
    have hb13_ := hall 13 (by kernel_rfl)
    have hb14_ := hall 14 (by kernel_rfl)
    have hb15_ := hall 15 (by kernel_rfl)
    have hb16_ := hall 16 (by kernel_rfl)
    have hb17_ := hall 17 (by kernel_rfl)
    have hb18_ := hall 18 (by kernel_rfl)
    have hb19_ := hall 19 (by kernel_rfl)
    have hb20_ := hall 20 (by kernel_rfl)
    have hb21_ := hall 21 (by kernel_rfl)
    have hb22_ := hall 22 (by kernel_rfl)
    have hb23_ := hall 23 (by kernel_rfl)
    have hb24_ := hall 24 (by kernel_rfl)
    have hb25_ := hall 25 (by kernel_rfl)
    have hb26_ := hall 26 (by kernel_rfl)
    subst ha
    simp only [putSel, hb0_, hb1_, hb2_, hb3_, hb4_, hb5_, hb6_, hb7_, hb8_, hb9_, hb10_, hb11_, hb12_, hb13_, hb14_, hb15_, hb16_, hb17_, hb18_, hb19_, hb20_, hb21_, hb22_, hb23_, hb24_, hb25_, hb26_, if_true, Act.put, List.setIfInBounds_toArray, List.set_cons_zero, List.set_cons_succ]
    have HB6 := Aside0.mk Q_HB6
    clear Q_HB6
    have HS6 := Aside0.mk Q_HS6
    clear Q_HS6
    have P6 := Aside0.mk Q_P6
    clear Q_P6
    have Q6 := Aside0.mk Q_Q6
    clear Q_Q6
    clear hall hb0_ hb1_ hb2_ hb3_ hb4_ hb5_ hb6_ hb7_ hb8_ hb9_ hb10_ hb11_ hb12_ hb13_ hb14_ hb15_ hb16_ hb17_ hb18_ hb19_ hb20_ hb21_ hb22_ hb23_ hb24_ hb25_ hb26_
    have p0 : w9.cell? ⟨w.heap.size, 0, none⟩ = some (.int .i64 0) := by rw [cell_of_row w9 _ 0 _ _ _ P6.out]; rfl
    have p1 : w9.cell? ⟨w.heap.size, 1, none⟩ = some (.int .i64 0) := by rw [cell_of_row w9 _ 1 _ _ _ P6.out]; rfl
    have p2 : w9.cell? ⟨w.heap.size, 2, none⟩ = some (.int .i64 0) := by rw [cell_of_row w9 _ 2 _ _ _ P6.out]; rfl
    have p3 : w9.cell? ⟨w.heap.size, 3, none⟩ = some (.string ⟨#[]⟩) := by rw [cell_of_row w9 _ 3 _ _ _ P6.out]; rfl
    have f0 : w9.frozen? ⟨w.heap.size, 0, none⟩ = false := frozen_of_row w9 _ 0 _ _ P6.out
    have f1 : w9.frozen? ⟨w.heap.size, 1, none⟩ = false := frozen_of_row w9 _ 1 _ _ P6.out
    have f2 : w9.frozen? ⟨w.heap.size, 2, none⟩ = false := frozen_of_row w9 _ 2 _ _ P6.out
    have f3 : w9.frozen? ⟨w.heap.size, 3, none⟩ = false := frozen_of_row w9 _ 3 _ _ P6.out
    go_wp2_with fail
    refine bodyPost_ret (results_ct rfl _ _ w.heap.size 23 #[.int .i64 0, .int .i64 0, .int .i64 0, .string ⟨#[]⟩] (0, 0) _ rfl (pack_set P6.out) Try.underlying23 rfl (by kernel_rfl)) rfl ?_
    exact ⟨by rw [HGET.out]; rfl, below_set4 HB6.out (Nat.le_refl _) _ _ _ _⟩
  | true =>
    have hdz : pd.size ≤ 65536 := by
      have h := hgp
      unfold good at h
      simp only [Bool.and_eq_true, decide_eq_true_eq] at h
      exact h.1.2
    have hbd := fun W => nRefBody ⟨pe, ps, pa, pd⟩ (show pd.size ≤ 140737488000000 by omega) W
    unfold Pk.val at hbd
    simp only at hbd
    have hokb := ok_body ⟨pe, ps, pa, pd⟩
    obtain ⟨B, hB⟩ : ∃ B, B = body ⟨pe, ps, pa, pd⟩ := ⟨_, rfl⟩
    rw [← hB] at hbd hokb
    have HBD := Aside0.mk hbd
    rw [← hB] at HY
    clear hbd hB hdz
    by_cases hbl : B = l
    · have HGET := Aside0.mk (show parse l = some ⟨pe, ps, pa, pd⟩ by rw [HY.out, if_pos ⟨hgp, hbl⟩])
      have hq : ((strOfNums B).toList == (strOfNums l).toList) = true := by rw [hbl]; simp
      rw [hgp] at hgd
      have HGD := Aside0.mk hgd
      clear hgp hgd hbl hokb
      refine start_ (n := 27) (S := fun w' => True) (ds := []) #[false, false, false, false, false, false, false, false, false, false, false, false, false, false, false, false, false, false, false, false, false, false, false, false, false, false, false] (by kernel_rfl) rfl rfl trivial (fun hHeld => ?_); refine with_tabW rparse.tab6 rparse.bits6 (fun HT_ HW_ => ?_)
      refine inv_at [0, 1, 2, 3, 4, 5, 6, 7, 8, 9, 10, 11, 12, 13, 14, 15, 16, 17, 18, 19, 20, 21, 22, 23, 24, 25, 26] (fun a0_ b a w' => ∃ (v71 : Value), a = putSel a0_ b [(0, 50, (.int .i64 (i : Int))), (1, 51, (.bool false)), (2, 52, (.bool false)), (3, 53, (.int .i64 (j : Int))), (4, 54, (.bool false)), (5, 55, (.bool false)), (6, 56, (.bool false)), (7, 57, (.int .i64 (k : Int))), (8, 58, (.bool false)), (9, 59, (.bool false)), (10, 60, (.bool false)), (11, 61, (.int .i64 (m : Int))), (12, 62, (.bool false)), (13, 63, (.bool false)), (14, 64, (.bool false)), (15, 65, (.agg #[.int .i64 pe, .int .i64 ps, .int .i64 pa, .string pd])), (16, 66, (.bool true)), (17, 67, (.bool false)), (18, 68, (.bool false)), (19, 69, (.bool false)), (20, 70, (.agg #[.int .i64 pe, .int .i64 ps, .int .i64 pa, .string pd])), (21, 71, v71), (22, 72, (.string (strOfNums B))), (23, 73, (.slice A l.length c)), (24, 74, (.string (strOfNums l))), (25, 75, (.bool false)), (26, 76, (.bool false))] ∧ (Below w.heap.size w w') ∧ (Sl w' (.slice A l.length c) l) ∧ (w'.heap[w.heap.size]? = some (.cells #[.int .i64 0, .int .i64 0, .int .i64 0, .string ⟨#[]⟩] 23 (0, 0))) ∧ (w'.heap[w5.heap.size]? = some (.cells #[.int .i64 pe, .int .i64 ps, .int .i64 pa, .string pd] 23 (0, 0))) ∧ (b 21 = true → Sl w' v71 B)) HT_.out HW_.out (by kernel_rfl) (by kernel_rfl) ?_ ?_ ?_
      · exact ⟨.bool false, by simp only [putSel, Bool.false_eq_true, if_false], below_drew1 HB6.out, HS6.out.drew, P6.out, Q6.out, fun h_ => absurd h_ (by decide)⟩
      · skip
        clear HB6 HS6 P6 Q6
        refine steps_cons ?_ ?_
        · rintro b a w' ⟨v71, ha, Q_HB6, Q_HS6, Q_P6, Q_Q6, Q_S71⟩ hb_ hon hoff
          refine ⟨_, rfl, fun K hK => ?_⟩
          have e5 : a.tmps[5]? = some ((.int .i64 (i : Int))) := by rw [ha]; exact (putSel_off rfl).trans rfl
          replace ha := Aside0.mk ha
          have HB6 := Aside0.mk Q_HB6
          have HS6 := Aside0.mk Q_HS6
          have P6 := Aside0.mk Q_P6
          have Q6 := Aside0.mk Q_Q6
          refine value_ (w1 := w') (v := (.int .i64 (i : Int))) (by rfl) rfl ?_ ?_
          · go_simp
            (try simp only [i64_w])
            try rfl
          refine hK.out _ _ ⟨v71, (by rw [ha.out]; exact putSel_upk 0 hb_ rfl rfl rfl), Q_HB6, Q_HS6, Q_P6, Q_Q6, fun h0_ => absurd ((hoff 21 (by kernel_rfl)).symm.trans h0_) (by decide)⟩
        refine steps_cons ?_ ?_
        · rintro b a w' ⟨v71, ha, Q_HB6, Q_HS6, Q_P6, Q_Q6, Q_S71⟩ hb_ hon hoff
          refine ⟨_, rfl, fun K hK => ?_⟩
          have e50 : a.tmps[50]? = some ((.int .i64 (i : Int))) := by rw [ha]; exact putSel_on (e := (0, 50, (.int .i64 (i : Int)))) 0 rfl rfl (hon 0 (by kernel_rfl)) rfl
          replace ha := Aside0.mk ha
          have HB6 := Aside0.mk Q_HB6
          have HS6 := Aside0.mk Q_HS6
          have P6 := Aside0.mk Q_P6
          have Q6 := Aside0.mk Q_Q6
          refine value_ (w1 := w') (v := (.bool false)) (by rfl) rfl ?_ ?_
          · go_simp
            (try simp only [i64_w])
            try rfl
          refine hK.out _ _ ⟨v71, (by rw [ha.out]; exact putSel_upk 1 hb_ rfl rfl rfl), Q_HB6, Q_HS6, Q_P6, Q_Q6, fun h0_ => absurd ((hoff 21 (by kernel_rfl)).symm.trans h0_) (by decide)⟩
        refine steps_cons ?_ ?_
        · rintro b a w' ⟨v71, ha, Q_HB6, Q_HS6, Q_P6, Q_Q6, Q_S71⟩ hb_ hon hoff
          refine ⟨_, rfl, fun K hK => ?_⟩
          have e51 : a.tmps[51]? = some ((.bool false)) := by rw [ha]; exact putSel_on (e := (1, 51, (.bool false))) 1 rfl rfl (hon 1 (by kernel_rfl)) rfl
          replace ha := Aside0.mk ha
          have HB6 := Aside0.mk Q_HB6
          have HS6 := Aside0.mk Q_HS6
          have P6 := Aside0.mk Q_P6
          have Q6 := Aside0.mk Q_Q6
          refine value_ (w1 := w') (v := (.bool false)) (by rfl) rfl ?_ ?_
          · go_simp
            (try simp only [i64_w])
            try rfl
          refine hK.out _ _ ⟨v71, (by rw [ha.out]; exact putSel_upk 2 hb_ rfl rfl rfl), Q_HB6, Q_HS6, Q_P6, Q_Q6, fun h0_ => absurd ((hoff 21 (by kernel_rfl)).symm.trans h0_) (by decide)⟩
        refine steps_cons ?_ ?_
        · rintro b a w' ⟨v71, ha, Q_HB6, Q_HS6, Q_P6, Q_Q6, Q_S71⟩ hb_ hon hoff
          refine ⟨_, rfl, fun K hK => ?_⟩
          have e7 : a.tmps[7]? = some ((.int .i64 (j : Int))) := by rw [ha]; exact (putSel_off rfl).trans rfl
          have e52 : a.tmps[52]? = some ((.bool false)) := by rw [ha]; exact putSel_on (e := (2, 52, (.bool false))) 2 rfl rfl (hon 2 (by kernel_rfl)) rfl
          replace ha := Aside0.mk ha
          have HB6 := Aside0.mk Q_HB6
          have HS6 := Aside0.mk Q_HS6
          have P6 := Aside0.mk Q_P6
          have Q6 := Aside0.mk Q_Q6
          refine value_ (w1 := w') (v := (.int .i64 (j : Int))) (wanted_on rfl rfl rfl (e52.trans (by first | rfl | (simp [*]; done)))) rfl ?_ ?_
          · go_simp
            (try simp only [i64_w])
            try rfl
          refine hK.out _ _ ⟨v71, (by rw [ha.out]; exact putSel_upk 3 hb_ rfl rfl rfl), Q_HB6, Q_HS6, Q_P6, Q_Q6, fun h0_ => absurd ((hoff 21 (by kernel_rfl)).symm.trans h0_) (by decide)⟩
        refine steps_cons ?_ ?_
        · rintro b a w' ⟨v71, ha, Q_HB6, Q_HS6, Q_P6, Q_Q6, Q_S71⟩ hb_ hon hoff
          refine ⟨_, rfl, fun K hK => ?_⟩
          have e53 : a.tmps[53]? = some ((.int .i64 (j : Int))) := by rw [ha]; exact putSel_on (e := (3, 53, (.int .i64 (j : Int)))) 3 rfl rfl (hon 3 (by kernel_rfl)) rfl
          have e52 : a.tmps[52]? = some ((.bool false)) := by rw [ha]; exact putSel_on (e := (2, 52, (.bool false))) 2 rfl rfl (hon 2 (by kernel_rfl)) rfl
          replace ha := Aside0.mk ha
          have HB6 := Aside0.mk Q_HB6
          have HS6 := Aside0.mk Q_HS6
          have P6 := Aside0.mk Q_P6
          have Q6 := Aside0.mk Q_Q6
          refine value_ (w1 := w') (v := (.bool false)) (wanted_on rfl rfl rfl (e52.trans (by first | rfl | (simp [*]; done)))) rfl ?_ ?_
          · go_simp
            (try simp only [i64_w])
            try rfl
          refine hK.out _ _ ⟨v71, (by rw [ha.out]; exact putSel_upk 4 hb_ rfl rfl rfl), Q_HB6, Q_HS6, Q_P6, Q_Q6, fun h0_ => absurd ((hoff 21 (by kernel_rfl)).symm.trans h0_) (by decide)⟩
        refine steps_cons ?_ ?_
        · rintro b a w' ⟨v71, ha, Q_HB6, Q_HS6, Q_P6, Q_Q6, Q_S71⟩ hb_ hon hoff
          refine ⟨_, rfl, fun K hK => ?_⟩
          have e52 : a.tmps[52]? = some ((.bool false)) := by rw [ha]; exact putSel_on (e := (2, 52, (.bool false))) 2 rfl rfl (hon 2 (by kernel_rfl)) rfl
          have e54 : a.tmps[54]? = some ((.bool false)) := by rw [ha]; exact putSel_on (e := (4, 54, (.bool false))) 4 rfl rfl (hon 4 (by kernel_rfl)) rfl
          replace ha := Aside0.mk ha
          have HB6 := Aside0.mk Q_HB6
          have HS6 := Aside0.mk Q_HS6
          have P6 := Aside0.mk Q_P6
          have Q6 := Aside0.mk Q_Q6
          refine value_ (w1 := w') (v := (.bool false)) (by rfl) rfl ?_ ?_
          · go_simp
            (try simp only [i64_w])
            try rfl
          refine hK.out _ _ ⟨v71, (by rw [ha.out]; exact putSel_upk 5 hb_ rfl rfl rfl), Q_HB6, Q_HS6, Q_P6, Q_Q6, fun h0_ => absurd ((hoff 21 (by kernel_rfl)).symm.trans h0_) (by decide)⟩
        refine steps_cons ?_ ?_
        · rintro b a w' ⟨v71, ha, Q_HB6, Q_HS6, Q_P6, Q_Q6, Q_S71⟩ hb_ hon hoff
          refine ⟨_, rfl, fun K hK => ?_⟩
          have e55 : a.tmps[55]? = some ((.bool false)) := by rw [ha]; exact putSel_on (e := (5, 55, (.bool false))) 5 rfl rfl (hon 5 (by kernel_rfl)) rfl
          replace ha := Aside0.mk ha
          have HB6 := Aside0.mk Q_HB6
          have HS6 := Aside0.mk Q_HS6
          have P6 := Aside0.mk Q_P6
          have Q6 := Aside0.mk Q_Q6
          refine value_ (w1 := w') (v := (.bool false)) (by rfl) rfl ?_ ?_
          · go_simp
            (try simp only [i64_w])
            try rfl
          refine hK.out _ _ ⟨v71, (by rw [ha.out]; exact putSel_upk 6 hb_ rfl rfl rfl), Q_HB6, Q_HS6, Q_P6, Q_Q6, fun h0_ => absurd ((hoff 21 (by kernel_rfl)).symm.trans h0_) (by decide)⟩
        refine steps_cons ?_ ?_
        · rintro b a w' ⟨v71, ha, Q_HB6, Q_HS6, Q_P6, Q_Q6, Q_S71⟩ hb_ hon hoff
          refine ⟨_, rfl, fun K hK => ?_⟩
          have e9 : a.tmps[9]? = some ((.int .i64 (k : Int))) := by rw [ha]; exact (putSel_off rfl).trans rfl
          have e56 : a.tmps[56]? = some ((.bool false)) := by rw [ha]; exact putSel_on (e := (6, 56, (.bool false))) 6 rfl rfl (hon 6 (by kernel_rfl)) rfl
          replace ha := Aside0.mk ha
          have HB6 := Aside0.mk Q_HB6
          have HS6 := Aside0.mk Q_HS6
          have P6 := Aside0.mk Q_P6
          have Q6 := Aside0.mk Q_Q6
          refine value_ (w1 := w') (v := (.int .i64 (k : Int))) (wanted_on rfl rfl rfl (e56.trans (by first | rfl | (simp [*]; done)))) rfl ?_ ?_
          · go_simp
            (try simp only [i64_w])
            try rfl
          refine hK.out _ _ ⟨v71, (by rw [ha.out]; exact putSel_upk 7 hb_ rfl rfl rfl), Q_HB6, Q_HS6, Q_P6, Q_Q6, fun h0_ => absurd ((hoff 21 (by kernel_rfl)).symm.trans h0_) (by decide)⟩
        refine steps_cons ?_ ?_
        · rintro b a w' ⟨v71, ha, Q_HB6, Q_HS6, Q_P6, Q_Q6, Q_S71⟩ hb_ hon hoff
          refine ⟨_, rfl, fun K hK => ?_⟩
          have e57 : a.tmps[57]? = some ((.int .i64 (k : Int))) := by rw [ha]; exact putSel_on (e := (7, 57, (.int .i64 (k : Int)))) 7 rfl rfl (hon 7 (by kernel_rfl)) rfl
          have e56 : a.tmps[56]? = some ((.bool false)) := by rw [ha]; exact putSel_on (e := (6, 56, (.bool false))) 6 rfl rfl (hon 6 (by kernel_rfl)) rfl
          replace ha := Aside0.mk ha
          have HB6 := Aside0.mk Q_HB6
          have HS6 := Aside0.mk Q_HS6
          have P6 := Aside0.mk Q_P6
          have Q6 := Aside0.mk Q_Q6
          refine value_ (w1 := w') (v := (.bool false)) (wanted_on rfl rfl rfl (e56.trans (by first | rfl | (simp [*]; done)))) rfl ?_ ?_
          · go_simp
            (try simp only [i64_w])
            try rfl
          refine hK.out _ _ ⟨v71, (by rw [ha.out]; exact putSel_upk 8 hb_ rfl rfl rfl), Q_HB6, Q_HS6, Q_P6, Q_Q6, fun h0_ => absurd ((hoff 21 (by kernel_rfl)).symm.trans h0_) (by decide)⟩
        refine steps_cons ?_ ?_
        · rintro b a w' ⟨v71, ha, Q_HB6, Q_HS6, Q_P6, Q_Q6, Q_S71⟩ hb_ hon hoff
          refine ⟨_, rfl, fun K hK => ?_⟩
          have e56 : a.tmps[56]? = some ((.bool false)) := by rw [ha]; exact putSel_on (e := (6, 56, (.bool false))) 6 rfl rfl (hon 6 (by kernel_rfl)) rfl
          have e58 : a.tmps[58]? = some ((.bool false)) := by rw [ha]; exact putSel_on (e := (8, 58, (.bool false))) 8 rfl rfl (hon 8 (by kernel_rfl)) rfl
          replace ha := Aside0.mk ha
          have HB6 := Aside0.mk Q_HB6
          have HS6 := Aside0.mk Q_HS6
          have P6 := Aside0.mk Q_P6
          have Q6 := Aside0.mk Q_Q6
          refine value_ (w1 := w') (v := (.bool false)) (by rfl) rfl ?_ ?_
          · go_simp
            (try simp only [i64_w])
            try rfl
          refine hK.out _ _ ⟨v71, (by rw [ha.out]; exact putSel_upk 9 hb_ rfl rfl rfl), Q_HB6, Q_HS6, Q_P6, Q_Q6, fun h0_ => absurd ((hoff 21 (by kernel_rfl)).symm.trans h0_) (by decide)⟩
        refine steps_cons ?_ ?_
        · rintro b a w' ⟨v71, ha, Q_HB6, Q_HS6, Q_P6, Q_Q6, Q_S71⟩ hb_ hon hoff
          refine ⟨_, rfl, fun K hK => ?_⟩
          have e59 : a.tmps[59]? = some ((.bool false)) := by rw [ha]; exact putSel_on (e := (9, 59, (.bool false))) 9 rfl rfl (hon 9 (by kernel_rfl)) rfl
          replace ha := Aside0.mk ha
          have HB6 := Aside0.mk Q_HB6
          have HS6 := Aside0.mk Q_HS6
          have P6 := Aside0.mk Q_P6
          have Q6 := Aside0.mk Q_Q6
          refine value_ (w1 := w') (v := (.bool false)) (by rfl) rfl ?_ ?_
          · go_simp
            (try simp only [i64_w])
            try rfl
          refine hK.out _ _ ⟨v71, (by rw [ha.out]; exact putSel_upk 10 hb_ rfl rfl rfl), Q_HB6, Q_HS6, Q_P6, Q_Q6, fun h0_ => absurd ((hoff 21 (by kernel_rfl)).symm.trans h0_) (by decide)⟩
        refine steps_cons ?_ ?_
        · rintro b a w' ⟨v71, ha, Q_HB6, Q_HS6, Q_P6, Q_Q6, Q_S71⟩ hb_ hon hoff
          refine ⟨_, rfl, fun K hK => ?_⟩
          have e11 : a.tmps[11]? = some ((.int .i64 (m : Int))) := by rw [ha]; exact (putSel_off rfl).trans rfl
          have e60 : a.tmps[60]? = some ((.bool false)) := by rw [ha]; exact putSel_on (e := (10, 60, (.bool false))) 10 rfl rfl (hon 10 (by kernel_rfl)) rfl
          replace ha := Aside0.mk ha
          have HB6 := Aside0.mk Q_HB6
          have HS6 := Aside0.mk Q_HS6
          have P6 := Aside0.mk Q_P6
          have Q6 := Aside0.mk Q_Q6
          refine value_ (w1 := w') (v := (.int .i64 (m : Int))) (wanted_on rfl rfl rfl (e60.trans (by first | rfl | (simp [*]; done)))) rfl ?_ ?_
          · go_simp
            (try simp only [i64_w])
            try rfl
          refine hK.out _ _ ⟨v71, (by rw [ha.out]; exact putSel_upk 11 hb_ rfl rfl rfl), Q_HB6, Q_HS6, Q_P6, Q_Q6, fun h0_ => absurd ((hoff 21 (by kernel_rfl)).symm.trans h0_) (by decide)⟩
        refine steps_cons ?_ ?_
        · rintro b a w' ⟨v71, ha, Q_HB6, Q_HS6, Q_P6, Q_Q6, Q_S71⟩ hb_ hon hoff
          refine ⟨_, rfl, fun K hK => ?_⟩
          have e61 : a.tmps[61]? = some ((.int .i64 (m : Int))) := by rw [ha]; exact putSel_on (e := (11, 61, (.int .i64 (m : Int)))) 11 rfl rfl (hon 11 (by kernel_rfl)) rfl
          have e60 : a.tmps[60]? = some ((.bool false)) := by rw [ha]; exact putSel_on (e := (10, 60, (.bool false))) 10 rfl rfl (hon 10 (by kernel_rfl)) rfl
          replace ha := Aside0.mk ha
          have HB6 := Aside0.mk Q_HB6
          have HS6 := Aside0.mk Q_HS6
          have P6 := Aside0.mk Q_P6
          have Q6 := Aside0.mk Q_Q6
          refine value_ (w1 := w') (v := (.bool false)) (wanted_on rfl rfl rfl (e60.trans (by first | rfl | (simp [*]; done)))) rfl ?_ ?_
          · go_simp
            (try simp only [i64_w])
            try rfl
          refine hK.out _ _ ⟨v71, (by rw [ha.out]; exact putSel_upk 12 hb_ rfl rfl rfl), Q_HB6, Q_HS6, Q_P6, Q_Q6, fun h0_ => absurd ((hoff 21 (by kernel_rfl)).symm.trans h0_) (by decide)⟩
        refine steps_cons ?_ ?_
        · rintro b a w' ⟨v71, ha, Q_HB6, Q_HS6, Q_P6, Q_Q6, Q_S71⟩ hb_ hon hoff
          refine ⟨_, rfl, fun K hK => ?_⟩
          have e60 : a.tmps[60]? = some ((.bool false)) := by rw [ha]; exact putSel_on (e := (10, 60, (.bool false))) 10 rfl rfl (hon 10 (by kernel_rfl)) rfl
          have e62 : a.tmps[62]? = some ((.bool false)) := by rw [ha]; exact putSel_on (e := (12, 62, (.bool false))) 12 rfl rfl (hon 12 (by kernel_rfl)) rfl
          replace ha := Aside0.mk ha
          have HB6 := Aside0.mk Q_HB6
          have HS6 := Aside0.mk Q_HS6
          have P6 := Aside0.mk Q_P6
          have Q6 := Aside0.mk Q_Q6
          refine value_ (w1 := w') (v := (.bool false)) (by rfl) rfl ?_ ?_
          · go_simp
            (try simp only [i64_w])
            try rfl
          refine hK.out _ _ ⟨v71, (by rw [ha.out]; exact putSel_upk 13 hb_ rfl rfl rfl), Q_HB6, Q_HS6, Q_P6, Q_Q6, fun h0_ => absurd ((hoff 21 (by kernel_rfl)).symm.trans h0_) (by decide)⟩
        refine steps_cons ?_ ?_
        · rintro b a w' ⟨v71, ha, Q_HB6, Q_HS6, Q_P6, Q_Q6, Q_S71⟩ hb_ hon hoff
          refine ⟨_, rfl, fun K hK => ?_⟩
          have e63 : a.tmps[63]? = some ((.bool false)) := by rw [ha]; exact putSel_on (e := (13, 63, (.bool false))) 13 rfl rfl (hon 13 (by kernel_rfl)) rfl
          replace ha := Aside0.mk ha
          have HB6 := Aside0.mk Q_HB6
          have HS6 := Aside0.mk Q_HS6
          have P6 := Aside0.mk Q_P6
          have Q6 := Aside0.mk Q_Q6
          refine value_ (w1 := w') (v := (.bool false)) (by rfl) rfl ?_ ?_
          · go_simp
            (try simp only [i64_w])
            try rfl
          refine hK.out _ _ ⟨v71, (by rw [ha.out]; exact putSel_upk 14 hb_ rfl rfl rfl), Q_HB6, Q_HS6, Q_P6, Q_Q6, fun h0_ => absurd ((hoff 21 (by kernel_rfl)).symm.trans h0_) (by decide)⟩
        refine steps_cons ?_ ?_
        · rintro b a w' ⟨v71, ha, Q_HB6, Q_HS6, Q_P6, Q_Q6, Q_S71⟩ hb_ hon hoff
          refine ⟨_, rfl, fun K hK => ?_⟩
          have e12 : a.tmps[12]? = some ((.pointer (some ⟨w5.heap.size, 0, none⟩))) := by rw [ha]; exact (putSel_off rfl).trans rfl
          have e64 : a.tmps[64]? = some ((.bool false)) := by rw [ha]; exact putSel_on (e := (14, 64, (.bool false))) 14 rfl rfl (hon 14 (by kernel_rfl)) rfl
          replace ha := Aside0.mk ha
          have HB6 := Aside0.mk Q_HB6
          have HS6 := Aside0.mk Q_HS6
          have P6 := Aside0.mk Q_P6
          have Q6 := Aside0.mk Q_Q6
          have q0_ : w'.cell? ⟨w5.heap.size, 0, none⟩ = some (.int .i64 pe) := by rw [cell_of_row w' _ 0 _ _ _ Q6.out]; rfl
          have q1_ : w'.cell? ⟨w5.heap.size, 1, none⟩ = some (.int .i64 ps) := by rw [cell_of_row w' _ 1 _ _ _ Q6.out]; rfl
          have q2_ : w'.cell? ⟨w5.heap.size, 2, none⟩ = some (.int .i64 pa) := by rw [cell_of_row w' _ 2 _ _ _ Q6.out]; rfl
          have q3_ : w'.cell? ⟨w5.heap.size, 3, none⟩ = some (.string pd) := by rw [cell_of_row w' _ 3 _ _ _ Q6.out]; rfl
          refine value_ (w1 := w') (v := (.agg #[.int .i64 pe, .int .i64 ps, .int .i64 pa, .string pd])) (wanted_on rfl rfl rfl (e64.trans (by first | rfl | (simp [*]; done)))) rfl ?_ ?_
          · go_simp
            (try simp only [i64_w])
            try rfl
          refine hK.out _ _ ⟨v71, (by rw [ha.out]; exact putSel_upk 15 hb_ rfl rfl rfl), Q_HB6, Q_HS6, Q_P6, Q_Q6, fun h0_ => absurd ((hoff 21 (by kernel_rfl)).symm.trans h0_) (by decide)⟩
        refine steps_cons ?_ ?_
        · rintro b a w' ⟨v71, ha, Q_HB6, Q_HS6, Q_P6, Q_Q6, Q_S71⟩ hb_ hon hoff
          refine ⟨_, rfl, fun K hK => ?_⟩
          have e65 : a.tmps[65]? = some ((.agg #[.int .i64 pe, .int .i64 ps, .int .i64 pa, .string pd])) := by rw [ha]; exact putSel_on (e := (15, 65, (.agg #[.int .i64 pe, .int .i64 ps, .int .i64 pa, .string pd]))) 15 rfl rfl (hon 15 (by kernel_rfl)) rfl
          have e64 : a.tmps[64]? = some ((.bool false)) := by rw [ha]; exact putSel_on (e := (14, 64, (.bool false))) 14 rfl rfl (hon 14 (by kernel_rfl)) rfl
          replace ha := Aside0.mk ha
          have HB6 := Aside0.mk Q_HB6
          have HS6 := Aside0.mk Q_HS6
          have P6 := Aside0.mk Q_P6
          have Q6 := Aside0.mk Q_Q6
          refine goes_ Try.func16 (by kernel_rfl) rfl #[.agg #[.int .i64 pe, .int .i64 ps, .int .i64 pa, .string pd]] (wanted_on rfl rfl rfl (e64.trans (by first | rfl | (simp [*]; done)))) rfl rfl (by first | (simp only [List.map_toArray, List.map_cons, List.map_nil, Act.eval, Array.getD_eq_getD_getElem?, Option.getD_some, e65, e64]; done) | (simp only [List.map_toArray, List.map_cons, List.map_nil, Act.eval, Array.getD_eq_getD_getElem?, Option.getD_some, e65, e64]; rfl)) ?_
          refine (HGD.out _).mono ?_
          rintro e w1_ ⟨rfl, hb⟩
          refine ⟨_, rfl, ?_⟩
          refine hK.out _ _ ⟨v71, (by rw [ha.out]; exact putSel_upk 16 hb_ rfl rfl rfl), below_step HB6.out hb, HS6.out.below hb, (hb.block _ (lt_of P6.out)).trans P6.out, (hb.block _ (lt_of Q6.out)).trans Q6.out, fun h0_ => absurd ((hoff 21 (by kernel_rfl)).symm.trans h0_) (by decide)⟩
        refine steps_cons ?_ ?_
        · rintro b a w' ⟨v71, ha, Q_HB6, Q_HS6, Q_P6, Q_Q6, Q_S71⟩ hb_ hon hoff
          refine ⟨_, rfl, fun K hK => ?_⟩
          have e66 : a.tmps[66]? = some ((.bool true)) := by rw [ha]; exact putSel_on (e := (16, 66, (.bool true))) 16 rfl rfl (hon 16 (by kernel_rfl)) rfl
          have e64 : a.tmps[64]? = some ((.bool false)) := by rw [ha]; exact putSel_on (e := (14, 64, (.bool false))) 14 rfl rfl (hon 14 (by kernel_rfl)) rfl
          replace ha := Aside0.mk ha
          have HB6 := Aside0.mk Q_HB6
          have HS6 := Aside0.mk Q_HS6
          have P6 := Aside0.mk Q_P6
          have Q6 := Aside0.mk Q_Q6
          refine value_ (w1 := w') (v := (.bool false)) (wanted_on rfl rfl rfl (e64.trans (by first | rfl | (simp [*]; done)))) rfl ?_ ?_
          · go_simp
            (try simp only [i64_w])
            try rfl
          refine hK.out _ _ ⟨v71, (by rw [ha.out]; exact putSel_upk 17 hb_ rfl rfl rfl), Q_HB6, Q_HS6, Q_P6, Q_Q6, fun h0_ => absurd ((hoff 21 (by kernel_rfl)).symm.trans h0_) (by decide)⟩
        refine steps_cons ?_ ?_
        · rintro b a w' ⟨v71, ha, Q_HB6, Q_HS6, Q_P6, Q_Q6, Q_S71⟩ hb_ hon hoff
          refine ⟨_, rfl, fun K hK => ?_⟩
          have e64 : a.tmps[64]? = some ((.bool false)) := by rw [ha]; exact putSel_on (e := (14, 64, (.bool false))) 14 rfl rfl (hon 14 (by kernel_rfl)) rfl
          have e67 : a.tmps[67]? = some ((.bool false)) := by rw [ha]; exact putSel_on (e := (17, 67, (.bool false))) 17 rfl rfl (hon 17 (by kernel_rfl)) rfl
          replace ha := Aside0.mk ha
          have HB6 := Aside0.mk Q_HB6
          have HS6 := Aside0.mk Q_HS6
          have P6 := Aside0.mk Q_P6
          have Q6 := Aside0.mk Q_Q6
          refine value_ (w1 := w') (v := (.bool false)) (by rfl) rfl ?_ ?_
          · go_simp
            (try simp only [i64_w])
            try rfl
          refine hK.out _ _ ⟨v71, (by rw [ha.out]; exact putSel_upk 18 hb_ rfl rfl rfl), Q_HB6, Q_HS6, Q_P6, Q_Q6, fun h0_ => absurd ((hoff 21 (by kernel_rfl)).symm.trans h0_) (by decide)⟩
        refine steps_cons ?_ ?_
        · rintro b a w' ⟨v71, ha, Q_HB6, Q_HS6, Q_P6, Q_Q6, Q_S71⟩ hb_ hon hoff
          refine ⟨_, rfl, fun K hK => ?_⟩
          have e68 : a.tmps[68]? = some ((.bool false)) := by rw [ha]; exact putSel_on (e := (18, 68, (.bool false))) 18 rfl rfl (hon 18 (by kernel_rfl)) rfl
          replace ha := Aside0.mk ha
          have HB6 := Aside0.mk Q_HB6
          have HS6 := Aside0.mk Q_HS6
          have P6 := Aside0.mk Q_P6
          have Q6 := Aside0.mk Q_Q6
          refine value_ (w1 := w') (v := (.bool false)) (by rfl) rfl ?_ ?_
          · go_simp
            (try simp only [i64_w])
            try rfl
          refine hK.out _ _ ⟨v71, (by rw [ha.out]; exact putSel_upk 19 hb_ rfl rfl rfl), Q_HB6, Q_HS6, Q_P6, Q_Q6, fun h0_ => absurd ((hoff 21 (by kernel_rfl)).symm.trans h0_) (by decide)⟩
        refine steps_cons ?_ ?_
        · rintro b a w' ⟨v71, ha, Q_HB6, Q_HS6, Q_P6, Q_Q6, Q_S71⟩ hb_ hon hoff
          refine ⟨_, rfl, fun K hK => ?_⟩
          have e12 : a.tmps[12]? = some ((.pointer (some ⟨w5.heap.size, 0, none⟩))) := by rw [ha]; exact (putSel_off rfl).trans rfl
          have e69 : a.tmps[69]? = some ((.bool false)) := by rw [ha]; exact putSel_on (e := (19, 69, (.bool false))) 19 rfl rfl (hon 19 (by kernel_rfl)) rfl
          replace ha := Aside0.mk ha
          have HB6 := Aside0.mk Q_HB6
          have HS6 := Aside0.mk Q_HS6
          have P6 := Aside0.mk Q_P6
          have Q6 := Aside0.mk Q_Q6
          have q0_ : w'.cell? ⟨w5.heap.size, 0, none⟩ = some (.int .i64 pe) := by rw [cell_of_row w' _ 0 _ _ _ Q6.out]; rfl
          have q1_ : w'.cell? ⟨w5.heap.size, 1, none⟩ = some (.int .i64 ps) := by rw [cell_of_row w' _ 1 _ _ _ Q6.out]; rfl
          have q2_ : w'.cell? ⟨w5.heap.size, 2, none⟩ = some (.int .i64 pa) := by rw [cell_of_row w' _ 2 _ _ _ Q6.out]; rfl
          have q3_ : w'.cell? ⟨w5.heap.size, 3, none⟩ = some (.string pd) := by rw [cell_of_row w' _ 3 _ _ _ Q6.out]; rfl
          refine value_ (w1 := w') (v := (.agg #[.int .i64 pe, .int .i64 ps, .int .i64 pa, .string pd])) (wanted_on rfl rfl rfl (e69.trans (by first | rfl | (simp [*]; done)))) rfl ?_ ?_
          · go_simp
            (try simp only [i64_w])
            try rfl
          refine hK.out _ _ ⟨v71, (by rw [ha.out]; exact putSel_upk 20 hb_ rfl rfl rfl), Q_HB6, Q_HS6, Q_P6, Q_Q6, fun h0_ => absurd ((hoff 21 (by kernel_rfl)).symm.trans h0_) (by decide)⟩
        refine steps_cons ?_ ?_
        · rintro b a w' ⟨v71, ha, Q_HB6, Q_HS6, Q_P6, Q_Q6, Q_S71⟩ hb_ hon hoff
          refine ⟨_, rfl, fun K hK => ?_⟩
          have e70 : a.tmps[70]? = some ((.agg #[.int .i64 pe, .int .i64 ps, .int .i64 pa, .string pd])) := by rw [ha]; exact putSel_on (e := (20, 70, (.agg #[.int .i64 pe, .int .i64 ps, .int .i64 pa, .string pd]))) 20 rfl rfl (hon 20 (by kernel_rfl)) rfl
          have e69 : a.tmps[69]? = some ((.bool false)) := by rw [ha]; exact putSel_on (e := (19, 69, (.bool false))) 19 rfl rfl (hon 19 (by kernel_rfl)) rfl
          replace ha := Aside0.mk ha
          have HB6 := Aside0.mk Q_HB6
          have HS6 := Aside0.mk Q_HS6
          have P6 := Aside0.mk Q_P6
          have Q6 := Aside0.mk Q_Q6
          refine goes_ Try.func40 (by kernel_rfl) rfl #[.agg #[.int .i64 pe, .int .i64 ps, .int .i64 pa, .string pd]] (wanted_on rfl rfl rfl (e69.trans (by first | rfl | (simp [*]; done)))) rfl rfl (by first | (simp only [List.map_toArray, List.map_cons, List.map_nil, Act.eval, Array.getD_eq_getD_getElem?, Option.getD_some, e70, e69]; done) | (simp only [List.map_toArray, List.map_cons, List.map_nil, Act.eval, Array.getD_eq_getD_getElem?, Option.getD_some, e70, e69]; rfl)) ?_
          refine (HBD.out _).mono ?_
          rintro e w1_ ⟨v71, rfl, hs, hb⟩
          refine ⟨_, rfl, ?_⟩
          refine hK.out _ _ ⟨v71, (by rw [ha.out]; exact putSel_upk 21 hb_ rfl rfl rfl), below_step HB6.out hb, HS6.out.below hb, (hb.block _ (lt_of P6.out)).trans P6.out, (hb.block _ (lt_of Q6.out)).trans Q6.out, fun _ => hs⟩
        refine steps_cons ?_ ?_
        · rintro b a w' ⟨v71, ha, Q_HB6, Q_HS6, Q_P6, Q_Q6, Q_S71⟩ hb_ hon hoff
          refine ⟨_, rfl, fun K hK => ?_⟩
          have e71 : a.tmps[71]? = some (v71) := by rw [ha]; exact putSel_on (e := (21, 71, v71)) 21 rfl rfl (hon 21 (by kernel_rfl)) rfl
          have e69 : a.tmps[69]? = some ((.bool false)) := by rw [ha]; exact putSel_on (e := (19, 69, (.bool false))) 19 rfl rfl (hon 19 (by kernel_rfl)) rfl
          replace ha := Aside0.mk ha
          have HB6 := Aside0.mk Q_HB6
          have HS6 := Aside0.mk Q_HS6
          have P6 := Aside0.mk Q_P6
          have Q6 := Aside0.mk Q_Q6
          have S71 := Aside0.mk (Q_S71 (hon 21 (by kernel_rfl)))
          have hc_ := Sl.string (P := Try.prog) Try.underlying25 Try.underlying5 Try.underlying9 S71.out
          refine value_ (w1 := w') (v := (.string (strOfNums B))) (wanted_on rfl rfl rfl (e69.trans (by first | rfl | (simp [*]; done)))) rfl ?_ ?_
          · go_simp
            (try simp only [i64_w])
            try rfl
          refine hK.out _ _ ⟨v71, (by rw [ha.out]; exact putSel_upk 22 hb_ rfl rfl rfl), Q_HB6, Q_HS6, Q_P6, Q_Q6, Q_S71⟩
        refine steps_cons ?_ ?_
        · rintro b a w' ⟨v71, ha, Q_HB6, Q_HS6, Q_P6, Q_Q6, Q_S71⟩ hb_ hon hoff
          refine ⟨_, rfl, fun K hK => ?_⟩
          have e0 : a.tmps[0]? = some ((.slice A l.length c)) := by rw [ha]; exact (putSel_off rfl).trans rfl
          have e69 : a.tmps[69]? = some ((.bool false)) := by rw [ha]; exact putSel_on (e := (19, 69, (.bool false))) 19 rfl rfl (hon 19 (by kernel_rfl)) rfl
          replace ha := Aside0.mk ha
          have HB6 := Aside0.mk Q_HB6
          have HS6 := Aside0.mk Q_HS6
          have P6 := Aside0.mk Q_P6
          have Q6 := Aside0.mk Q_Q6
          refine value_ (w1 := w') (v := (.slice A l.length c)) (wanted_on rfl rfl rfl (e69.trans (by first | rfl | (simp [*]; done)))) rfl ?_ ?_
          · go_simp
            (try simp only [i64_w])
            try rfl
          refine hK.out _ _ ⟨v71, (by rw [ha.out]; exact putSel_upk 23 hb_ rfl rfl rfl), Q_HB6, Q_HS6, Q_P6, Q_Q6, Q_S71⟩
        refine steps_cons ?_ ?_
        · rintro b a w' ⟨v71, ha, Q_HB6, Q_HS6, Q_P6, Q_Q6, Q_S71⟩ hb_ hon hoff
          refine ⟨_, rfl, fun K hK => ?_⟩
          have e73 : a.tmps[73]? = some ((.slice A l.length c)) := by rw [ha]; exact putSel_on (e := (23, 73, (.slice A l.length c))) 23 rfl rfl (hon 23 (by kernel_rfl)) rfl
          have e69 : a.tmps[69]? = some ((.bool false)) := by rw [ha]; exact putSel_on (e := (19, 69, (.bool false))) 19 rfl rfl (hon 19 (by kernel_rfl)) rfl
          replace ha := Aside0.mk ha
          have HB6 := Aside0.mk Q_HB6
          have HS6 := Aside0.mk Q_HS6
          have P6 := Aside0.mk Q_P6
          have Q6 := Aside0.mk Q_Q6
          have hc_ := Sl.string (P := Try.prog) Try.underlying25 Try.underlying5 Try.underlying9 HS6.out
          refine value_ (w1 := w') (v := (.string (strOfNums l))) (wanted_on rfl rfl rfl (e69.trans (by first | rfl | (simp [*]; done)))) rfl ?_ ?_
          · go_simp
            (try simp only [i64_w])
            try rfl
          refine hK.out _ _ ⟨v71, (by rw [ha.out]; exact putSel_upk 24 hb_ rfl rfl rfl), Q_HB6, Q_HS6, Q_P6, Q_Q6, Q_S71⟩
        refine steps_cons ?_ ?_
        · rintro b a w' ⟨v71, ha, Q_HB6, Q_HS6, Q_P6, Q_Q6, Q_S71⟩ hb_ hon hoff
          refine ⟨_, rfl, fun K hK => ?_⟩
          have e72 : a.tmps[72]? = some ((.string (strOfNums B))) := by rw [ha]; exact putSel_on (e := (22, 72, (.string (strOfNums B)))) 22 rfl rfl (hon 22 (by kernel_rfl)) rfl
          have e74 : a.tmps[74]? = some ((.string (strOfNums l))) := by rw [ha]; exact putSel_on (e := (24, 74, (.string (strOfNums l)))) 24 rfl rfl (hon 24 (by kernel_rfl)) rfl
          have e69 : a.tmps[69]? = some ((.bool false)) := by rw [ha]; exact putSel_on (e := (19, 69, (.bool false))) 19 rfl rfl (hon 19 (by kernel_rfl)) rfl
          replace ha := Aside0.mk ha
          have HB6 := Aside0.mk Q_HB6
          have HS6 := Aside0.mk Q_HS6
          have P6 := Aside0.mk Q_P6
          have Q6 := Aside0.mk Q_Q6
          have S71 := Aside0.mk (Q_S71 (hon 21 (by kernel_rfl)))
          refine value_ (w1 := w') (v := (.bool false)) (wanted_on rfl rfl rfl (e69.trans (by first | rfl | (simp [*]; done)))) rfl ?_ ?_
          · go_simp
            (try simp only [i64_w])
            try rfl
          refine hK.out _ _ ⟨v71, (by rw [ha.out]; exact putSel_upk 25 hb_ rfl rfl rfl), Q_HB6, Q_HS6, Q_P6, Q_Q6, Q_S71⟩
        refine steps_cons ?_ ?_
        · rintro b a w' ⟨v71, ha, Q_HB6, Q_HS6, Q_P6, Q_Q6, Q_S71⟩ hb_ hon hoff
          refine ⟨_, rfl, fun K hK => ?_⟩
          have e69 : a.tmps[69]? = some ((.bool false)) := by rw [ha]; exact putSel_on (e := (19, 69, (.bool false))) 19 rfl rfl (hon 19 (by kernel_rfl)) rfl
          have e75 : a.tmps[75]? = some ((.bool false)) := by rw [ha]; exact putSel_on (e := (25, 75, (.bool false))) 25 rfl rfl (hon 25 (by kernel_rfl)) rfl
          replace ha := Aside0.mk ha
          have HB6 := Aside0.mk Q_HB6
          have HS6 := Aside0.mk Q_HS6
          have P6 := Aside0.mk Q_P6
          have Q6 := Aside0.mk Q_Q6
          have S71 := Aside0.mk (Q_S71 (hon 21 (by kernel_rfl)))
          refine value_ (w1 := w') (v := (.bool false)) (by rfl) rfl ?_ ?_
          · go_simp
            (try simp only [i64_w])
            try rfl
          refine hK.out _ _ ⟨v71, (by rw [ha.out]; exact putSel_upk 26 hb_ rfl rfl rfl), Q_HB6, Q_HS6, Q_P6, Q_Q6, Q_S71⟩
        exact steps_nil
      rintro b a w9 hall ⟨v71, ha, Q_HB6, Q_HS6, Q_P6, Q_Q6, Q_S71⟩
      clear HB6 HS6 P6 Q6
      have hb0_ := hall 0 (by kernel_rfl)
      have hb1_ := hall 1 (by kernel_rfl)
      have hb2_ := hall 2 (by kernel_rfl)
      have hb3_ := hall 3 (by kernel_rfl)
      have hb4_ := hall 4 (by kernel_rfl)
      have hb5_ := hall 5 (by kernel_rfl)
      have hb6_ := hall 6 (by kernel_rfl)
      have hb7_ := hall 7 (by kernel_rfl)
      have hb8_ := hall 8 (by kernel_rfl)
      have hb9_ := hall 9 (by kernel_rfl)
      have hb10_ := hall 10 (by kernel_rfl)
      have hb11_ := hall 11 (by kernel_rfl)
      have hb12_ := hall 12 (by kernel_rfl)
      have hb13_ := hall 13 (by kernel_rfl)
      have hb14_ := hall 14 (by kernel_rfl)
      have hb15_ := hall 15 (by kernel_rfl)
      have hb16_ := hall 16 (by kernel_rfl)
      have hb17_ := hall 17 (by kernel_rfl)
      have hb18_ := hall 18 (by kernel_rfl)
      have hb19_ := hall 19 (by kernel_rfl)
      have hb20_ := hall 20 (by kernel_rfl)
      have hb21_ := hall 21 (by kernel_rfl)
      have hb22_ := hall 22 (by kernel_rfl)
      have hb23_ := hall 23 (by kernel_rfl)
      have hb24_ := hall 24 (by kernel_rfl)
      have hb25_ := hall 25 (by kernel_rfl)
      have hb26_ := hall 26 (by kernel_rfl)
      subst ha
      simp only [putSel, hb0_, hb1_, hb2_, hb3_, hb4_, hb5_, hb6_, hb7_, hb8_, hb9_, hb10_, hb11_, hb12_, hb13_, hb14_, hb15_, hb16_, hb17_, hb18_, hb19_, hb20_, hb21_, hb22_, hb23_, hb24_, hb25_, hb26_, if_true, Act.put, List.setIfInBounds_toArray, List.set_cons_zero, List.set_cons_succ]
      have HB6 := Aside0.mk Q_HB6
      clear Q_HB6
      have HS6 := Aside0.mk Q_HS6
      clear Q_HS6
      have P6 := Aside0.mk Q_P6
      clear Q_P6
      have Q6 := Aside0.mk Q_Q6
      clear Q_Q6
      have S71 := Aside0.mk (Q_S71 hb21_)
      clear Q_S71
      clear hall hb0_ hb1_ hb2_ hb3_ hb4_ hb5_ hb6_ hb7_ hb8_ hb9_ hb10_ hb11_ hb12_ hb13_ hb14_ hb15_ hb16_ hb17_ hb18_ hb19_ hb20_ hb21_ hb22_ hb23_ hb24_ hb25_ hb26_
      have q0 : w9.cell? ⟨w5.heap.size, 0, none⟩ = some (.int .i64 pe) := by rw [cell_of_row w9 _ 0 _ _ _ Q6.out]; rfl
      have q1 : w9.cell? ⟨w5.heap.size, 1, none⟩ = some (.int .i64 ps) := by rw [cell_of_row w9 _ 1 _ _ _ Q6.out]; rfl
      have q2 : w9.cell? ⟨w5.heap.size, 2, none⟩ = some (.int .i64 pa) := by rw [cell_of_row w9 _ 2 _ _ _ Q6.out]; rfl
      have q3 : w9.cell? ⟨w5.heap.size, 3, none⟩ = some (.string pd) := by rw [cell_of_row w9 _ 3 _ _ _ Q6.out]; rfl
      have p0 : w9.cell? ⟨w.heap.size, 0, none⟩ = some (.int .i64 0) := by rw [cell_of_row w9 _ 0 _ _ _ P6.out]; rfl
      have p1 : w9.cell? ⟨w.heap.size, 1, none⟩ = some (.int .i64 0) := by rw [cell_of_row w9 _ 1 _ _ _ P6.out]; rfl
      have p2 : w9.cell? ⟨w.heap.size, 2, none⟩ = some (.int .i64 0) := by rw [cell_of_row w9 _ 2 _ _ _ P6.out]; rfl
      have p3 : w9.cell? ⟨w.heap.size, 3, none⟩ = some (.string ⟨#[]⟩) := by rw [cell_of_row w9 _ 3 _ _ _ P6.out]; rfl
      have f0 : w9.frozen? ⟨w.heap.size, 0, none⟩ = false := frozen_of_row w9 _ 0 _ _ P6.out
      have f1 : w9.frozen? ⟨w.heap.size, 1, none⟩ = false := frozen_of_row w9 _ 1 _ _ P6.out
      have f2 : w9.frozen? ⟨w.heap.size, 2, none⟩ = false := frozen_of_row w9 _ 2 _ _ P6.out
      have f3 : w9.frozen? ⟨w.heap.size, 3, none⟩ = false := frozen_of_row w9 _ 3 _ _ P6.out
      go_wp2_with fail
      refine bodyPost_ret (results_ct rfl _ _ w.heap.size 23 #[.int .i64 pe, .int .i64 ps, .int .i64 pa, .string pd] (0, 0) _ rfl (pack_set P6.out) Try.underlying23 rfl (by kernel_rfl)) rfl ?_
      exact ⟨by rw [HGET.out]; rfl, below_set4 HB6.out (Nat.le_refl _) _ _ _ _⟩
    · have HGET := Aside0.mk (show parse l = none by rw [HY.out, if_neg (fun h => hbl h.2)])
      have hq : ((strOfNums B).toList == (strOfNums l).toList) = false := by
        rw [beq_eq_false_iff_ne]
        exact Byt.str_eq' hokb HO.out hbl
      rw [hgp] at hgd
      have HGD := Aside0.mk hgd
      clear hgp hgd hbl hokb
      refine start_ (n := 27) (S := fun w' => True) (ds := []) #[false, false, false, false, false, false, false, false, false, false, false, false, false, false, false, false, false, false, false, false, false, false, false, false, false, false, false] (by kernel_rfl) rfl rfl trivial (fun hHeld => ?_); refine with_tabW rparse.tab6 rparse.bits6 (fun HT_ HW_ => ?_)
      refine inv_at [0, 1, 2, 3, 4, 5, 6, 7, 8, 9, 10, 11, 12, 13, 14, 15, 16, 17, 18, 19, 20, 21, 22, 23, 24, 25, 26] (fun a0_ b a w' => ∃ (v71 : Value), a = putSel a0_ b [(0, 50, (.int .i64 (i : Int))), (1, 51, (.bool false)), (2, 52, (.bool false)), (3, 53, (.int .i64 (j : Int))), (4, 54, (.bool false)), (5, 55, (.bool false)), (6, 56, (.bool false)), (7, 57, (.int .i64 (k : Int))), (8, 58, (.bool false)), (9, 59, (.bool false)), (10, 60, (.bool false)), (11, 61, (.int .i64 (m : Int))), (12, 62, (.bool false)), (13, 63, (.bool false)), (14, 64, (.bool false)), (15, 65, (.agg #[.int .i64 pe, .int .i64 ps, .int .i64 pa, .string pd])), (16, 66, (.bool true)), (17, 67, (.bool false)), (18, 68, (.bool false)), (19, 69, (.bool false)), (20, 70, (.agg #[.int .i64 pe, .int .i64 ps, .int .i64 pa, .string pd])), (21, 71, v71), (22, 72, (.string (strOfNums B))), (23, 73, (.slice A l.length c)), (24, 74, (.string (strOfNums l))), (25, 75, (.bool true)), (26, 76, (.bool true))] ∧ (Below w.heap.size w w') ∧ (Sl w' (.slice A l.length c) l) ∧ (w'.heap[w.heap.size]? = some (.cells #[.int .i64 0, .int .i64 0, .int .i64 0, .string ⟨#[]⟩] 23 (0, 0))) ∧ (w'.heap[w5.heap.size]? = some (.cells #[.int .i64 pe, .int .i64 ps, .int .i64 pa, .string pd] 23 (0, 0))) ∧ (b 21 = true → Sl w' v71 B)) HT_.out HW_.out (by kernel_rfl) (by kernel_rfl) ?_ ?_ ?_
      · exact ⟨.bool false, by simp only [putSel, Bool.false_eq_true, if_false], below_drew1 HB6.out, HS6.out.drew, P6.out, Q6.out, fun h_ => absurd h_ (by decide)⟩
      · skip
        clear HB6 HS6 P6 Q6
        refine steps_cons ?_ ?_
        · rintro b a w' ⟨v71, ha, Q_HB6, Q_HS6, Q_P6, Q_Q6, Q_S71⟩ hb_ hon hoff
          refine ⟨_, rfl, fun K hK => ?_⟩
          have e5 : a.tmps[5]? = some ((.int .i64 (i : Int))) := by rw [ha]; exact (putSel_off rfl).trans rfl
          replace ha := Aside0.mk ha
          have HB6 := Aside0.mk Q_HB6
          have HS6 := Aside0.mk Q_HS6
          have P6 := Aside0.mk Q_P6
          have Q6 := Aside0.mk Q_Q6
          refine value_ (w1 := w') (v := (.int .i64 (i : Int))) (by rfl) rfl ?_ ?_
          · go_simp
            (try simp only [i64_w])
            try rfl
          refine hK.out _ _ ⟨v71, (by rw [ha.out]; exact putSel_upk 0 hb_ rfl rfl rfl), Q_HB6, Q_HS6, Q_P6, Q_Q6, fun h0_ => absurd ((hoff 21 (by kernel_rfl)).symm.trans h0_) (by decide)⟩
        refine steps_cons ?_ ?_
        · rintro b a w' ⟨v71, ha, Q_HB6, Q_HS6, Q_P6, Q_Q6, Q_S71⟩ hb_ hon hoff
          refine ⟨_, rfl, fun K hK => ?_⟩
          have e50 : a.tmps[50]? = some ((.int .i64 (i : Int))) := by rw [ha]; exact putSel_on (e := (0, 50, (.int .i64 (i : Int)))) 0 rfl rfl (hon 0 (by kernel_rfl)) rfl
          replace ha := Aside0.mk ha
          have HB6 := Aside0.mk Q_HB6
          have HS6 := Aside0.mk Q_HS6
          have P6 := Aside0.mk Q_P6
          have Q6 := Aside0.mk Q_Q6
          refine value_ (w1 := w') (v := (.bool false)) (by rfl) rfl ?_ ?_
          · go_simp
            (try simp only [i64_w])
            try rfl
          refine hK.out _ _ ⟨v71, (by rw [ha.out]; exact putSel_upk 1 hb_ rfl rfl rfl), Q_HB6, Q_HS6, Q_P6, Q_Q6, fun h0_ => absurd ((hoff 21 (by kernel_rfl)).symm.trans h0_) (by decide)⟩
        refine steps_cons ?_ ?_
        · rintro b a w' ⟨v71, ha, Q_HB6, Q_HS6, Q_P6, Q_Q6, Q_S71⟩ hb_ hon hoff
          refine ⟨_, rfl, fun K hK => ?_⟩
          have e51 : a.tmps[51]? = some ((.bool false)) := by rw [ha]; exact putSel_on (e := (1, 51, (.bool false))) 1 rfl rfl (hon 1 (by kernel_rfl)) rfl
          replace ha := Aside0.mk ha
          have HB6 := Aside0.mk Q_HB6
          have HS6 := Aside0.mk Q_HS6
          have P6 := Aside0.mk Q_P6
          have Q6 := Aside0.mk Q_Q6
          refine value_ (w1 := w') (v := (.bool false)) (by rfl) rfl ?_ ?_
          · go_simp
            (try simp only [i64_w])
            try rfl
          refine hK.out _ _ ⟨v71, (by rw [ha.out]; exact putSel_upk 2 hb_ rfl rfl rfl), Q_HB6, Q_HS6, Q_P6, Q_Q6, fun h0_ => absurd ((hoff 21 (by kernel_rfl)).symm.trans h0_) (by decide)⟩
        refine steps_cons ?_ ?_
        · rintro b a w' ⟨v71, ha, Q_HB6, Q_HS6, Q_P6, Q_Q6, Q_S71⟩ hb_ hon hoff
          refine ⟨_, rfl, fun K hK => ?_⟩
          have e7 : a.tmps[7]? = some ((.int .i64 (j : Int))) := by rw [ha]; exact (putSel_off rfl).trans rfl
          have e52 : a.tmps[52]? = some ((.bool false)) := by rw [ha]; exact putSel_on (e := (2, 52, (.bool false))) 2 rfl rfl (hon 2 (by kernel_rfl)) rfl
          replace ha := Aside0.mk ha
          have HB6 := Aside0.mk Q_HB6
          have HS6 := Aside0.mk Q_HS6
          have P6 := Aside0.mk Q_P6
          have Q6 := Aside0.mk Q_Q6
          refine value_ (w1 := w') (v := (.int .i64 (j : Int))) (wanted_on rfl rfl rfl (e52.trans (by first | rfl | (simp [*]; done)))) rfl ?_ ?_
          · go_simp
            (try simp only [i64_w])
            try rfl
          refine hK.out _ _ ⟨v71, (by rw [ha.out]; exact putSel_upk 3 hb_ rfl rfl rfl), Q_HB6, Q_HS6, Q_P6, Q_Q6, fun h0_ => absurd ((hoff 21 (by kernel_rfl)).symm.trans h0_) (by decide)⟩
        refine steps_cons ?_ ?_
        · rintro b a w' ⟨v71, ha, Q_HB6, Q_HS6, Q_P6, Q_Q6, Q_S71⟩ hb_ hon hoff
          refine ⟨_, rfl, fun K hK => ?_⟩
          have e53 : a.tmps[53]? = some ((.int .i64 (j : Int))) := by rw [ha]; exact putSel_on (e := (3, 53, (.int .i64 (j : Int)))) 3 rfl rfl (hon 3 (by kernel_rfl)) rfl
          have e52 : a.tmps[52]? = some ((.bool false)) := by rw [ha]; exact putSel_on (e := (2, 52, (.bool false))) 2 rfl rfl (hon 2 (by kernel_rfl)) rfl
          replace ha := Aside0.mk ha
          have HB6 := Aside0.mk Q_HB6
          have HS6 := Aside0.mk Q_HS6
          have P6 := Aside0.mk Q_P6
          have Q6 := Aside0.mk Q_Q6
          refine value_ (w1 := w') (v := (.bool false)) (wanted_on rfl rfl rfl (e52.trans (by first | rfl | (simp [*]; done)))) rfl ?_ ?_
          · go_simp
            (try simp only [i64_w])
            try rfl
          refine hK.out _ _ ⟨v71, (by rw [ha.out]; exact putSel_upk 4 hb_ rfl rfl rfl), Q_HB6, Q_HS6, Q_P6, Q_Q6, fun h0_ => absurd ((hoff 21 (by kernel_rfl)).symm.trans h0_) (by decide)⟩
        refine steps_cons ?_ ?_
        · rintro b a w' ⟨v71, ha, Q_HB6, Q_HS6, Q_P6, Q_Q6, Q_S71⟩ hb_ hon hoff
          refine ⟨_, rfl, fun K hK => ?_⟩
          have e52 : a.tmps[52]? = some ((.bool false)) := by rw [ha]; exact putSel_on (e := (2, 52, (.bool false))) 2 rfl rfl (hon 2 (by kernel_rfl)) rfl
          have e54 : a.tmps[54]? = some ((.bool false)) := by rw [ha]; exact putSel_on (e := (4, 54, (.bool false))) 4 rfl rfl (hon 4 (by kernel_rfl)) rfl
          replace ha := Aside0.mk ha
          have HB6 := Aside0.mk Q_HB6
          have HS6 := Aside0.mk Q_HS6
          have P6 := Aside0.mk Q_P6
          have Q6 := Aside0.mk Q_Q6
          refine value_ (w1 := w') (v := (.bool false)) (by rfl) rfl ?_ ?_
          · go_simp
            (try simp only [i64_w])
            try rfl
          refine hK.out _ _ ⟨v71, (by rw [ha.out]; exact putSel_upk 5 hb_ rfl rfl rfl), Q_HB6, Q_HS6, Q_P6, Q_Q6, fun h0_ => absurd ((hoff 21 (by kernel_rfl)).symm.trans h0_) (by decide)⟩
        refine steps_cons ?_ ?_
        · rintro b a w' ⟨v71, ha, Q_HB6, Q_HS6, Q_P6, Q_Q6, Q_S71⟩ hb_ hon hoff
          refine ⟨_, rfl, fun K hK => ?_⟩
          have e55 : a.tmps[55]? = some ((.bool false)) := by rw [ha]; exact putSel_on (e := (5, 55, (.bool false))) 5 rfl rfl (hon 5 (by kernel_rfl)) rfl
          replace ha := Aside0.mk ha
          have HB6 := Aside0.mk Q_HB6
          have HS6 := Aside0.mk Q_HS6
          have P6 := Aside0.mk Q_P6
          have Q6 := Aside0.mk Q_Q6
          refine value_ (w1 := w') (v := (.bool false)) (by rfl) rfl ?_ ?_
          · go_simp
            (try simp only [i64_w])
            try rfl
          refine hK.out _ _ ⟨v71, (by rw [ha.out]; exact putSel_upk 6 hb_ rfl rfl rfl), Q_HB6, Q_HS6, Q_P6, Q_Q6, fun h0_ => absurd ((hoff 21 (by kernel_rfl)).symm.trans h0_) (by decide)⟩
        refine steps_cons ?_ ?_
        · rintro b a w' ⟨v71, ha, Q_HB6, Q_HS6, Q_P6, Q_Q6, Q_S71⟩ hb_ hon hoff
          refine ⟨_, rfl, fun K hK => ?_⟩
          have e9 : a.tmps[9]? = some ((.int .i64 (k : Int))) := by rw [ha]; exact (putSel_off rfl).trans rfl
          have e56 : a.tmps[56]? = some ((.bool false)) := by rw [ha]; exact putSel_on (e := (6, 56, (.bool false))) 6 rfl rfl (hon 6 (by kernel_rfl)) rfl
          replace ha := Aside0.mk ha
          have HB6 := Aside0.mk Q_HB6
          have HS6 := Aside0.mk Q_HS6
          have P6 := Aside0.mk Q_P6
          have Q6 := Aside0.mk Q_Q6
          refine value_ (w1 := w') (v := (.int .i64 (k : Int))) (wanted_on rfl rfl rfl (e56.trans (by first | rfl | (simp [*]; done)))) rfl ?_ ?_
          · go_simp
            (try simp only [i64_w])
            try rfl
          refine hK.out _ _ ⟨v71, (by rw [ha.out]; exact putSel_upk 7 hb_ rfl rfl rfl), Q_HB6, Q_HS6, Q_P6, Q_Q6, fun h0_ => absurd ((hoff 21 (by kernel_rfl)).symm.trans h0_) (by decide)⟩
        refine steps_cons ?_ ?_
        · rintro b a w' ⟨v71, ha, Q_HB6, Q_HS6, Q_P6, Q_Q6, Q_S71⟩ hb_ hon hoff
          refine ⟨_, rfl, fun K hK => ?_⟩
          have e57 : a.tmps[57]? = some ((.int .i64 (k : Int))) := by rw [ha]; exact putSel_on (e := (7, 57, (.int .i64 (k : Int)))) 7 rfl rfl (hon 7 (by kernel_rfl)) rfl
          have e56 : a.tmps[56]? = some ((.bool false)) := by rw [ha]; exact putSel_on (e := (6, 56, (.bool false))) 6 rfl rfl (hon 6 (by kernel_rfl)) rfl
          replace ha := Aside0.mk ha
          have HB6 := Aside0.mk Q_HB6
          have HS6 := Aside0.mk Q_HS6
          have P6 := Aside0.mk Q_P6
          have Q6 := Aside0.mk Q_Q6
          refine value_ (w1 := w') (v := (.bool false)) (wanted_on rfl rfl rfl (e56.trans (by first | rfl | (simp [*]; done)))) rfl ?_ ?_
          · go_simp
            (try simp only [i64_w])
            try rfl
          refine hK.out _ _ ⟨v71, (by rw [ha.out]; exact putSel_upk 8 hb_ rfl rfl rfl), Q_HB6, Q_HS6, Q_P6, Q_Q6, fun h0_ => absurd ((hoff 21 (by kernel_rfl)).symm.trans h0_) (by decide)⟩
        refine steps_cons ?_ ?_
        · rintro b a w' ⟨v71, ha, Q_HB6, Q_HS6, Q_P6, Q_Q6, Q_S71⟩ hb_ hon hoff
          refine ⟨_, rfl, fun K hK => ?_⟩
          have e56 : a.tmps[56]? = some ((.bool false)) := by rw [ha]; exact putSel_on (e := (6, 56, (.bool false))) 6 rfl rfl (hon 6 (by kernel_rfl)) rfl
          have e58 : a.tmps[58]? = some ((.bool false)) := by rw [ha]; exact putSel_on (e := (8, 58, (.bool false))) 8 rfl rfl (hon 8 (by kernel_rfl)) rfl
          replace ha := Aside0.mk ha
          have HB6 := Aside0.mk Q_HB6
          have HS6 := Aside0.mk Q_HS6
          have P6 := Aside0.mk Q_P6
          have Q6 := Aside0.mk Q_Q6
          refine value_ (w1 := w') (v := (.bool false)) (by rfl) rfl ?_ ?_
          · go_simp
            (try simp only [i64_w])
            try rfl
          refine hK.out _ _ ⟨v71, (by rw [ha.out]; exact putSel_upk 9 hb_ rfl rfl rfl), Q_HB6, Q_HS6, Q_P6, Q_Q6, fun h0_ => absurd ((hoff 21 (by kernel_rfl)).symm.trans h0_) (by decide)⟩
        refine steps_cons ?_ ?_
        · rintro b a w' ⟨v71, ha, Q_HB6, Q_HS6, Q_P6, Q_Q6, Q_S71⟩ hb_ hon hoff
          refine ⟨_, rfl, fun K hK => ?_⟩
          have e59 : a.tmps[59]? = some ((.bool false)) := by rw [ha]; exact putSel_on (e := (9, 59, (.bool false))) 9 rfl rfl (hon 9 (by kernel_rfl)) rfl
          replace ha := Aside0.mk ha
          have HB6 := Aside0.mk Q_HB6
          have HS6 := Aside0.mk Q_HS6
          have P6 := Aside0.mk Q_P6
          have Q6 := Aside0.mk Q_Q6
          refine value_ (w1 := w') (v := (.bool false)) (by rfl) rfl ?_ ?_
          · go_simp
            (try simp only [i64_w])
            try rfl
          refine hK.out _ _ ⟨v71, (by rw [ha.out]; exact putSel_upk 10 hb_ rfl rfl rfl), Q_HB6, Q_HS6, Q_P6, Q_Q6, fun h0_ => absurd ((hoff 21 (by kernel_rfl)).symm.trans h0_) (by decide)⟩
        refine steps_cons ?_ ?_
        · rintro b a w' ⟨v71, ha, Q_HB6, Q_HS6, Q_P6, Q_Q6, Q_S71⟩ hb_ hon hoff
          refine ⟨_, rfl, fun K hK => ?_⟩
          have e11 : a.tmps[11]? = some ((.int .i64 (m : Int))) := by rw [ha]; exact (putSel_off rfl).trans rfl
          have e60 : a.tmps[60]? = some ((.bool false)) := by rw [ha]; exact putSel_on (e := (10, 60, (.bool false))) 10 rfl rfl (hon 10 (by kernel_rfl)) rfl
          replace ha := Aside0.mk ha
          have HB6 := Aside0.mk Q_HB6
          have HS6 := Aside0.mk Q_HS6
          have P6 := Aside0.mk Q_P6
          have Q6 := Aside0.mk Q_Q6
          refine value_ (w1 := w') (v := (.int .i64 (m : Int))) (wanted_on rfl rfl rfl (e60.trans (by first | rfl | (simp [*]; done)))) rfl ?_ ?_
          · go_simp
            (try simp only [i64_w])
            try rfl
          refine hK.out _ _ ⟨v71, (by rw [ha.out]; exact putSel_upk 11 hb_ rfl rfl rfl), Q_HB6, Q_HS6, Q_P6, Q_Q6, fun h0_ => absurd ((hoff 21 (by kernel_rfl)).symm.trans h0_) (by decide)⟩
        refine steps_cons ?_ ?_
        · rintro b a w' ⟨v71, ha, Q_HB6, Q_HS6, Q_P6, Q_Q6, Q_S71⟩ hb_ hon hoff
          refine ⟨_, rfl, fun K hK => ?_⟩
          have e61 : a.tmps[61]? = some ((.int .i64 (m : Int))) := by rw [ha]; exact putSel_on (e := (11, 61, (.int .i64 (m : Int)))) 11 rfl rfl (hon 11 (by kernel_rfl)) rfl
          have e60 : a.tmps[60]? = some ((.bool false)) := by rw [ha]; exact putSel_on (e := (10, 60, (.bool false))) 10 rfl rfl (hon 10 (by kernel_rfl)) rfl
          replace ha := Aside0.mk ha
          have HB6 := Aside0.mk Q_HB6
          have HS6 := Aside0.mk Q_HS6
          have P6 := Aside0.mk Q_P6
          have Q6 := Aside0.mk Q_Q6
          refine value_ (w1 := w') (v := (.bool false)) (wanted_on rfl rfl rfl (e60.trans (by first | rfl | (simp [*]; done)))) rfl ?_ ?_
          · go_simp
            (try simp only [i64_w])
            try rfl
          refine hK.out _ _ ⟨v71, (by rw [ha.out]; exact putSel_upk 12 hb_ rfl rfl rfl), Q_HB6, Q_HS6, Q_P6, Q_Q6, fun h0_ => absurd ((hoff 21 (by kernel_rfl)).symm.trans h0_) (by decide)⟩
        refine steps_cons ?_ ?_
        · rintro b a w' ⟨v71, ha, Q_HB6, Q_HS6, Q_P6, Q_Q6, Q_S71⟩ hb_ hon hoff
          refine ⟨_, rfl, fun K hK => ?_⟩
          have e60 : a.tmps[60]? = some ((.bool false)) := by rw [ha]; exact putSel_on (e := (10, 60, (.bool false))) 10 rfl rfl (hon 10 (by kernel_rfl)) rfl
          have e62 : a.tmps[62]? = some ((.bool false)) := by rw [ha]; exact putSel_on (e := (12, 62, (.bool false))) 12 rfl rfl (hon 12 (by kernel_rfl)) rfl
          replace ha := Aside0.mk ha
          have HB6 := Aside0.mk Q_HB6
          have HS6 := Aside0.mk Q_HS6
          have P6 := Aside0.mk Q_P6
          have Q6 := Aside0.mk Q_Q6
          refine value_ (w1 := w') (v := (.bool false)) (by rfl) rfl ?_ ?_
          · go_simp
            (try simp only [i64_w])
            try rfl
          refine hK.out _ _ ⟨v71, (by rw [ha.out]; exact putSel_upk 13 hb_ rfl rfl rfl), Q_HB6, Q_HS6, Q_P6, Q_Q6, fun h0_ => absurd ((hoff 21 (by kernel_rfl)).symm.trans h0_) (by decide)⟩
        refine steps_cons ?_ ?_
        · rintro b a w' ⟨v71, ha, Q_HB6, Q_HS6, Q_P6, Q_Q6, Q_S71⟩ hb_ hon hoff
          refine ⟨_, rfl, fun K hK => ?_⟩
          have e63 : a.tmps[63]? = some ((.bool false)) := by rw [ha]; exact putSel_on (e := (13, 63, (.bool false))) 13 rfl rfl (hon 13 (by kernel_rfl)) rfl
          replace ha := Aside0.mk ha
          have HB6 := Aside0.mk Q_HB6
          have HS6 := Aside0.mk Q_HS6
          have P6 := Aside0.mk Q_P6
          have Q6 := Aside0.mk Q_Q6
          refine value_ (w1 := w') (v := (.bool false)) (by rfl) rfl ?_ ?_
          · go_simp
            (try simp only [i64_w])
            try rfl
          refine hK.out _ _ ⟨v71, (by rw [ha.out]; exact putSel_upk 14 hb_ rfl rfl rfl), Q_HB6, Q_HS6, Q_P6, Q_Q6, fun h0_ => absurd ((hoff 21 (by kernel_rfl)).symm.trans h0_) (by decide)⟩
        refine steps_cons ?_ ?_
        · rintro b a w' ⟨v71, ha, Q_HB6, Q_HS6, Q_P6, Q_Q6, Q_S71⟩ hb_ hon hoff
          refine ⟨_, rfl, fun K hK => ?_⟩
          have e12 : a.tmps[12]? = some ((.pointer (some ⟨w5.heap.size, 0, none⟩))) := by rw [ha]; exact (putSel_off rfl).trans rfl
          have e64 : a.tmps[64]? = some ((.bool false)) := by rw [ha]; exact putSel_on (e := (14, 64, (.bool false))) 14 rfl rfl (hon 14 (by kernel_rfl)) rfl
          replace ha := Aside0.mk ha
          have HB6 := Aside0.mk Q_HB6
          have HS6 := Aside0.mk Q_HS6
          have P6 := Aside0.mk Q_P6
          have Q6 := Aside0.mk Q_Q6
          have q0_ : w'.cell? ⟨w5.heap.size, 0, none⟩ = some (.int .i64 pe) := by rw [cell_of_row w' _ 0 _ _ _ Q6.out]; rfl
          have q1_ : w'.cell? ⟨w5.heap.size, 1, none⟩ = some (.int .i64 ps) := by rw [cell_of_row w' _ 1 _ _ _ Q6.out]; rfl
          have q2_ : w'.cell? ⟨w5.heap.size, 2, none⟩ = some (.int .i64 pa) := by rw [cell_of_row w' _ 2 _ _ _ Q6.out]; rfl
          have q3_ : w'.cell? ⟨w5.heap.size, 3, none⟩ = some (.string pd) := by rw [cell_of_row w' _ 3 _ _ _ Q6.out]; rfl
          refine value_ (w1 := w') (v := (.agg #[.int .i64 pe, .int .i64 ps, .int .i64 pa, .string pd])) (wanted_on rfl rfl rfl (e64.trans (by first | rfl | (simp [*]; done)))) rfl ?_ ?_
          · go_simp
            (try simp only [i64_w])
            try rfl
          refine hK.out _ _ ⟨v71, (by rw [ha.out]; exact putSel_upk 15 hb_ rfl rfl rfl), Q_HB6, Q_HS6, Q_P6, Q_Q6, fun h0_ => absurd ((hoff 21 (by kernel_rfl)).symm.trans h0_) (by decide)⟩
        refine steps_cons ?_ ?_
        · rintro b a w' ⟨v71, ha, Q_HB6, Q_HS6, Q_P6, Q_Q6, Q_S71⟩ hb_ hon hoff
          refine ⟨_, rfl, fun K hK => ?_⟩
          have e65 : a.tmps[65]? = some ((.agg #[.int .i64 pe, .int .i64 ps, .int .i64 pa, .string pd])) := by rw [ha]; exact putSel_on (e := (15, 65, (.agg #[.int .i64 pe, .int .i64 ps, .int .i64 pa, .string pd]))) 15 rfl rfl (hon 15 (by kernel_rfl)) rfl
          have e64 : a.tmps[64]? = some ((.bool false)) := by rw [ha]; exact putSel_on (e := (14, 64, (.bool false))) 14 rfl rfl (hon 14 (by kernel_rfl)) rfl
          replace ha := Aside0.mk ha
          have HB6 := Aside0.mk Q_HB6
          have HS6 := Aside0.mk Q_HS6
          have P6 := Aside0.mk Q_P6
          have Q6 := Aside0.mk Q_Q6
          refine goes_ Try.func16 (by kernel_rfl) rfl #[.agg #[.int .i64 pe, .int .i64 ps, .int .i64 pa, .string pd]] (wanted_on rfl rfl rfl (e64.trans (by first | rfl | (simp [*]; done)))) rfl rfl (by first | (simp only [List.map_toArray, List.map_cons, List.map_nil, Act.eval, Array.getD_eq_getD_getElem?, Option.getD_some, e65, e64]; done) | (simp only [List.map_toArray, List.map_cons, List.map_nil, Act.eval, Array.getD_eq_getD_getElem?, Option.getD_some, e65, e64]; rfl)) ?_
          refine (HGD.out _).mono ?_
          rintro e w1_ ⟨rfl, hb⟩
          refine ⟨_, rfl, ?_⟩
          refine hK.out _ _ ⟨v71, (by rw [ha.out]; exact putSel_upk 16 hb_ rfl rfl rfl), below_step HB6.out hb, HS6.out.below hb, (hb.block _ (lt_of P6.out)).trans P6.out, (hb.block _ (lt_of Q6.out)).trans Q6.out, fun h0_ => absurd ((hoff 21 (by kernel_rfl)).symm.trans h0_) (by decide)⟩
        refine steps_cons ?_ ?_
        · rintro b a w' ⟨v71, ha, Q_HB6, Q_HS6, Q_P6, Q_Q6, Q_S71⟩ hb_ hon hoff
          refine ⟨_, rfl, fun K hK => ?_⟩
          have e66 : a.tmps[66]? = some ((.bool true)) := by rw [ha]; exact putSel_on (e := (16, 66, (.bool true))) 16 rfl rfl (hon 16 (by kernel_rfl)) rfl
          have e64 : a.tmps[64]? = some ((.bool false)) := by rw [ha]; exact putSel_on (e := (14, 64, (.bool false))) 14 rfl rfl (hon 14 (by kernel_rfl)) rfl
          replace ha := Aside0.mk ha
          have HB6 := Aside0.mk Q_HB6
          have HS6 := Aside0.mk Q_HS6
          have P6 := Aside0.mk Q_P6
          have Q6 := Aside0.mk Q_Q6
          refine value_ (w1 := w') (v := (.bool false)) (wanted_on rfl rfl rfl (e64.trans (by first | rfl | (simp [*]; done)))) rfl ?_ ?_
          · go_simp
            (try simp only [i64_w])
            try rfl
          refine hK.out _ _ ⟨v71, (by rw [ha.out]; exact putSel_upk 17 hb_ rfl rfl rfl), Q_HB6, Q_HS6, Q_P6, Q_Q6, fun h0_ => absurd ((hoff 21 (by kernel_rfl)).symm.trans h0_) (by decide)⟩
        refine steps_cons ?_ ?_
        · rintro b a w' ⟨v71, ha, Q_HB6, Q_HS6, Q_P6, Q_Q6, Q_S71⟩ hb_ hon hoff
          refine ⟨_, rfl, fun K hK => ?_⟩
          have e64 : a.tmps[64]? = some ((.bool false)) := by rw [ha]; exact putSel_on (e := (14, 64, (.bool false))) 14 rfl rfl (hon 14 (by kernel_rfl)) rfl
          have e67 : a.tmps[67]? = some ((.bool false)) := by rw [ha]; exact putSel_on (e := (17, 67, (.bool false))) 17 rfl rfl (hon 17 (by kernel_rfl)) rfl
          replace ha := Aside0.mk ha
          have HB6 := Aside0.mk Q_HB6
          have HS6 := Aside0.mk Q_HS6
          have P6 := Aside0.mk Q_P6
          have Q6 := Aside0.mk Q_Q6
          refine value_ (w1 := w') (v := (.bool false)) (by rfl) rfl ?_ ?_
          · go_simp
            (try simp only [i64_w])
            try rfl
          refine hK.out _ _ ⟨v71, (by rw [ha.out]; exact putSel_upk 18 hb_ rfl rfl rfl), Q_HB6, Q_HS6, Q_P6, Q_Q6, fun h0_ => absurd ((hoff 21 (by kernel_rfl)).symm.trans h0_) (by decide)⟩
        refine steps_cons ?_ ?_
        · rintro b a w' ⟨v71, ha, Q_HB6, Q_HS6, Q_P6, Q_Q6, Q_S71⟩ hb_ hon hoff
          refine ⟨_, rfl, fun K hK => ?_⟩
          have e68 : a.tmps[68]? = some ((.bool false)) := by rw [ha]; exact putSel_on (e := (18, 68, (.bool false))) 18 rfl rfl (hon 18 (by kernel_rfl)) rfl
          replace ha := Aside0.mk ha
          have HB6 := Aside0.mk Q_HB6
          have HS6 := Aside0.mk Q_HS6
          have P6 := Aside0.mk Q_P6
          have Q6 := Aside0.mk Q_Q6
          refine value_ (w1 := w') (v := (.bool false)) (by rfl) rfl ?_ ?_
          · go_simp
            (try simp only [i64_w])
            try rfl
          refine hK.out _ _ ⟨v71, (by rw [ha.out]; exact putSel_upk 19 hb_ rfl rfl rfl), Q_HB6, Q_HS6, Q_P6, Q_Q6, fun h0_ => absurd ((hoff 21 (by kernel_rfl)).symm.trans h0_) (by decide)⟩
        refine steps_cons ?_ ?_
        · rintro b a w' ⟨v71, ha, Q_HB6, Q_HS6, Q_P6, Q_Q6, Q_S71⟩ hb_ hon hoff
          refine ⟨_, rfl, fun K hK => ?_⟩
          have e12 : a.tmps[12]? = some ((.pointer (some ⟨w5.heap.size, 0, none⟩))) := by rw [ha]; exact (putSel_off rfl).trans rfl
          have e69 : a.tmps[69]? = some ((.bool false)) := by rw [ha]; exact putSel_on (e := (19, 69, (.bool false))) 19 rfl rfl (hon 19 (by kernel_rfl)) rfl
          replace ha := Aside0.mk ha
          have HB6 := Aside0.mk Q_HB6
          have HS6 := Aside0.mk Q_HS6
          have P6 := Aside0.mk Q_P6
          have Q6 := Aside0.mk Q_Q6
          have q0_ : w'.cell? ⟨w5.heap.size, 0, none⟩ = some (.int .i64 pe) := by rw [cell_of_row w' _ 0 _ _ _ Q6.out]; rfl
          have q1_ : w'.cell? ⟨w5.heap.size, 1, none⟩ = some (.int .i64 ps) := by rw [cell_of_row w' _ 1 _ _ _ Q6.out]; rfl
          have q2_ : w'.cell? ⟨w5.heap.size, 2, none⟩ = some (.int .i64 pa) := by rw [cell_of_row w' _ 2 _ _ _ Q6.out]; rfl
          have q3_ : w'.cell? ⟨w5.heap.size, 3, none⟩ = some (.string pd) := by rw [cell_of_row w' _ 3 _ _ _ Q6.out]; rfl
          refine value_ (w1 := w') (v := (.agg #[.int .i64 pe, .int .i64 ps, .int .i64 pa, .string pd])) (wanted_on rfl rfl rfl (e69.trans (by first | rfl | (simp [*]; done)))) rfl ?_ ?_
          · go_simp
            (try simp only [i64_w])
            try rfl
          refine hK.out _ _ ⟨v71, (by rw [ha.out]; exact putSel_upk 20 hb_ rfl rfl rfl), Q_HB6, Q_HS6, Q_P6, Q_Q6, fun h0_ => absurd ((hoff 21 (by kernel_rfl)).symm.trans h0_) (by decide)⟩
        refine steps_cons ?_ ?_
        · rintro b a w' ⟨v71, ha, Q_HB6, Q_HS6, Q_P6, Q_Q6, Q_S71⟩ hb_ hon hoff
          refine ⟨_, rfl, fun K hK => ?_⟩
          have e70 : a.tmps[70]? = some ((.agg #[.int .i64 pe, .int .i64 ps, .int .i64 pa, .string pd])) := by rw [ha]; exact putSel_on (e := (20, 70, (.agg #[.int .i64 pe, .int .i64 ps, .int .i64 pa, .string pd]))) 20 rfl rfl (hon 20 (by kernel_rfl)) rfl
          have e69 : a.tmps[69]? = some ((.bool false)) := by rw [ha]; exact putSel_on (e := (19, 69, (.bool false))) 19 rfl rfl (hon 19 (by kernel_rfl)) rfl
          replace ha := Aside0.mk ha
          have HB6 := Aside0.mk Q_HB6
          have HS6 := Aside0.mk Q_HS6
          have P6 := Aside0.mk Q_P6
          have Q6 := Aside0.mk Q_Q6
          refine goes_ Try.func40 (by kernel_rfl) rfl #[.agg #[.int .i64 pe, .int .i64 ps, .int .i64 pa, .string pd]] (wanted_on rfl rfl rfl (e69.trans (by first | rfl | (simp [*]; done)))) rfl rfl (by first | (simp only [List.map_toArray, List.map_cons, List.map_nil, Act.eval, Array.getD_eq_getD_getElem?, Option.getD_some, e70, e69]; done) | (simp only [List.map_toArray, List.map_cons, List.map_nil, Act.eval, Array.getD_eq_getD_getElem?, Option.getD_some, e70, e69]; rfl)) ?_
          refine (HBD.out _).mono ?_
          rintro e w1_ ⟨v71, rfl, hs, hb⟩
          refine ⟨_, rfl, ?_⟩
          refine hK.out _ _ ⟨v71, (by rw [ha.out]; exact putSel_upk 21 hb_ rfl rfl rfl), below_step HB6.out hb, HS6.out.below hb, (hb.block _ (lt_of P6.out)).trans P6.out, (hb.block _ (lt_of Q6.out)).trans Q6.out, fun _ => hs⟩
        refine steps_cons ?_ ?_
        · rintro b a w' ⟨v71, ha, Q_HB6, Q_HS6, Q_P6, Q_Q6, Q_S71⟩ hb_ hon hoff
          refine ⟨_, rfl, fun K hK => ?_⟩
          have e71 : a.tmps[71]? = some (v71) := by rw [ha]; exact putSel_on (e := (21, 71, v71)) 21 rfl rfl (hon 21 (by kernel_rfl)) rfl
          have e69 : a.tmps[69]? = some ((.bool false)) := by rw [ha]; exact putSel_on (e := (19, 69, (.bool false))) 19 rfl rfl (hon 19 (by kernel_rfl)) rfl
          replace ha := Aside0.mk ha
          have HB6 := Aside0.mk Q_HB6
          have HS6 := Aside0.mk Q_HS6
          have P6 := Aside0.mk Q_P6
          have Q6 := Aside0.mk Q_Q6
          have S71 := Aside0.mk (Q_S71 (hon 21 (by kernel_rfl)))
          have hc_ := Sl.string (P := Try.prog) Try.underlying25 Try.underlying5 Try.underlying9 S71.out
          refine value_ (w1 := w') (v := (.string (strOfNums B))) (wanted_on rfl rfl rfl (e69.trans (by first | rfl | (simp [*]; done)))) rfl ?_ ?_
          · go_simp
            (try simp only [i64_w])
            try rfl
          refine hK.out _ _ ⟨v71, (by rw [ha.out]; exact putSel_upk 22 hb_ rfl rfl rfl), Q_HB6, Q_HS6, Q_P6, Q_Q6, Q_S71⟩
        refine steps_cons ?_ ?_
        · rintro b a w' ⟨v71, ha, Q_HB6, Q_HS6, Q_P6, Q_Q6, Q_S71⟩ hb_ hon hoff
          refine ⟨_, rfl, fun K hK => ?_⟩
          have e0 : a.tmps[0]? = some ((.slice A l.length c)) := by rw [ha]; exact (putSel_off rfl).trans rfl
          have e69 : a.tmps[69]? = some ((.bool false)) := by rw [ha]; exact putSel_on (e := (19, 69, (.bool false))) 19 rfl rfl (hon 19 (by kernel_rfl)) rfl
          replace ha := Aside0.mk ha
          have HB6 := Aside0.mk Q_HB6
          have HS6 := Aside0.mk Q_HS6
          have P6 := Aside0.mk Q_P6
          have Q6 := Aside0.mk Q_Q6
          refine value_ (w1 := w') (v := (.slice A l.length c)) (wanted_on rfl rfl rfl (e69.trans (by first | rfl | (simp [*]; done)))) rfl ?_ ?_
          · go_simp
            (try simp only [i64_w])
            try rfl
          refine hK.out _ _ ⟨v71, (by rw [ha.out]; exact putSel_upk 23 hb_ rfl rfl rfl), Q_HB6, Q_HS6, Q_P6, Q_Q6, Q_S71⟩
        refine steps_cons ?_ ?_
        · rintro b a w' ⟨v71, ha, Q_HB6, Q_HS6, Q_P6, Q_Q6, Q_S71⟩ hb_ hon hoff
          refine ⟨_, rfl, fun K hK => ?_⟩
          have e73 : a.tmps[73]? = some ((.slice A l.length c)) := by rw [ha]; exact putSel_on (e := (23, 73, (.slice A l.length c))) 23 rfl rfl (hon 23 (by kernel_rfl)) rfl
          have e69 : a.tmps[69]? = some ((.bool false)) := by rw [ha]; exact putSel_on (e := (19, 69, (.bool false))) 19 rfl rfl (hon 19 (by kernel_rfl)) rfl
          replace ha := Aside0.mk ha
          have HB6 := Aside0.mk Q_HB6
          have HS6 := Aside0.mk Q_HS6
          have P6 := Aside0.mk Q_P6
          have Q6 := Aside0.mk Q_Q6
          have hc_ := Sl.string (P := Try.prog) Try.underlying25 Try.underlying5 Try.underlying9 HS6.out
          refine value_ (w1 := w') (v := (.string (strOfNums l))) (wanted_on rfl rfl rfl (e69.trans (by first | rfl | (simp [*]; done)))) rfl ?_ ?_
          · go_simp
            (try simp only [i64_w])
            try rfl
          refine hK.out _ _ ⟨v71, (by rw [ha.out]; exact putSel_upk 24 hb_ rfl rfl rfl), Q_HB6, Q_HS6, Q_P6, Q_Q6, Q_S71⟩
        refine steps_cons ?_ ?_
        · rintro b a w' ⟨v71, ha, Q_HB6, Q_HS6, Q_P6, Q_Q6, Q_S71⟩ hb_ hon hoff
          refine ⟨_, rfl, fun K hK => ?_⟩
          have e72 : a.tmps[72]? = some ((.string (strOfNums B))) := by rw [ha]; exact putSel_on (e := (22, 72, (.string (strOfNums B)))) 22 rfl rfl (hon 22 (by kernel_rfl)) rfl
          have e74 : a.tmps[74]? = some ((.string (strOfNums l))) := by rw [ha]; exact putSel_on (e := (24, 74, (.string (strOfNums l)))) 24 rfl rfl (hon 24 (by kernel_rfl)) rfl
          have e69 : a.tmps[69]? = some ((.bool false)) := by rw [ha]; exact putSel_on (e := (19, 69, (.bool false))) 19 rfl rfl (hon 19 (by kernel_rfl)) rfl
          replace ha := Aside0.mk ha
          have HB6 := Aside0.mk Q_HB6
          have HS6 := Aside0.mk Q_HS6
          have P6 := Aside0.mk Q_P6
          have Q6 := Aside0.mk Q_Q6
          have S71 := Aside0.mk (Q_S71 (hon 21 (by kernel_rfl)))
          refine value_ (w1 := w') (v := (.bool true)) (wanted_on rfl rfl rfl (e69.trans (by first | rfl | (simp [*]; done)))) rfl ?_ ?_
          · go_simp
            (try simp only [i64_w])
            try rfl
          refine hK.out _ _ ⟨v71, (by rw [ha.out]; exact putSel_upk 25 hb_ rfl rfl rfl), Q_HB6, Q_HS6, Q_P6, Q_Q6, Q_S71⟩
        refine steps_cons ?_ ?_
        · rintro b a w' ⟨v71, ha, Q_HB6, Q_HS6, Q_P6, Q_Q6, Q_S71⟩ hb_ hon hoff
          refine ⟨_, rfl, fun K hK => ?_⟩
          have e69 : a.tmps[69]? = some ((.bool false)) := by rw [ha]; exact putSel_on (e := (19, 69, (.bool false))) 19 rfl rfl (hon 19 (by kernel_rfl)) rfl
          have e75 : a.tmps[75]? = some ((.bool true)) := by rw [ha]; exact putSel_on (e := (25, 75, (.bool true))) 25 rfl rfl (hon 25 (by kernel_rfl)) rfl
          replace ha := Aside0.mk ha
          have HB6 := Aside0.mk Q_HB6
          have HS6 := Aside0.mk Q_HS6
          have P6 := Aside0.mk Q_P6
          have Q6 := Aside0.mk Q_Q6
          have S71 := Aside0.mk (Q_S71 (hon 21 (by kernel_rfl)))
          refine value_ (w1 := w') (v := (.bool true)) (by rfl) rfl ?_ ?_
          · go_simp
            (try simp only [i64_w])
            try rfl
          refine hK.out _ _ ⟨v71, (by rw [ha.out]; exact putSel_upk 26 hb_ rfl rfl rfl), Q_HB6, Q_HS6, Q_P6, Q_Q6, Q_S71⟩
        exact steps_nil
      rintro b a w9 hall ⟨v71, ha, Q_HB6, Q_HS6, Q_P6, Q_Q6, Q_S71⟩
      clear HB6 HS6 P6 Q6
      have hb0_ := hall 0 (by kernel_rfl)
      have hb1_ := hall 1 (by kernel_rfl)
      have hb2_ := hall 2 (by kernel_rfl)
      have hb3_ := hall 3 (by kernel_rfl)
      have hb4_ := hall 4 (by kernel_rfl)
      have hb5_ := hall 5 (by kernel_rfl)
      have hb6_ := hall 6 (by kernel_rfl)
      have hb7_ := hall 7 (by kernel_rfl)
      have hb8_ := hall 8 (by kernel_rfl)
      have hb9_ := hall 9 (by kernel_rfl)
      have hb10_ := hall 10 (by kernel_rfl)
      have hb11_ := hall 11 (by kernel_rfl)
      have hb12_ := hall 12 (by kernel_rfl)
      have hb13_ := hall 13 (by kernel_rfl)
      have hb14_ := hall 14 (by kernel_rfl)
      have hb15_ := hall 15 (by kernel_rfl)
      have hb16_ := hall 16 (by kernel_rfl)
      have hb17_ := hall 17 (by kernel_rfl)
      have hb18_ := hall 18 (by kernel_rfl)
      have hb19_ := hall 19 (by kernel_rfl)
      have hb20_ := hall 20 (by kernel_rfl)
      have hb21_ := hall 21 (by kernel_rfl)
      have hb22_ := hall 22 (by kernel_rfl)
      have hb23_ := hall 23 (by kernel_rfl)
      have hb24_ := hall 24 (by kernel_rfl)
      have hb25_ := hall 25 (by kernel_rfl)
      have hb26_ := hall 26 (by kernel_rfl)
      subst ha
      simp only [putSel, hb0_, hb1_, hb2_, hb3_, hb4_, hb5_, hb6_, hb7_, hb8_, hb9_, hb10_, hb11_, hb12_, hb13_, hb14_, hb15_, hb16_, hb17_, hb18_, hb19_, hb20_, hb21_, hb22_, hb23_, hb24_, hb25_, hb26_, if_true, Act.put, List.setIfInBounds_toArray, List.set_cons_zero, List.set_cons_succ]
      have HB6 := Aside0.mk Q_HB6
      clear Q_HB6
      have HS6 := Aside0.mk Q_HS6
      clear Q_HS6
      have P6 := Aside0.mk Q_P6
      clear Q_P6
      have Q6 := Aside0.mk Q_Q6
      clear Q_Q6
      have S71 := Aside0.mk (Q_S71 hb21_)
      clear Q_S71
      clear hall hb0_ hb1_ hb2_ hb3_ hb4_ hb5_ hb6_ hb7_ hb8_ hb9_ hb10_ hb11_ hb12_ hb13_ hb14_ hb15_ hb16_ hb17_ hb18_ hb19_ hb20_ hb21_ hb22_ hb23_ hb24_ hb25_ hb26_
      have p0 : w9.cell? ⟨w.heap.size, 0, none⟩ = some (.int .i64 0) := by rw [cell_of_row w9 _ 0 _ _ _ P6.out]; rfl
      have p1 : w9.cell? ⟨w.heap.size, 1, none⟩ = some (.int .i64 0) := by rw [cell_of_row w9 _ 1 _ _ _ P6.out]; rfl
      have p2 : w9.cell? ⟨w.heap.size, 2, none⟩ = some (.int .i64 0) := by rw [cell_of_row w9 _ 2 _ _ _ P6.out]; rfl
      have p3 : w9.cell? ⟨w.heap.size, 3, none⟩ = some (.string ⟨#[]⟩) := by rw [cell_of_row w9 _ 3 _ _ _ P6.out]; rfl
      have f0 : w9.frozen? ⟨w.heap.size, 0, none⟩ = false := frozen_of_row w9 _ 0 _ _ P6.out
      have f1 : w9.frozen? ⟨w.heap.size, 1, none⟩ = false := frozen_of_row w9 _ 1 _ _ P6.out
      have f2 : w9.frozen? ⟨w.heap.size, 2, none⟩ = false := frozen_of_row w9 _ 2 _ _ P6.out
      have f3 : w9.frozen? ⟨w.heap.size, 3, none⟩ = false := frozen_of_row w9 _ 3 _ _ P6.out
      go_wp2_with fail
      refine bodyPost_ret (results_ct rfl _ _ w.heap.size 23 #[.int .i64 0, .int .i64 0, .int .i64 0, .string ⟨#[]⟩] (0, 0) _ rfl (pack_set P6.out) Try.underlying23 rfl (by kernel_rfl)) rfl ?_
      exact ⟨by rw [HGET.out]; rfl, below_set4 HB6.out (Nat.le_refl _) _ _ _ _⟩
set_option maxHeartbeats 1000000 in
set_option maxRecDepth 100000 in
theorem rget_c (v : Value) (l : List Int) (w : World) (hs : Sl w v l) (hok : Byt.Ok l) (hl : l.length ≤ 1000000) :
    Calls Try.prog 18 #[v] w fun e w' => e = .returned (.tuple #[(FrameL.get l).1.val, .int .i64 ((FrameL.get l).2.1 : Int), .int .i64 (FrameL.get l).2.2]) ∧ Below w.heap.size w w' := by
  have HS := Aside0.mk hs
  have HO := Aside0.mk hok
  have HL := Aside0.mk hl
  obtain ⟨A, c, rfl, hc, hC⟩ := hs
  have hnn := numL_nonneg hok
  have hnle := numL_le hok
  obtain ⟨k, hk⟩ : ∃ k, (numL l).2 = k := ⟨_, rfl⟩
  obtain ⟨m, hm⟩ : ∃ m : Nat, (numL l).1 = (m : Int) := ⟨(numL l).1.toNat, by omega⟩
  have hnum := fun W (h : Below w.heap.size w W) => VaryRef.nNum (.slice A l.length c) l W (HS.out.below h) hok
  rw [hk, hm] at hnum
  rw [hk] at hnle
  rw [hm] at hnn
  have hm1 : (m : Int) ≤ 4611686018427387904 := hnn.2
  have HNUM := Aside0.mk hnum
  have HK := Aside0.mk hk
  have HM := Aside0.mk hm
  clear hC hok hnum hnn hk hm
  go_enter Try.func18, Try.ntmps18
  go_wp2_with fail
  obtain ⟨w0, hw0⟩ : ∃ w0, w0 = w.alloc (.cells #[.int .i64 0, .int .i64 0, .int .i64 0, .string ⟨#[]⟩] 23) := ⟨_, rfl⟩
  have HB0 := Aside0.mk (show Below w.heap.size w w0 by rw [hw0]; exact below_alloc (Below.refl _ _) _)
  have P0 := Aside0.mk (show w0.heap[w.heap.size]? = some (.cells #[.int .i64 0, .int .i64 0, .int .i64 0, .string ⟨#[]⟩] 23 (0, 0)) by rw [hw0]; exact Own.heap_new _ _)
  rw [← hw0]
  clear hw0
  refine (HNUM.out _ HB0.out).mono ?_
  rintro e1 w1 ⟨rfl, n1, rfl⟩
  have HB1 := Aside0.mk (pw_below_drewN HB0.out n1)
  have P1 := Aside0.mk (show (w0.drewN n1).heap[w.heap.size]? = _ from P0.out)
  obtain ⟨w1, hw1⟩ : ∃ w1, w1 = w0.drewN n1 := ⟨_, rfl⟩
  rw [← hw1] at HB1 P1 ⊢
  clear hw1 HB0 P0 HNUM
  by_cases hk0 : k = 0
  · have HGET := Aside0.mk (show FrameL.get l = (zp, 0, 10) by unfold FrameL.get; rw [if_pos (HK.out.trans hk0)])
    subst hk0
    have p0 : w1.cell? ⟨w.heap.size, 0, none⟩ = some (.int .i64 0) := by rw [cell_of_row w1 _ 0 _ _ _ P1.out]; rfl
    have f0 : w1.frozen? ⟨w.heap.size, 0, none⟩ = false := frozen_of_row w1 _ 0 _ _ P1.out
    have p1 : w1.cell? ⟨w.heap.size, 1, none⟩ = some (.int .i64 0) := by rw [cell_of_row w1 _ 1 _ _ _ P1.out]; rfl
    have f1 : w1.frozen? ⟨w.heap.size, 1, none⟩ = false := frozen_of_row w1 _ 1 _ _ P1.out
    have p2 : w1.cell? ⟨w.heap.size, 2, none⟩ = some (.int .i64 0) := by rw [cell_of_row w1 _ 2 _ _ _ P1.out]; rfl
    have f2 : w1.frozen? ⟨w.heap.size, 2, none⟩ = false := frozen_of_row w1 _ 2 _ _ P1.out
    have p3 : w1.cell? ⟨w.heap.size, 3, none⟩ = some (.string ⟨#[]⟩) := by rw [cell_of_row w1 _ 3 _ _ _ P1.out]; rfl
    have f3 : w1.frozen? ⟨w.heap.size, 3, none⟩ = false := frozen_of_row w1 _ 3 _ _ P1.out
    go_wp2_with fail
    refine bodyPost_ret (results_ctt rfl _ _ w.heap.size 23 #[.int .i64 0, .int .i64 0, .int .i64 0, .string ⟨#[]⟩] (0, 0) _ rfl (pack_set P1.out) Try.underlying23 rfl (by kernel_rfl)) rfl ?_
    exact ⟨by rw [HGET.out]; rfl, below_set4 HB1.out (Nat.le_refl _) _ _ _ _⟩
  · have HK0 := Aside0.mk (show ¬ (numL l).2 = 0 by rw [HK.out]; exact hk0)
    have hk1 : ((k : Int) == 0) = false := by simp; omega
    have hk2 : ¬ (k : Int) = 0 := by omega
    clear hk0
    by_cases hbig : (65576 : Int) < (m : Int)
    · have HGET := Aside0.mk (show FrameL.get l = (zp, 0, 11) by unfold FrameL.get; rw [if_neg HK0.out, HM.out, if_pos hbig])
      have p0 : w1.cell? ⟨w.heap.size, 0, none⟩ = some (.int .i64 0) := by rw [cell_of_row w1 _ 0 _ _ _ P1.out]; rfl
      have f0 : w1.frozen? ⟨w.heap.size, 0, none⟩ = false := frozen_of_row w1 _ 0 _ _ P1.out
      have p1 : w1.cell? ⟨w.heap.size, 1, none⟩ = some (.int .i64 0) := by rw [cell_of_row w1 _ 1 _ _ _ P1.out]; rfl
      have f1 : w1.frozen? ⟨w.heap.size, 1, none⟩ = false := frozen_of_row w1 _ 1 _ _ P1.out
      have p2 : w1.cell? ⟨w.heap.size, 2, none⟩ = some (.int .i64 0) := by rw [cell_of_row w1 _ 2 _ _ _ P1.out]; rfl
      have f2 : w1.frozen? ⟨w.heap.size, 2, none⟩ = false := frozen_of_row w1 _ 2 _ _ P1.out
      have p3 : w1.cell? ⟨w.heap.size, 3, none⟩ = some (.string ⟨#[]⟩) := by rw [cell_of_row w1 _ 3 _ _ _ P1.out]; rfl
      have f3 : w1.frozen? ⟨w.heap.size, 3, none⟩ = false := frozen_of_row w1 _ 3 _ _ P1.out
      go_wp2_with fail
      refine bodyPost_ret (results_ctt rfl _ _ w.heap.size 23 #[.int .i64 0, .int .i64 0, .int .i64 0, .string ⟨#[]⟩] (0, 0) _ rfl (pack_set P1.out) Try.underlying23 rfl (by kernel_rfl)) rfl ?_
      exact ⟨by rw [HGET.out]; rfl, below_set4 HB1.out (Nat.le_refl _) _ _ _ _⟩
    · have hm2 : (m : Int) ≤ 65576 := by omega
      by_cases hsh : (l.length : Int) < (k : Int) + (m : Int) + 4
      · have HGET := Aside0.mk (show FrameL.get l = (zp, 0, 10) by
          unfold FrameL.get
          rw [if_neg HK0.out, HM.out, if_neg hbig, if_pos]
          unfold sizeL
          rw [HK.out, HM.out, Int.toNat_natCast]
          omega)
        have p0 : w1.cell? ⟨w.heap.size, 0, none⟩ = some (.int .i64 0) := by rw [cell_of_row w1 _ 0 _ _ _ P1.out]; rfl
        have f0 : w1.frozen? ⟨w.heap.size, 0, none⟩ = false := frozen_of_row w1 _ 0 _ _ P1.out
        have p1 : w1.cell? ⟨w.heap.size, 1, none⟩ = some (.int .i64 0) := by rw [cell_of_row w1 _ 1 _ _ _ P1.out]; rfl
        have f1 : w1.frozen? ⟨w.heap.size, 1, none⟩ = false := frozen_of_row w1 _ 1 _ _ P1.out
        have p2 : w1.cell? ⟨w.heap.size, 2, none⟩ = some (.int .i64 0) := by rw [cell_of_row w1 _ 2 _ _ _ P1.out]; rfl
        have f2 : w1.frozen? ⟨w.heap.size, 2, none⟩ = false := frozen_of_row w1 _ 2 _ _ P1.out
        have p3 : w1.cell? ⟨w.heap.size, 3, none⟩ = some (.string ⟨#[]⟩) := by rw [cell_of_row w1 _ 3 _ _ _ P1.out]; rfl
        have f3 : w1.frozen? ⟨w.heap.size, 3, none⟩ = false := frozen_of_row w1 _ 3 _ _ P1.out
        go_wp2_with fail
        refine bodyPost_ret (results_ctt rfl _ _ w.heap.size 23 #[.int .i64 0, .int .i64 0, .int .i64 0, .string ⟨#[]⟩] (0, 0) _ rfl (pack_set P1.out) Try.underlying23 rfl (by kernel_rfl)) rfl ?_
        exact ⟨by rw [HGET.out]; rfl, below_set4 HB1.out (Nat.le_refl _) _ _ _ _⟩
      · have hsh2 : ¬ ((l.length : Int) < (k : Int) + (m : Int) + 4) := hsh
        have hkml : k + m + 4 ≤ l.length := by omega
        have HG1 := Aside0.mk (get_long HK.out HK0.out HM.out hbig hkml)
        obtain ⟨u, hcut, hu⟩ := slice_mid (P := Try.prog) 25 5 Try.underlying25 info5 (HS.out.below HB1.out) (k : Int) ((k : Int) + (m : Int) + 4) (by omega) (by omega) (by omega)
        rw [show ((k : Int) + (m : Int) + 4).toNat = k + m + 4 by omega, Int.toNat_natCast] at hu
        obtain ⟨seg, hseg⟩ : ∃ seg, seg = (l.take (k + m + 4)).drop k := ⟨_, rfl⟩
        rw [← hseg] at HG1 hu
        have HSEG := Aside0.mk (show seg.length ≤ 1000000 by rw [hseg, List.length_drop, List.length_take]; have := HL.out; omega)
        have HOSEG := Aside0.mk (show Byt.Ok seg by rw [hseg]; exact Byt.ok_drop (Byt.ok_take HO.out _) _)
        have hop2 := Nice.nRefOpen u seg w1 hu HSEG.out
        obtain ⟨sz, hsz⟩ : ∃ sz, sz = k + m + 4 := ⟨_, rfl⟩
        have HCAST := Aside0.mk (show (k : Int) + (m : Int) + 4 = (sz : Int) by omega)
        rw [← hsz] at HG1
        have hks : (k : Int) ≤ 1000000 := by omega
        clear hsh hkml hseg hu hsz
        cases hop : Nice.openB seg with
        | false =>
          rw [hop] at hop2
          have HOP := Aside0.mk hop2
          have HGET := Aside0.mk (HG1.out.trans (tail_shut hop))
          clear hop hop2
          go_wp2_with fail
          refine HOP.out.mono ?_
          rintro e2 w2 ⟨x, rfl, hx, hb⟩
          rw [HCAST.out]
          have HB2 := Aside0.mk (HB1.out.trans (hb.mono HB1.out.size))
          have P2 := Aside0.mk ((hb.block _ (lt_of P1.out)).trans P1.out)
          clear hb hx
          have p0 : w2.cell? ⟨w.heap.size, 0, none⟩ = some (.int .i64 0) := by rw [cell_of_row w2 _ 0 _ _ _ P2.out]; rfl
          have f0 : w2.frozen? ⟨w.heap.size, 0, none⟩ = false := frozen_of_row w2 _ 0 _ _ P2.out
          have p1 : w2.cell? ⟨w.heap.size, 1, none⟩ = some (.int .i64 0) := by rw [cell_of_row w2 _ 1 _ _ _ P2.out]; rfl
          have f1 : w2.frozen? ⟨w.heap.size, 1, none⟩ = false := frozen_of_row w2 _ 1 _ _ P2.out
          have p2 : w2.cell? ⟨w.heap.size, 2, none⟩ = some (.int .i64 0) := by rw [cell_of_row w2 _ 2 _ _ _ P2.out]; rfl
          have f2 : w2.frozen? ⟨w.heap.size, 2, none⟩ = false := frozen_of_row w2 _ 2 _ _ P2.out
          have p3 : w2.cell? ⟨w.heap.size, 3, none⟩ = some (.string ⟨#[]⟩) := by rw [cell_of_row w2 _ 3 _ _ _ P2.out]; rfl
          have f3 : w2.frozen? ⟨w.heap.size, 3, none⟩ = false := frozen_of_row w2 _ 3 _ _ P2.out
          go_wp2_with fail
          refine bodyPost_ret (results_ctt rfl _ _ w.heap.size 23 #[.int .i64 0, .int .i64 0, .int .i64 0, .string ⟨#[]⟩] (0, 0) _ rfl (pack_set P2.out) Try.underlying23 rfl (by kernel_rfl)) rfl ?_
          exact ⟨by rw [HGET.out]; rfl, below_set4 HB2.out (Nat.le_refl _) _ _ _ _⟩
        | true =>
          rw [hop] at hop2
          have HOP := Aside0.mk hop2
          obtain ⟨y, hy⟩ : ∃ y, y = Nice.openL seg := ⟨_, rfl⟩
          have HOY : Byt.Ok y := by rw [hy]; unfold Nice.openL; split; exact Byt.ok_take HOSEG.out _; exact Byt.ok_nil
          have HYL : y.length ≤ 1000000 := by rw [hy]; unfold Nice.openL; split; (rw [List.length_take]; have := HSEG.out; omega); simp
          have HTN := Aside0.mk (fun h : parse y = none => HG1.out.trans (tail_none hop (hy ▸ h)))
          have HTS := Aside0.mk (fun (p : Pk) (h : parse y = some p) => HG1.out.trans (tail_some hop (hy ▸ h)))
          rw [← hy] at HOP
          clear hop hop2 hy
          have HPC := Aside0.mk (fun A c W (h : Sl W (.slice A y.length c) y) => parse_c A c y W h HOY HYL)
          clear HOY HYL
          go_wp2_with fail
          refine HOP.out.mono ?_
          rintro e2 w2 ⟨x, rfl, hx, hb⟩
          rw [HCAST.out]
          have HB2 := Aside0.mk (HB1.out.trans (hb.mono HB1.out.size))
          have P2 := Aside0.mk ((hb.block _ (lt_of P1.out)).trans P1.out)
          obtain ⟨A3, c3, rfl, hc3, hC3⟩ := hx
          have HX := Aside0.mk (Sl.mk hC3 hc3)
          clear hb hC3 P1 HB1
          go_wp2_with fail
          refine (HPC.out A3 c3 _ HX.out).mono ?_
          rintro e3 w3 ⟨rfl, hb⟩
          have HB3 := Aside0.mk (HB2.out.trans (hb.mono HB2.out.size))
          have P3 := Aside0.mk ((hb.block _ (lt_of P2.out)).trans P2.out)
          clear hb P2 HB2
          cases hpr : parse y with
          | none =>
            have HGET := Aside0.mk (HTN.out hpr)
            clear hpr
            unfold optPk zp Pk.val
            simp only [Option.isSome]
            have hlt := lt_of P3.out
            have p0 : w3.cell? ⟨w.heap.size, 0, none⟩ = some (.int .i64 0) := by rw [cell_of_row w3 _ 0 _ _ _ P3.out]; rfl
            have f0 : w3.frozen? ⟨w.heap.size, 0, none⟩ = false := frozen_of_row w3 _ 0 _ _ P3.out
            have p1 : w3.cell? ⟨w.heap.size, 1, none⟩ = some (.int .i64 0) := by rw [cell_of_row w3 _ 1 _ _ _ P3.out]; rfl
            have f1 : w3.frozen? ⟨w.heap.size, 1, none⟩ = false := frozen_of_row w3 _ 1 _ _ P3.out
            have p2 : w3.cell? ⟨w.heap.size, 2, none⟩ = some (.int .i64 0) := by rw [cell_of_row w3 _ 2 _ _ _ P3.out]; rfl
            have f2 : w3.frozen? ⟨w.heap.size, 2, none⟩ = false := frozen_of_row w3 _ 2 _ _ P3.out
            have p3 : w3.cell? ⟨w.heap.size, 3, none⟩ = some (.string ⟨#[]⟩) := by rw [cell_of_row w3 _ 3 _ _ _ P3.out]; rfl
            have f3 : w3.frozen? ⟨w.heap.size, 3, none⟩ = false := frozen_of_row w3 _ 3 _ _ P3.out
            have HLT := Aside0.mk hlt
            go_wp2_with fail
            refine bodyPost_ret (results_ctt rfl _ _ w.heap.size 23 #[.int .i64 0, .int .i64 0, .int .i64 0, .string ⟨#[]⟩] (0, 0) _ rfl ((Own.heap_old _ _ _ (by simp; exact HLT.out)).trans (pack_set P3.out)) Try.underlying23 rfl (by kernel_rfl)) rfl ?_
            exact ⟨by rw [HGET.out]; rfl, below_alloc (below_set4 HB3.out (Nat.le_refl _) _ _ _ _) _⟩
          | some pp =>
            obtain ⟨pe, ps, pa, pd⟩ := pp
            have HGET := Aside0.mk (HTS.out _ hpr)
            clear hpr
            unfold optPk Pk.val
            simp only [Option.isSome]
            have hlt := lt_of P3.out
            have p0 : w3.cell? ⟨w.heap.size, 0, none⟩ = some (.int .i64 0) := by rw [cell_of_row w3 _ 0 _ _ _ P3.out]; rfl
            have f0 : w3.frozen? ⟨w.heap.size, 0, none⟩ = false := frozen_of_row w3 _ 0 _ _ P3.out
            have p1 : w3.cell? ⟨w.heap.size, 1, none⟩ = some (.int .i64 0) := by rw [cell_of_row w3 _ 1 _ _ _ P3.out]; rfl
            have f1 : w3.frozen? ⟨w.heap.size, 1, none⟩ = false := frozen_of_row w3 _ 1 _ _ P3.out
            have p2 : w3.cell? ⟨w.heap.size, 2, none⟩ = some (.int .i64 0) := by rw [cell_of_row w3 _ 2 _ _ _ P3.out]; rfl
            have f2 : w3.frozen? ⟨w.heap.size, 2, none⟩ = false := frozen_of_row w3 _ 2 _ _ P3.out
            have p3 : w3.cell? ⟨w.heap.size, 3, none⟩ = some (.string ⟨#[]⟩) := by rw [cell_of_row w3 _ 3 _ _ _ P3.out]; rfl
            have f3 : w3.frozen? ⟨w.heap.size, 3, none⟩ = false := frozen_of_row w3 _ 3 _ _ P3.out
            have HLT := Aside0.mk hlt
            go_wp2_with fail
            refine bodyPost_ret (results_ctt rfl _ _ w.heap.size 23 #[.int .i64 pe, .int .i64 ps, .int .i64 pa, .string pd] (0, 0) _ rfl ((Own.heap_old _ _ _ (by simp; exact HLT.out)).trans (pack_set P3.out)) Try.underlying23 rfl (by kernel_rfl)) rfl ?_
            exact ⟨by rw [HGET.out]; rfl, below_alloc (below_set4 HB3.out (Nat.le_refl _) _ _ _ _) _⟩
end Go.Proofs.Ytedfcjcnhgomoaa.FrameR
end
-- MERGED YtedfcjcnhgomoaaFrameBackL
section
/- The plain law of frames that are got back; no program in sight. -/
namespace Go.Proofs.Ytedfcjcnhgomoaa.FrameBackL
open Go.RowKit Go.Proofs.Ytedfcjcnhgomoaa.Own Go.Proofs.Ytedfcjcnhgomoaa.Vy Go.Proofs.Ytedfcjcnhgomoaa.FrameP Go.Proofs.Ytedfcjcnhgomoaa.FrameL Go.Proofs.Ytedfcjcnhgomoaa.FrameR

theorem good_parts {p : Pk} (h : good p = true) : (∃ e s a : Nat, p.e = e ∧ p.s = s ∧ p.a = a ∧ (e : Int) ≤ M ∧ (s : Int) ≤ M ∧ (a : Int) ≤ M) ∧ p.d.size ≤ 65536 := by
  unfold good numB at h
  simp only [Bool.and_eq_true, decide_eq_true_eq] at h
  obtain ⟨⟨⟨⟨h1, h2⟩, h3⟩, h4⟩, h5⟩ := h
  have : M = 4611686018427387904 := rfl
  exact ⟨⟨p.e.toNat, p.s.toNat, p.a.toNat, by omega, by omega, by omega, by omega, by omega, by omega⟩, h4⟩
theorem body_eq {p : Pk} {e s a : Nat} (he : p.e = e) (hs : p.s = s) (ha : p.a = a) (me : (e : Int) ≤ M) (ms : (s : Int) ≤ M) (ma : (a : Int) ≤ M) (hd : (p.d.size : Int) ≤ M) : body p = enc e ++ (enc s ++ (enc a ++ putTL [] (numsOf p.d))) := by
  unfold body putTL
  rw [he, hs, ha, putL_good me, putL_good ms, putL_good ma, putL_good (by rw [numsOf_length]; exact hd), putL_good (by rw [numsOf_length]; exact hd)]
  simp only [List.nil_append, List.append_assoc]
theorem parse_body {p : Pk} (h : good p = true) : parse (body p) = some p := by
  obtain ⟨⟨e, s, a, he, hs, ha, me, ms, ma⟩, hd⟩ := good_parts h
  have hM : M = 4611686018427387904 := rfl
  have hdl : ((numsOf p.d).length : Int) ≤ M := by rw [numsOf_length]; omega
  have hb := body_eq he hs ha me ms ma (by omega)
  have n1 : numL (body p) = ((e : Int), (enc e).length) := by rw [hb]; exact numL_enc e me _
  have j1 : i1 (body p) = (enc e).length := by unfold i1; rw [n1]
  have d1 : (body p).drop (i1 (body p)) = enc s ++ (enc a ++ putTL [] (numsOf p.d)) := by rw [j1, hb, List.drop_left]
  have n2 : numL ((body p).drop (i1 (body p))) = ((s : Int), (enc s).length) := by rw [d1]; exact numL_enc s ms _
  have j2 : i2 (body p) = (enc s).length := by unfold i2; rw [n2]
  have d2 : (body p).drop (i1 (body p) + i2 (body p)) = enc a ++ putTL [] (numsOf p.d) := by rw [← List.drop_drop, d1, j2, List.drop_left]
  have n3 : numL ((body p).drop (i1 (body p) + i2 (body p))) = ((a : Int), (enc a).length) := by rw [d2]; exact numL_enc a ma _
  have j3 : i3 (body p) = (enc a).length := by unfold i3; rw [n3]
  have d3 : (body p).drop (i1 (body p) + i2 (body p) + i3 (body p)) = putTL [] (numsOf p.d) := by rw [← List.drop_drop, d2, j3, List.drop_left]
  have n4 : textL ((body p).drop (i1 (body p) + i2 (body p) + i3 (body p))) = (numsOf p.d, (enc (numsOf p.d).length).length + (numsOf p.d).length) := by
    rw [d3]
    have := textL_put (numsOf p.d) [] hdl
    rwa [List.append_nil] at this
  have j4 : i4 (body p) = (enc (numsOf p.d).length).length + (numsOf p.d).length := by unfold i4; rw [n4]
  have hrp : rp (body p) = p := by
    unfold rp
    rw [n1, n2, n3, n4]
    simp only
    rw [← he, ← hs, ← ha, strOf_numsOf]
  have := parse_yes (ok_body p) (by rw [j1]; have := enc_pos e; omega) (by rw [j2]; have := enc_pos s; omega) (by rw [j3]; have := enc_pos a; omega) (by rw [j4]; have := enc_pos (numsOf p.d).length; omega)
  rw [this, hrp, if_pos ⟨h, rfl⟩]
theorem frame_eq {p : Pk} (h : good p = true) : frame p = enc (body p).length ++ Nice.sealL (body p) := by
  have := body_len p
  have := (good_parts h).2
  have hM : M = 4611686018427387904 := rfl
  unfold frame
  rw [putL_good (by omega), List.nil_append]
theorem get_back {p : Pk} (h : good p = true) (rest : List Int) : FrameL.get (frame p ++ rest) = (p, (frame p).length, 0) := by
  have hbl := body_len p
  have hd := (good_parts h).2
  have hM : M = 4611686018427387904 := rfl
  have hn : numL (frame p ++ rest) = (((body p).length : Int), (enc (body p).length).length) := by rw [frame_eq h, List.append_assoc]; exact numL_enc _ (by omega) _
  have hfl : (frame p).length = (enc (body p).length).length + (body p).length + 4 := by rw [frame_eq h, List.length_append, Nice.sealL_length]; omega
  have hp := enc_pos (body p).length
  rw [get_long (k := (enc (body p).length).length) (m := (body p).length) (by rw [hn]) (by rw [hn]; simp only; omega) (by rw [hn]) (by omega) (by rw [List.length_append, hfl]; omega)]
  have e1 : (frame p ++ rest).take ((enc (body p).length).length + (body p).length + 4) = frame p := by rw [← hfl, List.take_left]
  have e2 : (frame p).drop (enc (body p).length).length = Nice.sealL (body p) := by rw [frame_eq h, List.drop_left]
  rw [e1, e2, tail_some (p := p) (Nice.openB_seal _) (by rw [Nice.openL_seal]; exact parse_body h), hfl]
end Go.Proofs.Ytedfcjcnhgomoaa.FrameBackL
end

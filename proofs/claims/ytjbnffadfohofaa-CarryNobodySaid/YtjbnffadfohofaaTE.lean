import Derived.Test.YtjbnffadfohofaaTA
import Derived.Test.YtjbnffadfohofaaTC
import Derived.Laws.EntriesVeiled
-- MERGED YtjbnffadfohofaaPlaceS
section
/- The walk of Span: where a span is, behind an edit. -/
namespace Go.Proofs.Ytjbnffadfohofaa.PlaceS
open Go.RowKit Go.Shelf Go.Proofs.Ytjbnffadfohofaa.P Go.Proofs.YtjbnffadfohofaaW.PrintWords Go.Proofs.YtjbnffadfohofaaW.PrintLast Go.Proofs.YtjbnffadfohofaaW.PrintMore Go.Proofs.Ytjbnffadfohofaa.Own Go.Proofs.Ytjbnffadfohofaa.EditL Go.Proofs.Ytjbnffadfohofaa.EditK Go.Proofs.Ytjbnffadfohofaa.RangeG Go.Proofs.Ytjbnffadfohofaa.RangeB Go.Proofs.Ytjbnffadfohofaa.EditJ Go.Proofs.Ytjbnffadfohofaa.EditI Go.Proofs.Ytjbnffadfohofaa.EditR Go.Proofs.Ytjbnffadfohofaa.EditF Go.Proofs.Ytjbnffadfohofaa.PlaceI Go.Proofs.Ytjbnffadfohofaa.PlaceM Go.Proofs.Ytjbnffadfohofaa.PlaceC Go.Proofs.Ytjbnffadfohofaa.VaryR
attribute [local go_sem] Oper.semAt_some max2_int min2_int max_two min_two
set_option linter.unusedSimpArgs false
set_option linter.unusedVariables false

def Sx (BX : Nat) (a b : Int) (w : World) : Prop := w.heap[BX]? = some (.cells #[.int .i64 a, .int .i64 b] 42 (0, 0))
theorem Sx.below {BX : Nat} {a b : Int} {w w' : World} (h : Sx BX a b w) (hb : Below w.heap.size w w') : Sx BX a b w' := (hb.block _ (Array.getElem?_eq_some_iff.1 h).1).trans h
theorem Sx.c0 {BX : Nat} {a b : Int} {w : World} (h : Sx BX a b w) : w.cell? ⟨BX, 0, none⟩ = some (.int .i64 a) := by rw [cell_of_row w _ 0 _ _ _ h]; rfl
theorem Sx.c1 {BX : Nat} {a b : Int} {w : World} (h : Sx BX a b w) : w.cell? ⟨BX, 1, none⟩ = some (.int .i64 b) := by rw [cell_of_row w _ 1 _ _ _ h]; rfl
theorem Sx.fz {BX : Nat} {a b : Int} {w : World} (h : Sx BX a b w) (o : Nat) : w.frozen? ⟨BX, o, none⟩ = false := frozen_of_row w _ o _ _ h
def spS (a b : Int) : List St → Sp → Sp
  | [], m => m
  | s :: l, m => spS a b l (meetL a b s m)
def spanL (op : List Rn) (a b : Int) : (Int × Int) × Bool :=
  if good op = true ∧ 0 ≤ a ∧ a ≤ b ∧ b ≤ inL op then
    (if (spS a b (stepsL op 0 0) ⟨0, 0, false⟩).found then ((spS a b (stepsL op 0 0) ⟨0, 0, false⟩).e0, (spS a b (stepsL op 0 0) ⟨0, 0, false⟩).e1) else ((moveL op a false).1, (moveL op a false).1), true)
  else ((0, 0), false)
def PlaceS.T1 : Bool × List (List Nat × List Nat) := (true, [([], []), ([0], [0]), ([1], [1]), ([2, 1], [2]), ([3], [3]), ([4, 3], [3, 4]), ([5, 3], [3, 5]), ([3, 6], [3, 6]), ([7, 3], [7]), ([8], [8]), ([9, 8], [8, 9]), ([8], [8]), ([11, 8], [8, 11]), ([10, 12, 8], [8, 10, 12]), ([8, 13], [8, 13]), ([14, 8], [14]), ([15], [15]), ([16, 15], [15, 16]), ([15], [15]), ([18, 15, 15], [15, 18]), ([17, 19, 15], [15, 17, 19]), ([15, 20], [15, 20])])
def PlaceS.B1 : List Nat := [0, 1, 3, 7, 15, 31, 63, 127, 255, 511, 1023, 511, 2559, 8191, 16383, 32767, 65535, 131071, 65535, 327679, 1048575, 2097151]
theorem PlaceS.tab1 : rtab .any (opsOf Try.f35 1) = PlaceS.T1 := by kernel_rfl
theorem PlaceS.bits1 : waitsOk PlaceS.T1.2 PlaceS.B1 = true := by kernel_rfl
theorem res_span (tmps : Array Value) (W : World) (BR : Nat) (x y : Int) (b : Bool) (h4 : tmps.getD 4 undef = .pointer (some ⟨BR, 0, none⟩)) (h5 : tmps.getD 5 undef = .bool b) (hB : Sx BR x y W) :
    (results Try.f35 tmps).run Try.prog W = .ok (.tuple #[.agg #[.int .i64 x, .int .i64 y], .bool b]) W := by
  have h4' : tmps[4]?.getD undef = .pointer (some ⟨BR, 0, none⟩) := by simpa using h4
  have h5' : tmps[5]?.getD undef = .bool b := by simpa using h5
  have c0 := hB.c0
  have c1 := hB.c1
  simp [results, Try.results35, h4', h5', c0, c1, go_sem]
def SpanPost (v : (Int × Int) × Bool) (w : World) (e : Ending) (w' : World) : Prop := e = .returned (.tuple #[.agg #[.int .i64 v.1.1, .int .i64 v.1.2], .bool v.2]) ∧ Below w.heap.size w w'
theorem below_set' {B : Nat} {w W : World} (h : Below B w W) {b o : Nat} {u : Value} (hb : B ≤ b) : Below B w (W.setCell ⟨b, o, none⟩ u) := h.setCell (p := ⟨b, o, none⟩) hb u
set_option maxHeartbeats 4000000 in
set_option maxRecDepth 100000 in
theorem span_no1 (A0 : Option Addr) (c0 : Nat) (l0 : List Rn) (xa xb : Int) (w : World) (h : RC w A0 l0) (hc : l0.length ≤ c0) (hl : l0.length ≤ 140737488351232) (hg : good l0 = false) :
    Calls Try.prog 35 #[.slice A0 l0.length c0, .agg #[.int .i64 xa, .int .i64 xb]] w (SpanPost ((0, 0), false) w) := by
  have HG := Aside0.mk (good_c A0 c0 l0 hc hl)
  rw [hg] at HG
  have H0 := Aside0.mk h
  clear h hc hl hg
  go_enter Try.func35, Try.ntmps35
  go_wp2_with fail
  obtain ⟨w2, hw2⟩ : ∃ w2, w2 = (w.alloc (.cells #[.int .i64 xa, .int .i64 xb] 42)).alloc (.cells #[.int .i64 0, .int .i64 0] 42) := ⟨_, rfl⟩
  have hb2 : Below w.heap.size w w2 := by rw [hw2]; exact below_alloc (below_alloc (Below.refl _ _) _) _
  have HB := Aside0.mk hb2
  have HR := Aside0.mk (H0.out.below hb2)
  have X3 := Aside0.mk (show Sx w.heap.size xa xb w2 by rw [hw2]; exact (show Sx w.heap.size xa xb (w.alloc _) from Own.heap_new w _).below (below_alloc (Below.refl _ _) _))
  have X4 := Aside0.mk (show Sx (w.heap.size + 1) 0 0 w2 by
    rw [hw2]
    have := Own.heap_new (w.alloc (.cells #[.int .i64 xa, .int .i64 xb] 42)) (.cells #[.int .i64 0, .int .i64 0] 42)
    rwa [World.size_alloc] at this)
  rw [← hw2]
  clear hw2 hb2
  refine start_ (n := 22) (S := fun w' => True) (ds := []) #[false, false, false, false, false, false, false, false, false, false, false, false, false, false, false, false, false, false, false, false, false, false] (by kernel_rfl) rfl rfl trivial (fun hHeld => ?_); refine with_tabW PlaceS.tab1 PlaceS.bits1 (fun HT_ HW_ => ?_)
  refine inv_at [0, 1, 2, 3, 4, 5, 6, 7, 8, 9, 10, 11, 12, 13, 14, 15, 16, 17, 18, 19, 20, 21] (fun a0_ b a w' => a = putSel a0_ b [(0, 12, (.slice A0 l0.length c0)), (1, 13, (.bool false)), (2, 14, (.bool true)), (3, 15, (.bool true)), (4, 16, undef), (5, 17, undef), (6, 18, undef), (7, 19, (.bool true)), (8, 20, (.bool true)), (9, 21, undef), (10, 22, undef), (11, 23, undef), (12, 24, undef), (13, 25, undef), (14, 26, (.bool true)), (15, 27, (.bool true)), (16, 28, undef), (17, 29, undef), (18, 30, undef), (19, 31, undef), (20, 32, undef), (21, 33, (.bool true))] ∧ (RC w' A0 l0) ∧ (Below w.heap.size w w') ∧ (Sx w.heap.size xa xb w') ∧ (Sx (w.heap.size + 1) 0 0 w')) HT_.out HW_.out (by kernel_rfl) (by kernel_rfl) ?_ ?_ ?_
  · exact ⟨by simp only [putSel, Bool.false_eq_true, if_false], HR.out.below (below_drew1 (Below.refl _ _)), below_drew1 HB.out, X3.out.below (below_drew1 (Below.refl _ _)), X4.out.below (below_drew1 (Below.refl _ _))⟩
  · skip
    clear HB HR X3 X4
    refine steps_cons ?_ ?_
    · rintro b a w' ⟨ha, Q_HR, Q_HB, Q_X3, Q_X4⟩ hb_ hon hoff
      refine ⟨_, rfl, fun K hK => ?_⟩
      have e0 : a.tmps[0]? = some ((.slice A0 l0.length c0)) := by rw [ha]; exact (putSel_off rfl).trans rfl
      replace ha := Aside0.mk ha
      have HR := Aside0.mk Q_HR
      have HB := Aside0.mk Q_HB
      have X3 := Aside0.mk Q_X3
      have X4 := Aside0.mk Q_X4
      refine value_ (w1 := w') (v := (.slice A0 l0.length c0)) (by rfl) rfl ?_ ?_
      · go_simp
        (try simp only [i64_w])
        try rfl
      refine hK.out _ _ ⟨(by rw [ha.out]; exact putSel_upk 0 hb_ rfl rfl rfl), Q_HR, Q_HB, Q_X3, Q_X4⟩
    refine steps_cons ?_ ?_
    · rintro b a w' ⟨ha, Q_HR, Q_HB, Q_X3, Q_X4⟩ hb_ hon hoff
      refine ⟨_, rfl, fun K hK => ?_⟩
      have e12 : a.tmps[12]? = some ((.slice A0 l0.length c0)) := by rw [ha]; exact putSel_on (e := (0, 12, (.slice A0 l0.length c0))) 0 rfl rfl (hon 0 (by kernel_rfl)) rfl
      replace ha := Aside0.mk ha
      have HR := Aside0.mk Q_HR
      have HB := Aside0.mk Q_HB
      have X3 := Aside0.mk Q_X3
      have X4 := Aside0.mk Q_X4
      refine goes_ Try.func30 (by kernel_rfl) rfl #[.slice A0 l0.length c0] (by rfl) rfl rfl (by first | (simp only [List.map_toArray, List.map_cons, List.map_nil, Act.eval, Array.getD_eq_getD_getElem?, Option.getD_some, e12]; done) | (simp only [List.map_toArray, List.map_cons, List.map_nil, Act.eval, Array.getD_eq_getD_getElem?, Option.getD_some, e12]; rfl)) ?_
      refine (HG.out _ HR.out).mono ?_
      rintro e w1_ ⟨rfl, hb⟩
      refine ⟨_, rfl, ?_⟩
      refine hK.out _ _ ⟨(by rw [ha.out]; exact putSel_upk 1 hb_ rfl rfl rfl), HR.out.below hb, below_step HB.out hb, X3.out.below hb, X4.out.below hb⟩
    refine steps_cons ?_ ?_
    · rintro b a w' ⟨ha, Q_HR, Q_HB, Q_X3, Q_X4⟩ hb_ hon hoff
      refine ⟨_, rfl, fun K hK => ?_⟩
      have e13 : a.tmps[13]? = some ((.bool false)) := by rw [ha]; exact putSel_on (e := (1, 13, (.bool false))) 1 rfl rfl (hon 1 (by kernel_rfl)) rfl
      replace ha := Aside0.mk ha
      have HR := Aside0.mk Q_HR
      have HB := Aside0.mk Q_HB
      have X3 := Aside0.mk Q_X3
      have X4 := Aside0.mk Q_X4
      refine value_ (w1 := w') (v := (.bool true)) (by rfl) rfl ?_ ?_
      · go_simp
        (try simp only [i64_w])
        try rfl
      refine hK.out _ _ ⟨(by rw [ha.out]; exact putSel_upk 2 hb_ rfl rfl rfl), Q_HR, Q_HB, Q_X3, Q_X4⟩
    refine steps_cons ?_ ?_
    · rintro b a w' ⟨ha, Q_HR, Q_HB, Q_X3, Q_X4⟩ hb_ hon hoff
      refine ⟨_, rfl, fun K hK => ?_⟩
      have e14 : a.tmps[14]? = some ((.bool true)) := by rw [ha]; exact putSel_on (e := (2, 14, (.bool true))) 2 rfl rfl (hon 2 (by kernel_rfl)) rfl
      replace ha := Aside0.mk ha
      have HR := Aside0.mk Q_HR
      have HB := Aside0.mk Q_HB
      have X3 := Aside0.mk Q_X3
      have X4 := Aside0.mk Q_X4
      refine value_ (w1 := w') (v := (.bool true)) (by rfl) rfl ?_ ?_
      · go_simp
        (try simp only [i64_w])
        try rfl
      refine hK.out _ _ ⟨(by rw [ha.out]; exact putSel_upk 3 hb_ rfl rfl rfl), Q_HR, Q_HB, Q_X3, Q_X4⟩
    refine steps_cons ?_ ?_
    · rintro b a w' ⟨ha, Q_HR, Q_HB, Q_X3, Q_X4⟩ hb_ hon hoff
      refine ⟨_, rfl, fun K hK => ?_⟩
      have e15 : a.tmps[15]? = some ((.bool true)) := by rw [ha]; exact putSel_on (e := (3, 15, (.bool true))) 3 rfl rfl (hon 3 (by kernel_rfl)) rfl
      replace ha := Aside0.mk ha
      have HR := Aside0.mk Q_HR
      have HB := Aside0.mk Q_HB
      have X3 := Aside0.mk Q_X3
      have X4 := Aside0.mk Q_X4
      refine off_ (wanted_off rfl rfl rfl (e15.trans (by first | rfl | (simp [*]; done)))) ?_
      refine hK.out _ _ ⟨(by rw [ha.out]; exact putSel_upk 4 hb_ rfl rfl rfl), Q_HR, Q_HB, Q_X3, Q_X4⟩
    refine steps_cons ?_ ?_
    · rintro b a w' ⟨ha, Q_HR, Q_HB, Q_X3, Q_X4⟩ hb_ hon hoff
      refine ⟨_, rfl, fun K hK => ?_⟩
      have e15 : a.tmps[15]? = some ((.bool true)) := by rw [ha]; exact putSel_on (e := (3, 15, (.bool true))) 3 rfl rfl (hon 3 (by kernel_rfl)) rfl
      replace ha := Aside0.mk ha
      have HR := Aside0.mk Q_HR
      have HB := Aside0.mk Q_HB
      have X3 := Aside0.mk Q_X3
      have X4 := Aside0.mk Q_X4
      refine off_ (wanted_off rfl rfl rfl (e15.trans (by first | rfl | (simp [*]; done)))) ?_
      refine hK.out _ _ ⟨(by rw [ha.out]; exact putSel_upk 5 hb_ rfl rfl rfl), Q_HR, Q_HB, Q_X3, Q_X4⟩
    refine steps_cons ?_ ?_
    · rintro b a w' ⟨ha, Q_HR, Q_HB, Q_X3, Q_X4⟩ hb_ hon hoff
      refine ⟨_, rfl, fun K hK => ?_⟩
      have e15 : a.tmps[15]? = some ((.bool true)) := by rw [ha]; exact putSel_on (e := (3, 15, (.bool true))) 3 rfl rfl (hon 3 (by kernel_rfl)) rfl
      replace ha := Aside0.mk ha
      have HR := Aside0.mk Q_HR
      have HB := Aside0.mk Q_HB
      have X3 := Aside0.mk Q_X3
      have X4 := Aside0.mk Q_X4
      refine off_ (wanted_off rfl rfl rfl (e15.trans (by first | rfl | (simp [*]; done)))) ?_
      refine hK.out _ _ ⟨(by rw [ha.out]; exact putSel_upk 6 hb_ rfl rfl rfl), Q_HR, Q_HB, Q_X3, Q_X4⟩
    refine steps_cons ?_ ?_
    · rintro b a w' ⟨ha, Q_HR, Q_HB, Q_X3, Q_X4⟩ hb_ hon hoff
      refine ⟨_, rfl, fun K hK => ?_⟩
      have e15 : a.tmps[15]? = some ((.bool true)) := by rw [ha]; exact putSel_on (e := (3, 15, (.bool true))) 3 rfl rfl (hon 3 (by kernel_rfl)) rfl
      have e18 : a.tmps[18]? = some (undef) := by rw [ha]; exact putSel_on (e := (6, 18, undef)) 6 rfl rfl (hon 6 (by kernel_rfl)) rfl
      replace ha := Aside0.mk ha
      have HR := Aside0.mk Q_HR
      have HB := Aside0.mk Q_HB
      have X3 := Aside0.mk Q_X3
      have X4 := Aside0.mk Q_X4
      refine value_ (w1 := w') (v := (.bool true)) (by rfl) rfl ?_ ?_
      · go_simp
        (try simp only [i64_w])
        try rfl
      refine hK.out _ _ ⟨(by rw [ha.out]; exact putSel_upk 7 hb_ rfl rfl rfl), Q_HR, Q_HB, Q_X3, Q_X4⟩
    refine steps_cons ?_ ?_
    · rintro b a w' ⟨ha, Q_HR, Q_HB, Q_X3, Q_X4⟩ hb_ hon hoff
      refine ⟨_, rfl, fun K hK => ?_⟩
      have e19 : a.tmps[19]? = some ((.bool true)) := by rw [ha]; exact putSel_on (e := (7, 19, (.bool true))) 7 rfl rfl (hon 7 (by kernel_rfl)) rfl
      replace ha := Aside0.mk ha
      have HR := Aside0.mk Q_HR
      have HB := Aside0.mk Q_HB
      have X3 := Aside0.mk Q_X3
      have X4 := Aside0.mk Q_X4
      refine value_ (w1 := w') (v := (.bool true)) (by rfl) rfl ?_ ?_
      · go_simp
        (try simp only [i64_w])
        try rfl
      refine hK.out _ _ ⟨(by rw [ha.out]; exact putSel_upk 8 hb_ rfl rfl rfl), Q_HR, Q_HB, Q_X3, Q_X4⟩
    refine steps_cons ?_ ?_
    · rintro b a w' ⟨ha, Q_HR, Q_HB, Q_X3, Q_X4⟩ hb_ hon hoff
      refine ⟨_, rfl, fun K hK => ?_⟩
      have e20 : a.tmps[20]? = some ((.bool true)) := by rw [ha]; exact putSel_on (e := (8, 20, (.bool true))) 8 rfl rfl (hon 8 (by kernel_rfl)) rfl
      replace ha := Aside0.mk ha
      have HR := Aside0.mk Q_HR
      have HB := Aside0.mk Q_HB
      have X3 := Aside0.mk Q_X3
      have X4 := Aside0.mk Q_X4
      refine off_ (wanted_off rfl rfl rfl (e20.trans (by first | rfl | (simp [*]; done)))) ?_
      refine hK.out _ _ ⟨(by rw [ha.out]; exact putSel_upk 9 hb_ rfl rfl rfl), Q_HR, Q_HB, Q_X3, Q_X4⟩
    refine steps_cons ?_ ?_
    · rintro b a w' ⟨ha, Q_HR, Q_HB, Q_X3, Q_X4⟩ hb_ hon hoff
      refine ⟨_, rfl, fun K hK => ?_⟩
      have e20 : a.tmps[20]? = some ((.bool true)) := by rw [ha]; exact putSel_on (e := (8, 20, (.bool true))) 8 rfl rfl (hon 8 (by kernel_rfl)) rfl
      replace ha := Aside0.mk ha
      have HR := Aside0.mk Q_HR
      have HB := Aside0.mk Q_HB
      have X3 := Aside0.mk Q_X3
      have X4 := Aside0.mk Q_X4
      refine off_ (wanted_off rfl rfl rfl (e20.trans (by first | rfl | (simp [*]; done)))) ?_
      refine hK.out _ _ ⟨(by rw [ha.out]; exact putSel_upk 10 hb_ rfl rfl rfl), Q_HR, Q_HB, Q_X3, Q_X4⟩
    refine steps_cons ?_ ?_
    · rintro b a w' ⟨ha, Q_HR, Q_HB, Q_X3, Q_X4⟩ hb_ hon hoff
      refine ⟨_, rfl, fun K hK => ?_⟩
      have e20 : a.tmps[20]? = some ((.bool true)) := by rw [ha]; exact putSel_on (e := (8, 20, (.bool true))) 8 rfl rfl (hon 8 (by kernel_rfl)) rfl
      replace ha := Aside0.mk ha
      have HR := Aside0.mk Q_HR
      have HB := Aside0.mk Q_HB
      have X3 := Aside0.mk Q_X3
      have X4 := Aside0.mk Q_X4
      refine off_ (wanted_off rfl rfl rfl (e20.trans (by first | rfl | (simp [*]; done)))) ?_
      refine hK.out _ _ ⟨(by rw [ha.out]; exact putSel_upk 11 hb_ rfl rfl rfl), Q_HR, Q_HB, Q_X3, Q_X4⟩
    refine steps_cons ?_ ?_
    · rintro b a w' ⟨ha, Q_HR, Q_HB, Q_X3, Q_X4⟩ hb_ hon hoff
      refine ⟨_, rfl, fun K hK => ?_⟩
      have e20 : a.tmps[20]? = some ((.bool true)) := by rw [ha]; exact putSel_on (e := (8, 20, (.bool true))) 8 rfl rfl (hon 8 (by kernel_rfl)) rfl
      replace ha := Aside0.mk ha
      have HR := Aside0.mk Q_HR
      have HB := Aside0.mk Q_HB
      have X3 := Aside0.mk Q_X3
      have X4 := Aside0.mk Q_X4
      refine off_ (wanted_off rfl rfl rfl (e20.trans (by first | rfl | (simp [*]; done)))) ?_
      refine hK.out _ _ ⟨(by rw [ha.out]; exact putSel_upk 12 hb_ rfl rfl rfl), Q_HR, Q_HB, Q_X3, Q_X4⟩
    refine steps_cons ?_ ?_
    · rintro b a w' ⟨ha, Q_HR, Q_HB, Q_X3, Q_X4⟩ hb_ hon hoff
      refine ⟨_, rfl, fun K hK => ?_⟩
      have e20 : a.tmps[20]? = some ((.bool true)) := by rw [ha]; exact putSel_on (e := (8, 20, (.bool true))) 8 rfl rfl (hon 8 (by kernel_rfl)) rfl
      replace ha := Aside0.mk ha
      have HR := Aside0.mk Q_HR
      have HB := Aside0.mk Q_HB
      have X3 := Aside0.mk Q_X3
      have X4 := Aside0.mk Q_X4
      refine off_ (wanted_off rfl rfl rfl (e20.trans (by first | rfl | (simp [*]; done)))) ?_
      refine hK.out _ _ ⟨(by rw [ha.out]; exact putSel_upk 13 hb_ rfl rfl rfl), Q_HR, Q_HB, Q_X3, Q_X4⟩
    refine steps_cons ?_ ?_
    · rintro b a w' ⟨ha, Q_HR, Q_HB, Q_X3, Q_X4⟩ hb_ hon hoff
      refine ⟨_, rfl, fun K hK => ?_⟩
      have e20 : a.tmps[20]? = some ((.bool true)) := by rw [ha]; exact putSel_on (e := (8, 20, (.bool true))) 8 rfl rfl (hon 8 (by kernel_rfl)) rfl
      have e25 : a.tmps[25]? = some (undef) := by rw [ha]; exact putSel_on (e := (13, 25, undef)) 13 rfl rfl (hon 13 (by kernel_rfl)) rfl
      replace ha := Aside0.mk ha
      have HR := Aside0.mk Q_HR
      have HB := Aside0.mk Q_HB
      have X3 := Aside0.mk Q_X3
      have X4 := Aside0.mk Q_X4
      refine value_ (w1 := w') (v := (.bool true)) (by rfl) rfl ?_ ?_
      · go_simp
        (try simp only [i64_w])
        try rfl
      refine hK.out _ _ ⟨(by rw [ha.out]; exact putSel_upk 14 hb_ rfl rfl rfl), Q_HR, Q_HB, Q_X3, Q_X4⟩
    refine steps_cons ?_ ?_
    · rintro b a w' ⟨ha, Q_HR, Q_HB, Q_X3, Q_X4⟩ hb_ hon hoff
      refine ⟨_, rfl, fun K hK => ?_⟩
      have e26 : a.tmps[26]? = some ((.bool true)) := by rw [ha]; exact putSel_on (e := (14, 26, (.bool true))) 14 rfl rfl (hon 14 (by kernel_rfl)) rfl
      replace ha := Aside0.mk ha
      have HR := Aside0.mk Q_HR
      have HB := Aside0.mk Q_HB
      have X3 := Aside0.mk Q_X3
      have X4 := Aside0.mk Q_X4
      refine value_ (w1 := w') (v := (.bool true)) (by rfl) rfl ?_ ?_
      · go_simp
        (try simp only [i64_w])
        try rfl
      refine hK.out _ _ ⟨(by rw [ha.out]; exact putSel_upk 15 hb_ rfl rfl rfl), Q_HR, Q_HB, Q_X3, Q_X4⟩
    refine steps_cons ?_ ?_
    · rintro b a w' ⟨ha, Q_HR, Q_HB, Q_X3, Q_X4⟩ hb_ hon hoff
      refine ⟨_, rfl, fun K hK => ?_⟩
      have e27 : a.tmps[27]? = some ((.bool true)) := by rw [ha]; exact putSel_on (e := (15, 27, (.bool true))) 15 rfl rfl (hon 15 (by kernel_rfl)) rfl
      replace ha := Aside0.mk ha
      have HR := Aside0.mk Q_HR
      have HB := Aside0.mk Q_HB
      have X3 := Aside0.mk Q_X3
      have X4 := Aside0.mk Q_X4
      refine off_ (wanted_off rfl rfl rfl (e27.trans (by first | rfl | (simp [*]; done)))) ?_
      refine hK.out _ _ ⟨(by rw [ha.out]; exact putSel_upk 16 hb_ rfl rfl rfl), Q_HR, Q_HB, Q_X3, Q_X4⟩
    refine steps_cons ?_ ?_
    · rintro b a w' ⟨ha, Q_HR, Q_HB, Q_X3, Q_X4⟩ hb_ hon hoff
      refine ⟨_, rfl, fun K hK => ?_⟩
      have e27 : a.tmps[27]? = some ((.bool true)) := by rw [ha]; exact putSel_on (e := (15, 27, (.bool true))) 15 rfl rfl (hon 15 (by kernel_rfl)) rfl
      replace ha := Aside0.mk ha
      have HR := Aside0.mk Q_HR
      have HB := Aside0.mk Q_HB
      have X3 := Aside0.mk Q_X3
      have X4 := Aside0.mk Q_X4
      refine off_ (wanted_off rfl rfl rfl (e27.trans (by first | rfl | (simp [*]; done)))) ?_
      refine hK.out _ _ ⟨(by rw [ha.out]; exact putSel_upk 17 hb_ rfl rfl rfl), Q_HR, Q_HB, Q_X3, Q_X4⟩
    refine steps_cons ?_ ?_
    · rintro b a w' ⟨ha, Q_HR, Q_HB, Q_X3, Q_X4⟩ hb_ hon hoff
      refine ⟨_, rfl, fun K hK => ?_⟩
      have e27 : a.tmps[27]? = some ((.bool true)) := by rw [ha]; exact putSel_on (e := (15, 27, (.bool true))) 15 rfl rfl (hon 15 (by kernel_rfl)) rfl
      replace ha := Aside0.mk ha
      have HR := Aside0.mk Q_HR
      have HB := Aside0.mk Q_HB
      have X3 := Aside0.mk Q_X3
      have X4 := Aside0.mk Q_X4
      refine off_ (wanted_off rfl rfl rfl (e27.trans (by first | rfl | (simp [*]; done)))) ?_
      refine hK.out _ _ ⟨(by rw [ha.out]; exact putSel_upk 18 hb_ rfl rfl rfl), Q_HR, Q_HB, Q_X3, Q_X4⟩
    refine steps_cons ?_ ?_
    · rintro b a w' ⟨ha, Q_HR, Q_HB, Q_X3, Q_X4⟩ hb_ hon hoff
      refine ⟨_, rfl, fun K hK => ?_⟩
      have e27 : a.tmps[27]? = some ((.bool true)) := by rw [ha]; exact putSel_on (e := (15, 27, (.bool true))) 15 rfl rfl (hon 15 (by kernel_rfl)) rfl
      replace ha := Aside0.mk ha
      have HR := Aside0.mk Q_HR
      have HB := Aside0.mk Q_HB
      have X3 := Aside0.mk Q_X3
      have X4 := Aside0.mk Q_X4
      refine off_ (wanted_off rfl rfl rfl (e27.trans (by first | rfl | (simp [*]; done)))) ?_
      refine hK.out _ _ ⟨(by rw [ha.out]; exact putSel_upk 19 hb_ rfl rfl rfl), Q_HR, Q_HB, Q_X3, Q_X4⟩
    refine steps_cons ?_ ?_
    · rintro b a w' ⟨ha, Q_HR, Q_HB, Q_X3, Q_X4⟩ hb_ hon hoff
      refine ⟨_, rfl, fun K hK => ?_⟩
      have e27 : a.tmps[27]? = some ((.bool true)) := by rw [ha]; exact putSel_on (e := (15, 27, (.bool true))) 15 rfl rfl (hon 15 (by kernel_rfl)) rfl
      replace ha := Aside0.mk ha
      have HR := Aside0.mk Q_HR
      have HB := Aside0.mk Q_HB
      have X3 := Aside0.mk Q_X3
      have X4 := Aside0.mk Q_X4
      refine off_ (wanted_off rfl rfl rfl (e27.trans (by first | rfl | (simp [*]; done)))) ?_
      refine hK.out _ _ ⟨(by rw [ha.out]; exact putSel_upk 20 hb_ rfl rfl rfl), Q_HR, Q_HB, Q_X3, Q_X4⟩
    refine steps_cons ?_ ?_
    · rintro b a w' ⟨ha, Q_HR, Q_HB, Q_X3, Q_X4⟩ hb_ hon hoff
      refine ⟨_, rfl, fun K hK => ?_⟩
      have e27 : a.tmps[27]? = some ((.bool true)) := by rw [ha]; exact putSel_on (e := (15, 27, (.bool true))) 15 rfl rfl (hon 15 (by kernel_rfl)) rfl
      have e32 : a.tmps[32]? = some (undef) := by rw [ha]; exact putSel_on (e := (20, 32, undef)) 20 rfl rfl (hon 20 (by kernel_rfl)) rfl
      replace ha := Aside0.mk ha
      have HR := Aside0.mk Q_HR
      have HB := Aside0.mk Q_HB
      have X3 := Aside0.mk Q_X3
      have X4 := Aside0.mk Q_X4
      refine value_ (w1 := w') (v := (.bool true)) (by rfl) rfl ?_ ?_
      · go_simp
        (try simp only [i64_w])
        try rfl
      refine hK.out _ _ ⟨(by rw [ha.out]; exact putSel_upk 21 hb_ rfl rfl rfl), Q_HR, Q_HB, Q_X3, Q_X4⟩
    exact steps_nil
  rintro b a we hall ⟨ha, Q_HR, Q_HB, Q_X3, Q_X4⟩
  clear HB HR X3 X4
  have hb0_ := hall 0 (by kernel_rfl)
  have hb1_ := hall 1 (by kernel_rfl)
  have hb2_ := hall 2 (by kernel_rfl)
  have hb3_ := hall 3 (by kernel_rfl)
  have hb4_ := hall 4 (by kernel_rfl)
  have hb5_ := hall 5 (by kernel_rfl)
  have hb6_ := hall 6 (by kernel_rfl)
  have hb7_ := hall 7 (by kernel_rfl)
  have hb8_ := hall 8 (by kernel_rfl)
  have hb9_ := hall 9 (by kernel_rfl)
  have hb10_ := hall 10 (by kernel_rfl)
  have hb11_ := hall 11 (by kernel_rfl)
  have hb12_ := hall 12 (by kernel_rfl)
  have hb13_ := hall 13 (by kernel_rfl)
  have hb14_ := hall 14 (by kernel_rfl)
  have hb15_ := hall 15 (by kernel_rfl)
  have hb16_ := hall 16 (by kernel_rfl)
  have hb17_ := hall 17 (by kernel_rfl)
  have hb18_ := hall 18 (by kernel_rfl)
  have hb19_ := hall 19 (by kernel_rfl)
  have hb20_ := hall 20 (by kernel_rfl)
  have hb21_ := hall 21 (by kernel_rfl)
  subst ha
  simp only [putSel, hb0_, hb1_, hb2_, hb3_, hb4_, hb5_, hb6_, hb7_, hb8_, hb9_, hb10_, hb11_, hb12_, hb13_, hb14_, hb15_, hb16_, hb17_, hb18_, hb19_, hb20_, hb21_, if_true, Act.put, List.setIfInBounds_toArray, List.set_cons_zero, List.set_cons_succ]
  have HR := Aside0.mk Q_HR
  clear Q_HR
  have HB := Aside0.mk Q_HB
  clear Q_HB
  have X3 := Aside0.mk Q_X3
  clear Q_X3
  have X4 := Aside0.mk Q_X4
  clear Q_X4
  clear hall hb0_ hb1_ hb2_ hb3_ hb4_ hb5_ hb6_ hb7_ hb8_ hb9_ hb10_ hb11_ hb12_ hb13_ hb14_ hb15_ hb16_ hb17_ hb18_ hb19_ hb20_ hb21_
  have c40 := X4.out.c0
  have c41 := X4.out.c1
  have f40 := X4.out.fz 0
  have f41 := X4.out.fz 1
  go_wp2_with fail
  refine bodyPost_ret (res_span _ _ (w.heap.size + 1) 0 0 false rfl rfl (blk_put (blk_put X4.out 0 _ rfl) 1 _ rfl)) rfl ?_
  exact ⟨rfl, below_set' (below_set' HB.out (by omega)) (by omega)⟩
set_option maxHeartbeats 4000000 in
set_option maxRecDepth 100000 in
theorem span_no2 (A0 : Option Addr) (c0 : Nat) (l0 : List Rn) (xa xb : Int) (w : World) (h : RC w A0 l0) (hc : l0.length ≤ c0) (hl : l0.length ≤ 140737488351232) (hg : good l0 = true) (ha : xa < 0) :
    Calls Try.prog 35 #[.slice A0 l0.length c0, .agg #[.int .i64 xa, .int .i64 xb]] w (SpanPost ((0, 0), false) w) := by
  have HG := Aside0.mk (good_c A0 c0 l0 hc hl)
  have HI := Aside0.mk (in_c A0 c0 l0 hc hl hg)
  rw [hg] at HG
  have H0 := Aside0.mk h
  clear h hc hl hg
  go_enter Try.func35, Try.ntmps35
  go_wp2_with fail
  obtain ⟨w2, hw2⟩ : ∃ w2, w2 = (w.alloc (.cells #[.int .i64 xa, .int .i64 xb] 42)).alloc (.cells #[.int .i64 0, .int .i64 0] 42) := ⟨_, rfl⟩
  have hb2 : Below w.heap.size w w2 := by rw [hw2]; exact below_alloc (below_alloc (Below.refl _ _) _) _
  have HB := Aside0.mk hb2
  have HR := Aside0.mk (H0.out.below hb2)
  have X3 := Aside0.mk (show Sx w.heap.size xa xb w2 by rw [hw2]; exact (show Sx w.heap.size xa xb (w.alloc _) from Own.heap_new w _).below (below_alloc (Below.refl _ _) _))
  have X4 := Aside0.mk (show Sx (w.heap.size + 1) 0 0 w2 by
    rw [hw2]
    have := Own.heap_new (w.alloc (.cells #[.int .i64 xa, .int .i64 xb] 42)) (.cells #[.int .i64 0, .int .i64 0] 42)
    rwa [World.size_alloc] at this)
  rw [← hw2]
  clear hw2 hb2
  refine start_ (n := 22) (S := fun w' => True) (ds := []) #[false, false, false, false, false, false, false, false, false, false, false, false, false, false, false, false, false, false, false, false, false, false] (by kernel_rfl) rfl rfl trivial (fun hHeld => ?_); refine with_tabW PlaceS.tab1 PlaceS.bits1 (fun HT_ HW_ => ?_)
  refine inv_at [0, 1, 2, 3, 4, 5, 6, 7, 8, 9, 10, 11, 12, 13, 14, 15, 16, 17, 18, 19, 20, 21] (fun a0_ b a w' => a = putSel a0_ b [(0, 12, (.slice A0 l0.length c0)), (1, 13, (.bool true)), (2, 14, (.bool false)), (3, 15, (.bool false)), (4, 16, (.pointer (some ⟨w.heap.size, 0, none⟩))), (5, 17, (.int .i64 xa)), (6, 18, (.bool true)), (7, 19, (.bool true)), (8, 20, (.bool true)), (9, 21, undef), (10, 22, undef), (11, 23, undef), (12, 24, undef), (13, 25, undef), (14, 26, (.bool true)), (15, 27, (.bool true)), (16, 28, undef), (17, 29, undef), (18, 30, undef), (19, 31, undef), (20, 32, undef), (21, 33, (.bool true))] ∧ (RC w' A0 l0) ∧ (Below w.heap.size w w') ∧ (Sx w.heap.size xa xb w') ∧ (Sx (w.heap.size + 1) 0 0 w')) HT_.out HW_.out (by kernel_rfl) (by kernel_rfl) ?_ ?_ ?_
  · exact ⟨by simp only [putSel, Bool.false_eq_true, if_false], HR.out.below (below_drew1 (Below.refl _ _)), below_drew1 HB.out, X3.out.below (below_drew1 (Below.refl _ _)), X4.out.below (below_drew1 (Below.refl _ _))⟩
  · skip
    clear HB HR X3 X4
    refine steps_cons ?_ ?_
    · rintro b a w' ⟨ha, Q_HR, Q_HB, Q_X3, Q_X4⟩ hb_ hon hoff
      refine ⟨_, rfl, fun K hK => ?_⟩
      have e0 : a.tmps[0]? = some ((.slice A0 l0.length c0)) := by rw [ha]; exact (putSel_off rfl).trans rfl
      replace ha := Aside0.mk ha
      have HR := Aside0.mk Q_HR
      have HB := Aside0.mk Q_HB
      have X3 := Aside0.mk Q_X3
      have X4 := Aside0.mk Q_X4
      refine value_ (w1 := w') (v := (.slice A0 l0.length c0)) (by rfl) rfl ?_ ?_
      · go_simp
        (try simp only [i64_w])
        try rfl
      refine hK.out _ _ ⟨(by rw [ha.out]; exact putSel_upk 0 hb_ rfl rfl rfl), Q_HR, Q_HB, Q_X3, Q_X4⟩
    refine steps_cons ?_ ?_
    · rintro b a w' ⟨ha, Q_HR, Q_HB, Q_X3, Q_X4⟩ hb_ hon hoff
      refine ⟨_, rfl, fun K hK => ?_⟩
      have e12 : a.tmps[12]? = some ((.slice A0 l0.length c0)) := by rw [ha]; exact putSel_on (e := (0, 12, (.slice A0 l0.length c0))) 0 rfl rfl (hon 0 (by kernel_rfl)) rfl
      replace ha := Aside0.mk ha
      have HR := Aside0.mk Q_HR
      have HB := Aside0.mk Q_HB
      have X3 := Aside0.mk Q_X3
      have X4 := Aside0.mk Q_X4
      refine goes_ Try.func30 (by kernel_rfl) rfl #[.slice A0 l0.length c0] (by rfl) rfl rfl (by first | (simp only [List.map_toArray, List.map_cons, List.map_nil, Act.eval, Array.getD_eq_getD_getElem?, Option.getD_some, e12]; done) | (simp only [List.map_toArray, List.map_cons, List.map_nil, Act.eval, Array.getD_eq_getD_getElem?, Option.getD_some, e12]; rfl)) ?_
      refine (HG.out _ HR.out).mono ?_
      rintro e w1_ ⟨rfl, hb⟩
      refine ⟨_, rfl, ?_⟩
      refine hK.out _ _ ⟨(by rw [ha.out]; exact putSel_upk 1 hb_ rfl rfl rfl), HR.out.below hb, below_step HB.out hb, X3.out.below hb, X4.out.below hb⟩
    refine steps_cons ?_ ?_
    · rintro b a w' ⟨ha, Q_HR, Q_HB, Q_X3, Q_X4⟩ hb_ hon hoff
      refine ⟨_, rfl, fun K hK => ?_⟩
      have e13 : a.tmps[13]? = some ((.bool true)) := by rw [ha]; exact putSel_on (e := (1, 13, (.bool true))) 1 rfl rfl (hon 1 (by kernel_rfl)) rfl
      replace ha := Aside0.mk ha
      have HR := Aside0.mk Q_HR
      have HB := Aside0.mk Q_HB
      have X3 := Aside0.mk Q_X3
      have X4 := Aside0.mk Q_X4
      refine value_ (w1 := w') (v := (.bool false)) (by rfl) rfl ?_ ?_
      · go_simp
        (try simp only [i64_w])
        try rfl
      refine hK.out _ _ ⟨(by rw [ha.out]; exact putSel_upk 2 hb_ rfl rfl rfl), Q_HR, Q_HB, Q_X3, Q_X4⟩
    refine steps_cons ?_ ?_
    · rintro b a w' ⟨ha, Q_HR, Q_HB, Q_X3, Q_X4⟩ hb_ hon hoff
      refine ⟨_, rfl, fun K hK => ?_⟩
      have e14 : a.tmps[14]? = some ((.bool false)) := by rw [ha]; exact putSel_on (e := (2, 14, (.bool false))) 2 rfl rfl (hon 2 (by kernel_rfl)) rfl
      replace ha := Aside0.mk ha
      have HR := Aside0.mk Q_HR
      have HB := Aside0.mk Q_HB
      have X3 := Aside0.mk Q_X3
      have X4 := Aside0.mk Q_X4
      refine value_ (w1 := w') (v := (.bool false)) (by rfl) rfl ?_ ?_
      · go_simp
        (try simp only [i64_w])
        try rfl
      refine hK.out _ _ ⟨(by rw [ha.out]; exact putSel_upk 3 hb_ rfl rfl rfl), Q_HR, Q_HB, Q_X3, Q_X4⟩
    refine steps_cons ?_ ?_
    · rintro b a w' ⟨ha, Q_HR, Q_HB, Q_X3, Q_X4⟩ hb_ hon hoff
      refine ⟨_, rfl, fun K hK => ?_⟩
      have e3 : a.tmps[3]? = some ((.pointer (some ⟨w.heap.size, 0, none⟩))) := by rw [ha]; exact (putSel_off rfl).trans rfl
      have e15 : a.tmps[15]? = some ((.bool false)) := by rw [ha]; exact putSel_on (e := (3, 15, (.bool false))) 3 rfl rfl (hon 3 (by kernel_rfl)) rfl
      replace ha := Aside0.mk ha
      have HR := Aside0.mk Q_HR
      have HB := Aside0.mk Q_HB
      have X3 := Aside0.mk Q_X3
      have X4 := Aside0.mk Q_X4
      refine value_ (w1 := w') (v := (.pointer (some ⟨w.heap.size, 0, none⟩))) (wanted_on rfl rfl rfl (e15.trans (by first | rfl | (simp [*]; done)))) rfl ?_ ?_
      · go_simp
        (try simp only [i64_w])
        try rfl
      refine hK.out _ _ ⟨(by rw [ha.out]; exact putSel_upk 4 hb_ rfl rfl rfl), Q_HR, Q_HB, Q_X3, Q_X4⟩
    refine steps_cons ?_ ?_
    · rintro b a w' ⟨ha, Q_HR, Q_HB, Q_X3, Q_X4⟩ hb_ hon hoff
      refine ⟨_, rfl, fun K hK => ?_⟩
      have e16 : a.tmps[16]? = some ((.pointer (some ⟨w.heap.size, 0, none⟩))) := by rw [ha]; exact putSel_on (e := (4, 16, (.pointer (some ⟨w.heap.size, 0, none⟩)))) 4 rfl rfl (hon 4 (by kernel_rfl)) rfl
      have e15 : a.tmps[15]? = some ((.bool false)) := by rw [ha]; exact putSel_on (e := (3, 15, (.bool false))) 3 rfl rfl (hon 3 (by kernel_rfl)) rfl
      replace ha := Aside0.mk ha
      have HR := Aside0.mk Q_HR
      have HB := Aside0.mk Q_HB
      have X3 := Aside0.mk Q_X3
      have X4 := Aside0.mk Q_X4
      have hc_ := X3.out.c0
      refine value_ (w1 := w') (v := (.int .i64 xa)) (wanted_on rfl rfl rfl (e15.trans (by first | rfl | (simp [*]; done)))) rfl ?_ ?_
      · go_simp
        (try simp only [i64_w])
        try rfl
      refine hK.out _ _ ⟨(by rw [ha.out]; exact putSel_upk 5 hb_ rfl rfl rfl), Q_HR, Q_HB, Q_X3, Q_X4⟩
    refine steps_cons ?_ ?_
    · rintro b a w' ⟨ha, Q_HR, Q_HB, Q_X3, Q_X4⟩ hb_ hon hoff
      refine ⟨_, rfl, fun K hK => ?_⟩
      have e17 : a.tmps[17]? = some ((.int .i64 xa)) := by rw [ha]; exact putSel_on (e := (5, 17, (.int .i64 xa))) 5 rfl rfl (hon 5 (by kernel_rfl)) rfl
      have e15 : a.tmps[15]? = some ((.bool false)) := by rw [ha]; exact putSel_on (e := (3, 15, (.bool false))) 3 rfl rfl (hon 3 (by kernel_rfl)) rfl
      replace ha := Aside0.mk ha
      have HR := Aside0.mk Q_HR
      have HB := Aside0.mk Q_HB
      have X3 := Aside0.mk Q_X3
      have X4 := Aside0.mk Q_X4
      refine value_ (w1 := w') (v := (.bool true)) (wanted_on rfl rfl rfl (e15.trans (by first | rfl | (simp [*]; done)))) rfl ?_ ?_
      · go_simp
        (try simp only [i64_w])
        try rfl
      refine hK.out _ _ ⟨(by rw [ha.out]; exact putSel_upk 6 hb_ rfl rfl rfl), Q_HR, Q_HB, Q_X3, Q_X4⟩
    refine steps_cons ?_ ?_
    · rintro b a w' ⟨ha, Q_HR, Q_HB, Q_X3, Q_X4⟩ hb_ hon hoff
      refine ⟨_, rfl, fun K hK => ?_⟩
      have e15 : a.tmps[15]? = some ((.bool false)) := by rw [ha]; exact putSel_on (e := (3, 15, (.bool false))) 3 rfl rfl (hon 3 (by kernel_rfl)) rfl
      have e18 : a.tmps[18]? = some ((.bool true)) := by rw [ha]; exact putSel_on (e := (6, 18, (.bool true))) 6 rfl rfl (hon 6 (by kernel_rfl)) rfl
      replace ha := Aside0.mk ha
      have HR := Aside0.mk Q_HR
      have HB := Aside0.mk Q_HB
      have X3 := Aside0.mk Q_X3
      have X4 := Aside0.mk Q_X4
      refine value_ (w1 := w') (v := (.bool true)) (by rfl) rfl ?_ ?_
      · go_simp
        (try simp only [i64_w])
        try rfl
      refine hK.out _ _ ⟨(by rw [ha.out]; exact putSel_upk 7 hb_ rfl rfl rfl), Q_HR, Q_HB, Q_X3, Q_X4⟩
    refine steps_cons ?_ ?_
    · rintro b a w' ⟨ha, Q_HR, Q_HB, Q_X3, Q_X4⟩ hb_ hon hoff
      refine ⟨_, rfl, fun K hK => ?_⟩
      have e19 : a.tmps[19]? = some ((.bool true)) := by rw [ha]; exact putSel_on (e := (7, 19, (.bool true))) 7 rfl rfl (hon 7 (by kernel_rfl)) rfl
      replace ha := Aside0.mk ha
      have HR := Aside0.mk Q_HR
      have HB := Aside0.mk Q_HB
      have X3 := Aside0.mk Q_X3
      have X4 := Aside0.mk Q_X4
      refine value_ (w1 := w') (v := (.bool true)) (by rfl) rfl ?_ ?_
      · go_simp
        (try simp only [i64_w])
        try rfl
      refine hK.out _ _ ⟨(by rw [ha.out]; exact putSel_upk 8 hb_ rfl rfl rfl), Q_HR, Q_HB, Q_X3, Q_X4⟩
    refine steps_cons ?_ ?_
    · rintro b a w' ⟨ha, Q_HR, Q_HB, Q_X3, Q_X4⟩ hb_ hon hoff
      refine ⟨_, rfl, fun K hK => ?_⟩
      have e20 : a.tmps[20]? = some ((.bool true)) := by rw [ha]; exact putSel_on (e := (8, 20, (.bool true))) 8 rfl rfl (hon 8 (by kernel_rfl)) rfl
      replace ha := Aside0.mk ha
      have HR := Aside0.mk Q_HR
      have HB := Aside0.mk Q_HB
      have X3 := Aside0.mk Q_X3
      have X4 := Aside0.mk Q_X4
      refine off_ (wanted_off rfl rfl rfl (e20.trans (by first | rfl | (simp [*]; done)))) ?_
      refine hK.out _ _ ⟨(by rw [ha.out]; exact putSel_upk 9 hb_ rfl rfl rfl), Q_HR, Q_HB, Q_X3, Q_X4⟩
    refine steps_cons ?_ ?_
    · rintro b a w' ⟨ha, Q_HR, Q_HB, Q_X3, Q_X4⟩ hb_ hon hoff
      refine ⟨_, rfl, fun K hK => ?_⟩
      have e20 : a.tmps[20]? = some ((.bool true)) := by rw [ha]; exact putSel_on (e := (8, 20, (.bool true))) 8 rfl rfl (hon 8 (by kernel_rfl)) rfl
      replace ha := Aside0.mk ha
      have HR := Aside0.mk Q_HR
      have HB := Aside0.mk Q_HB
      have X3 := Aside0.mk Q_X3
      have X4 := Aside0.mk Q_X4
      refine off_ (wanted_off rfl rfl rfl (e20.trans (by first | rfl | (simp [*]; done)))) ?_
      refine hK.out _ _ ⟨(by rw [ha.out]; exact putSel_upk 10 hb_ rfl rfl rfl), Q_HR, Q_HB, Q_X3, Q_X4⟩
    refine steps_cons ?_ ?_
    · rintro b a w' ⟨ha, Q_HR, Q_HB, Q_X3, Q_X4⟩ hb_ hon hoff
      refine ⟨_, rfl, fun K hK => ?_⟩
      have e20 : a.tmps[20]? = some ((.bool true)) := by rw [ha]; exact putSel_on (e := (8, 20, (.bool true))) 8 rfl rfl (hon 8 (by kernel_rfl)) rfl
      replace ha := Aside0.mk ha
      have HR := Aside0.mk Q_HR
      have HB := Aside0.mk Q_HB
      have X3 := Aside0.mk Q_X3
      have X4 := Aside0.mk Q_X4
      refine off_ (wanted_off rfl rfl rfl (e20.trans (by first | rfl | (simp [*]; done)))) ?_
      refine hK.out _ _ ⟨(by rw [ha.out]; exact putSel_upk 11 hb_ rfl rfl rfl), Q_HR, Q_HB, Q_X3, Q_X4⟩
    refine steps_cons ?_ ?_
    · rintro b a w' ⟨ha, Q_HR, Q_HB, Q_X3, Q_X4⟩ hb_ hon hoff
      refine ⟨_, rfl, fun K hK => ?_⟩
      have e20 : a.tmps[20]? = some ((.bool true)) := by rw [ha]; exact putSel_on (e := (8, 20, (.bool true))) 8 rfl rfl (hon 8 (by kernel_rfl)) rfl
      replace ha := Aside0.mk ha
      have HR := Aside0.mk Q_HR
      have HB := Aside0.mk Q_HB
      have X3 := Aside0.mk Q_X3
      have X4 := Aside0.mk Q_X4
      refine off_ (wanted_off rfl rfl rfl (e20.trans (by first | rfl | (simp [*]; done)))) ?_
      refine hK.out _ _ ⟨(by rw [ha.out]; exact putSel_upk 12 hb_ rfl rfl rfl), Q_HR, Q_HB, Q_X3, Q_X4⟩
    refine steps_cons ?_ ?_
    · rintro b a w' ⟨ha, Q_HR, Q_HB, Q_X3, Q_X4⟩ hb_ hon hoff
      refine ⟨_, rfl, fun K hK => ?_⟩
      have e20 : a.tmps[20]? = some ((.bool true)) := by rw [ha]; exact putSel_on (e := (8, 20, (.bool true))) 8 rfl rfl (hon 8 (by kernel_rfl)) rfl
      replace ha := Aside0.mk ha
      have HR := Aside0.mk Q_HR
      have HB := Aside0.mk Q_HB
      have X3 := Aside0.mk Q_X3
      have X4 := Aside0.mk Q_X4
      refine off_ (wanted_off rfl rfl rfl (e20.trans (by first | rfl | (simp [*]; done)))) ?_
      refine hK.out _ _ ⟨(by rw [ha.out]; exact putSel_upk 13 hb_ rfl rfl rfl), Q_HR, Q_HB, Q_X3, Q_X4⟩
    refine steps_cons ?_ ?_
    · rintro b a w' ⟨ha, Q_HR, Q_HB, Q_X3, Q_X4⟩ hb_ hon hoff
      refine ⟨_, rfl, fun K hK => ?_⟩
      have e20 : a.tmps[20]? = some ((.bool true)) := by rw [ha]; exact putSel_on (e := (8, 20, (.bool true))) 8 rfl rfl (hon 8 (by kernel_rfl)) rfl
      have e25 : a.tmps[25]? = some (undef) := by rw [ha]; exact putSel_on (e := (13, 25, undef)) 13 rfl rfl (hon 13 (by kernel_rfl)) rfl
      replace ha := Aside0.mk ha
      have HR := Aside0.mk Q_HR
      have HB := Aside0.mk Q_HB
      have X3 := Aside0.mk Q_X3
      have X4 := Aside0.mk Q_X4
      refine value_ (w1 := w') (v := (.bool true)) (by rfl) rfl ?_ ?_
      · go_simp
        (try simp only [i64_w])
        try rfl
      refine hK.out _ _ ⟨(by rw [ha.out]; exact putSel_upk 14 hb_ rfl rfl rfl), Q_HR, Q_HB, Q_X3, Q_X4⟩
    refine steps_cons ?_ ?_
    · rintro b a w' ⟨ha, Q_HR, Q_HB, Q_X3, Q_X4⟩ hb_ hon hoff
      refine ⟨_, rfl, fun K hK => ?_⟩
      have e26 : a.tmps[26]? = some ((.bool true)) := by rw [ha]; exact putSel_on (e := (14, 26, (.bool true))) 14 rfl rfl (hon 14 (by kernel_rfl)) rfl
      replace ha := Aside0.mk ha
      have HR := Aside0.mk Q_HR
      have HB := Aside0.mk Q_HB
      have X3 := Aside0.mk Q_X3
      have X4 := Aside0.mk Q_X4
      refine value_ (w1 := w') (v := (.bool true)) (by rfl) rfl ?_ ?_
      · go_simp
        (try simp only [i64_w])
        try rfl
      refine hK.out _ _ ⟨(by rw [ha.out]; exact putSel_upk 15 hb_ rfl rfl rfl), Q_HR, Q_HB, Q_X3, Q_X4⟩
    refine steps_cons ?_ ?_
    · rintro b a w' ⟨ha, Q_HR, Q_HB, Q_X3, Q_X4⟩ hb_ hon hoff
      refine ⟨_, rfl, fun K hK => ?_⟩
      have e27 : a.tmps[27]? = some ((.bool true)) := by rw [ha]; exact putSel_on (e := (15, 27, (.bool true))) 15 rfl rfl (hon 15 (by kernel_rfl)) rfl
      replace ha := Aside0.mk ha
      have HR := Aside0.mk Q_HR
      have HB := Aside0.mk Q_HB
      have X3 := Aside0.mk Q_X3
      have X4 := Aside0.mk Q_X4
      refine off_ (wanted_off rfl rfl rfl (e27.trans (by first | rfl | (simp [*]; done)))) ?_
      refine hK.out _ _ ⟨(by rw [ha.out]; exact putSel_upk 16 hb_ rfl rfl rfl), Q_HR, Q_HB, Q_X3, Q_X4⟩
    refine steps_cons ?_ ?_
    · rintro b a w' ⟨ha, Q_HR, Q_HB, Q_X3, Q_X4⟩ hb_ hon hoff
      refine ⟨_, rfl, fun K hK => ?_⟩
      have e27 : a.tmps[27]? = some ((.bool true)) := by rw [ha]; exact putSel_on (e := (15, 27, (.bool true))) 15 rfl rfl (hon 15 (by kernel_rfl)) rfl
      replace ha := Aside0.mk ha
      have HR := Aside0.mk Q_HR
      have HB := Aside0.mk Q_HB
      have X3 := Aside0.mk Q_X3
      have X4 := Aside0.mk Q_X4
      refine off_ (wanted_off rfl rfl rfl (e27.trans (by first | rfl | (simp [*]; done)))) ?_
      refine hK.out _ _ ⟨(by rw [ha.out]; exact putSel_upk 17 hb_ rfl rfl rfl), Q_HR, Q_HB, Q_X3, Q_X4⟩
    refine steps_cons ?_ ?_
    · rintro b a w' ⟨ha, Q_HR, Q_HB, Q_X3, Q_X4⟩ hb_ hon hoff
      refine ⟨_, rfl, fun K hK => ?_⟩
      have e27 : a.tmps[27]? = some ((.bool true)) := by rw [ha]; exact putSel_on (e := (15, 27, (.bool true))) 15 rfl rfl (hon 15 (by kernel_rfl)) rfl
      replace ha := Aside0.mk ha
      have HR := Aside0.mk Q_HR
      have HB := Aside0.mk Q_HB
      have X3 := Aside0.mk Q_X3
      have X4 := Aside0.mk Q_X4
      refine off_ (wanted_off rfl rfl rfl (e27.trans (by first | rfl | (simp [*]; done)))) ?_
      refine hK.out _ _ ⟨(by rw [ha.out]; exact putSel_upk 18 hb_ rfl rfl rfl), Q_HR, Q_HB, Q_X3, Q_X4⟩
    refine steps_cons ?_ ?_
    · rintro b a w' ⟨ha, Q_HR, Q_HB, Q_X3, Q_X4⟩ hb_ hon hoff
      refine ⟨_, rfl, fun K hK => ?_⟩
      have e27 : a.tmps[27]? = some ((.bool true)) := by rw [ha]; exact putSel_on (e := (15, 27, (.bool true))) 15 rfl rfl (hon 15 (by kernel_rfl)) rfl
      replace ha := Aside0.mk ha
      have HR := Aside0.mk Q_HR
      have HB := Aside0.mk Q_HB
      have X3 := Aside0.mk Q_X3
      have X4 := Aside0.mk Q_X4
      refine off_ (wanted_off rfl rfl rfl (e27.trans (by first | rfl | (simp [*]; done)))) ?_
      refine hK.out _ _ ⟨(by rw [ha.out]; exact putSel_upk 19 hb_ rfl rfl rfl), Q_HR, Q_HB, Q_X3, Q_X4⟩
    refine steps_cons ?_ ?_
    · rintro b a w' ⟨ha, Q_HR, Q_HB, Q_X3, Q_X4⟩ hb_ hon hoff
      refine ⟨_, rfl, fun K hK => ?_⟩
      have e27 : a.tmps[27]? = some ((.bool true)) := by rw [ha]; exact putSel_on (e := (15, 27, (.bool true))) 15 rfl rfl (hon 15 (by kernel_rfl)) rfl
      replace ha := Aside0.mk ha
      have HR := Aside0.mk Q_HR
      have HB := Aside0.mk Q_HB
      have X3 := Aside0.mk Q_X3
      have X4 := Aside0.mk Q_X4
      refine off_ (wanted_off rfl rfl rfl (e27.trans (by first | rfl | (simp [*]; done)))) ?_
      refine hK.out _ _ ⟨(by rw [ha.out]; exact putSel_upk 20 hb_ rfl rfl rfl), Q_HR, Q_HB, Q_X3, Q_X4⟩
    refine steps_cons ?_ ?_
    · rintro b a w' ⟨ha, Q_HR, Q_HB, Q_X3, Q_X4⟩ hb_ hon hoff
      refine ⟨_, rfl, fun K hK => ?_⟩
      have e27 : a.tmps[27]? = some ((.bool true)) := by rw [ha]; exact putSel_on (e := (15, 27, (.bool true))) 15 rfl rfl (hon 15 (by kernel_rfl)) rfl
      have e32 : a.tmps[32]? = some (undef) := by rw [ha]; exact putSel_on (e := (20, 32, undef)) 20 rfl rfl (hon 20 (by kernel_rfl)) rfl
      replace ha := Aside0.mk ha
      have HR := Aside0.mk Q_HR
      have HB := Aside0.mk Q_HB
      have X3 := Aside0.mk Q_X3
      have X4 := Aside0.mk Q_X4
      refine value_ (w1 := w') (v := (.bool true)) (by rfl) rfl ?_ ?_
      · go_simp
        (try simp only [i64_w])
        try rfl
      refine hK.out _ _ ⟨(by rw [ha.out]; exact putSel_upk 21 hb_ rfl rfl rfl), Q_HR, Q_HB, Q_X3, Q_X4⟩
    exact steps_nil
  rintro b a we hall ⟨ha, Q_HR, Q_HB, Q_X3, Q_X4⟩
  clear HB HR X3 X4
  have hb0_ := hall 0 (by kernel_rfl)
  have hb1_ := hall 1 (by kernel_rfl)
  have hb2_ := hall 2 (by kernel_rfl)
  have hb3_ := hall 3 (by kernel_rfl)
  have hb4_ := hall 4 (by kernel_rfl)
  have hb5_ := hall 5 (by kernel_rfl)
  have hb6_ := hall 6 (by kernel_rfl)
  have hb7_ := hall 7 (by kernel_rfl)
  have hb8_ := hall 8 (by kernel_rfl)
  have hb9_ := hall 9 (by kernel_rfl)
  have hb10_ := hall 10 (by kernel_rfl)
  have hb11_ := hall 11 (by kernel_rfl)
  have hb12_ := hall 12 (by kernel_rfl)
  have hb13_ := hall 13 (by kernel_rfl)
  have hb14_ := hall 14 (by kernel_rfl)
  have hb15_ := hall 15 (by kernel_rfl)
  have hb16_ := hall 16 (by kernel_rfl)
  have hb17_ := hall 17 (by kernel_rfl)
  have hb18_ := hall 18 (by kernel_rfl)
  have hb19_ := hall 19 (by kernel_rfl)
  have hb20_ := hall 20 (by kernel_rfl)
  have hb21_ := hall 21 (by kernel_rfl)
  subst ha
  simp only [putSel, hb0_, hb1_, hb2_, hb3_, hb4_, hb5_, hb6_, hb7_, hb8_, hb9_, hb10_, hb11_, hb12_, hb13_, hb14_, hb15_, hb16_, hb17_, hb18_, hb19_, hb20_, hb21_, if_true, Act.put, List.setIfInBounds_toArray, List.set_cons_zero, List.set_cons_succ]
  have HR := Aside0.mk Q_HR
  clear Q_HR
  have HB := Aside0.mk Q_HB
  clear Q_HB
  have X3 := Aside0.mk Q_X3
  clear Q_X3
  have X4 := Aside0.mk Q_X4
  clear Q_X4
  clear hall hb0_ hb1_ hb2_ hb3_ hb4_ hb5_ hb6_ hb7_ hb8_ hb9_ hb10_ hb11_ hb12_ hb13_ hb14_ hb15_ hb16_ hb17_ hb18_ hb19_ hb20_ hb21_
  have c40 := X4.out.c0
  have c41 := X4.out.c1
  have f40 := X4.out.fz 0
  have f41 := X4.out.fz 1
  go_wp2_with fail
  refine bodyPost_ret (res_span _ _ (w.heap.size + 1) 0 0 false rfl rfl (blk_put (blk_put X4.out 0 _ rfl) 1 _ rfl)) rfl ?_
  exact ⟨rfl, below_set' (below_set' HB.out (by omega)) (by omega)⟩
set_option maxHeartbeats 4000000 in
set_option maxRecDepth 100000 in
theorem span_no3 (A0 : Option Addr) (c0 : Nat) (l0 : List Rn) (xa xb : Int) (w : World) (h : RC w A0 l0) (hc : l0.length ≤ c0) (hl : l0.length ≤ 140737488351232) (hg : good l0 = true) (ha : 0 ≤ xa) (hab : xb < xa) :
    Calls Try.prog 35 #[.slice A0 l0.length c0, .agg #[.int .i64 xa, .int .i64 xb]] w (SpanPost ((0, 0), false) w) := by
  have HG := Aside0.mk (good_c A0 c0 l0 hc hl)
  have HI := Aside0.mk (in_c A0 c0 l0 hc hl hg)
  rw [hg] at HG
  have H0 := Aside0.mk h
  have a1 : decide (xa < 0) = false := by simp; omega
  have a2 : decide (xb < xa) = true := by simpa using hab
  clear h hc hl hg
  go_enter Try.func35, Try.ntmps35
  go_wp2_with fail
  obtain ⟨w2, hw2⟩ : ∃ w2, w2 = (w.alloc (.cells #[.int .i64 xa, .int .i64 xb] 42)).alloc (.cells #[.int .i64 0, .int .i64 0] 42) := ⟨_, rfl⟩
  have hb2 : Below w.heap.size w w2 := by rw [hw2]; exact below_alloc (below_alloc (Below.refl _ _) _) _
  have HB := Aside0.mk hb2
  have HR := Aside0.mk (H0.out.below hb2)
  have X3 := Aside0.mk (show Sx w.heap.size xa xb w2 by rw [hw2]; exact (show Sx w.heap.size xa xb (w.alloc _) from Own.heap_new w _).below (below_alloc (Below.refl _ _) _))
  have X4 := Aside0.mk (show Sx (w.heap.size + 1) 0 0 w2 by
    rw [hw2]
    have := Own.heap_new (w.alloc (.cells #[.int .i64 xa, .int .i64 xb] 42)) (.cells #[.int .i64 0, .int .i64 0] 42)
    rwa [World.size_alloc] at this)
  rw [← hw2]
  clear hw2 hb2
  refine start_ (n := 22) (S := fun w' => True) (ds := []) #[false, false, false, false, false, false, false, false, false, false, false, false, false, false, false, false, false, false, false, false, false, false] (by kernel_rfl) rfl rfl trivial (fun hHeld => ?_); refine with_tabW PlaceS.tab1 PlaceS.bits1 (fun HT_ HW_ => ?_)
  refine inv_at [0, 1, 2, 3, 4, 5, 6, 7, 8, 9, 10, 11, 12, 13, 14, 15, 16, 17, 18, 19, 20, 21] (fun a0_ b a w' => a = putSel a0_ b [(0, 12, (.slice A0 l0.length c0)), (1, 13, (.bool true)), (2, 14, (.bool false)), (3, 15, (.bool false)), (4, 16, (.pointer (some ⟨w.heap.size, 0, none⟩))), (5, 17, (.int .i64 xa)), (6, 18, (.bool false)), (7, 19, (.bool false)), (8, 20, (.bool false)), (9, 21, (.pointer (some ⟨w.heap.size, 0, none⟩))), (10, 22, (.int .i64 xa)), (11, 23, (.pointer (some ⟨w.heap.size, 1, none⟩))), (12, 24, (.int .i64 xb)), (13, 25, (.bool true)), (14, 26, (.bool true)), (15, 27, (.bool true)), (16, 28, undef), (17, 29, undef), (18, 30, undef), (19, 31, undef), (20, 32, undef), (21, 33, (.bool true))] ∧ (RC w' A0 l0) ∧ (Below w.heap.size w w') ∧ (Sx w.heap.size xa xb w') ∧ (Sx (w.heap.size + 1) 0 0 w')) HT_.out HW_.out (by kernel_rfl) (by kernel_rfl) ?_ ?_ ?_
  · exact ⟨by simp only [putSel, Bool.false_eq_true, if_false], HR.out.below (below_drew1 (Below.refl _ _)), below_drew1 HB.out, X3.out.below (below_drew1 (Below.refl _ _)), X4.out.below (below_drew1 (Below.refl _ _))⟩
  · skip
    clear HB HR X3 X4
    refine steps_cons ?_ ?_
    · rintro b a w' ⟨ha, Q_HR, Q_HB, Q_X3, Q_X4⟩ hb_ hon hoff
      refine ⟨_, rfl, fun K hK => ?_⟩
      have e0 : a.tmps[0]? = some ((.slice A0 l0.length c0)) := by rw [ha]; exact (putSel_off rfl).trans rfl
      replace ha := Aside0.mk ha
      have HR := Aside0.mk Q_HR
      have HB := Aside0.mk Q_HB
      have X3 := Aside0.mk Q_X3
      have X4 := Aside0.mk Q_X4
      refine value_ (w1 := w') (v := (.slice A0 l0.length c0)) (by rfl) rfl ?_ ?_
      · go_simp
        (try simp only [i64_w])
        try rfl
      refine hK.out _ _ ⟨(by rw [ha.out]; exact putSel_upk 0 hb_ rfl rfl rfl), Q_HR, Q_HB, Q_X3, Q_X4⟩
    refine steps_cons ?_ ?_
    · rintro b a w' ⟨ha, Q_HR, Q_HB, Q_X3, Q_X4⟩ hb_ hon hoff
      refine ⟨_, rfl, fun K hK => ?_⟩
      have e12 : a.tmps[12]? = some ((.slice A0 l0.length c0)) := by rw [ha]; exact putSel_on (e := (0, 12, (.slice A0 l0.length c0))) 0 rfl rfl (hon 0 (by kernel_rfl)) rfl
      replace ha := Aside0.mk ha
      have HR := Aside0.mk Q_HR
      have HB := Aside0.mk Q_HB
      have X3 := Aside0.mk Q_X3
      have X4 := Aside0.mk Q_X4
      refine goes_ Try.func30 (by kernel_rfl) rfl #[.slice A0 l0.length c0] (by rfl) rfl rfl (by first | (simp only [List.map_toArray, List.map_cons, List.map_nil, Act.eval, Array.getD_eq_getD_getElem?, Option.getD_some, e12]; done) | (simp only [List.map_toArray, List.map_cons, List.map_nil, Act.eval, Array.getD_eq_getD_getElem?, Option.getD_some, e12]; rfl)) ?_
      refine (HG.out _ HR.out).mono ?_
      rintro e w1_ ⟨rfl, hb⟩
      refine ⟨_, rfl, ?_⟩
      refine hK.out _ _ ⟨(by rw [ha.out]; exact putSel_upk 1 hb_ rfl rfl rfl), HR.out.below hb, below_step HB.out hb, X3.out.below hb, X4.out.below hb⟩
    refine steps_cons ?_ ?_
    · rintro b a w' ⟨ha, Q_HR, Q_HB, Q_X3, Q_X4⟩ hb_ hon hoff
      refine ⟨_, rfl, fun K hK => ?_⟩
      have e13 : a.tmps[13]? = some ((.bool true)) := by rw [ha]; exact putSel_on (e := (1, 13, (.bool true))) 1 rfl rfl (hon 1 (by kernel_rfl)) rfl
      replace ha := Aside0.mk ha
      have HR := Aside0.mk Q_HR
      have HB := Aside0.mk Q_HB
      have X3 := Aside0.mk Q_X3
      have X4 := Aside0.mk Q_X4
      refine value_ (w1 := w') (v := (.bool false)) (by rfl) rfl ?_ ?_
      · go_simp
        (try simp only [i64_w])
        try rfl
      refine hK.out _ _ ⟨(by rw [ha.out]; exact putSel_upk 2 hb_ rfl rfl rfl), Q_HR, Q_HB, Q_X3, Q_X4⟩
    refine steps_cons ?_ ?_
    · rintro b a w' ⟨ha, Q_HR, Q_HB, Q_X3, Q_X4⟩ hb_ hon hoff
      refine ⟨_, rfl, fun K hK => ?_⟩
      have e14 : a.tmps[14]? = some ((.bool false)) := by rw [ha]; exact putSel_on (e := (2, 14, (.bool false))) 2 rfl rfl (hon 2 (by kernel_rfl)) rfl
      replace ha := Aside0.mk ha
      have HR := Aside0.mk Q_HR
      have HB := Aside0.mk Q_HB
      have X3 := Aside0.mk Q_X3
      have X4 := Aside0.mk Q_X4
      refine value_ (w1 := w') (v := (.bool false)) (by rfl) rfl ?_ ?_
      · go_simp
        (try simp only [i64_w])
        try rfl
      refine hK.out _ _ ⟨(by rw [ha.out]; exact putSel_upk 3 hb_ rfl rfl rfl), Q_HR, Q_HB, Q_X3, Q_X4⟩
    refine steps_cons ?_ ?_
    · rintro b a w' ⟨ha, Q_HR, Q_HB, Q_X3, Q_X4⟩ hb_ hon hoff
      refine ⟨_, rfl, fun K hK => ?_⟩
      have e3 : a.tmps[3]? = some ((.pointer (some ⟨w.heap.size, 0, none⟩))) := by rw [ha]; exact (putSel_off rfl).trans rfl
      have e15 : a.tmps[15]? = some ((.bool false)) := by rw [ha]; exact putSel_on (e := (3, 15, (.bool false))) 3 rfl rfl (hon 3 (by kernel_rfl)) rfl
      replace ha := Aside0.mk ha
      have HR := Aside0.mk Q_HR
      have HB := Aside0.mk Q_HB
      have X3 := Aside0.mk Q_X3
      have X4 := Aside0.mk Q_X4
      refine value_ (w1 := w') (v := (.pointer (some ⟨w.heap.size, 0, none⟩))) (wanted_on rfl rfl rfl (e15.trans (by first | rfl | (simp [*]; done)))) rfl ?_ ?_
      · go_simp
        (try simp only [i64_w])
        try rfl
      refine hK.out _ _ ⟨(by rw [ha.out]; exact putSel_upk 4 hb_ rfl rfl rfl), Q_HR, Q_HB, Q_X3, Q_X4⟩
    refine steps_cons ?_ ?_
    · rintro b a w' ⟨ha, Q_HR, Q_HB, Q_X3, Q_X4⟩ hb_ hon hoff
      refine ⟨_, rfl, fun K hK => ?_⟩
      have e16 : a.tmps[16]? = some ((.pointer (some ⟨w.heap.size, 0, none⟩))) := by rw [ha]; exact putSel_on (e := (4, 16, (.pointer (some ⟨w.heap.size, 0, none⟩)))) 4 rfl rfl (hon 4 (by kernel_rfl)) rfl
      have e15 : a.tmps[15]? = some ((.bool false)) := by rw [ha]; exact putSel_on (e := (3, 15, (.bool false))) 3 rfl rfl (hon 3 (by kernel_rfl)) rfl
      replace ha := Aside0.mk ha
      have HR := Aside0.mk Q_HR
      have HB := Aside0.mk Q_HB
      have X3 := Aside0.mk Q_X3
      have X4 := Aside0.mk Q_X4
      have hc_ := X3.out.c0
      refine value_ (w1 := w') (v := (.int .i64 xa)) (wanted_on rfl rfl rfl (e15.trans (by first | rfl | (simp [*]; done)))) rfl ?_ ?_
      · go_simp
        (try simp only [i64_w])
        try rfl
      refine hK.out _ _ ⟨(by rw [ha.out]; exact putSel_upk 5 hb_ rfl rfl rfl), Q_HR, Q_HB, Q_X3, Q_X4⟩
    refine steps_cons ?_ ?_
    · rintro b a w' ⟨ha, Q_HR, Q_HB, Q_X3, Q_X4⟩ hb_ hon hoff
      refine ⟨_, rfl, fun K hK => ?_⟩
      have e17 : a.tmps[17]? = some ((.int .i64 xa)) := by rw [ha]; exact putSel_on (e := (5, 17, (.int .i64 xa))) 5 rfl rfl (hon 5 (by kernel_rfl)) rfl
      have e15 : a.tmps[15]? = some ((.bool false)) := by rw [ha]; exact putSel_on (e := (3, 15, (.bool false))) 3 rfl rfl (hon 3 (by kernel_rfl)) rfl
      replace ha := Aside0.mk ha
      have HR := Aside0.mk Q_HR
      have HB := Aside0.mk Q_HB
      have X3 := Aside0.mk Q_X3
      have X4 := Aside0.mk Q_X4
      refine value_ (w1 := w') (v := (.bool false)) (wanted_on rfl rfl rfl (e15.trans (by first | rfl | (simp [*]; done)))) rfl ?_ ?_
      · go_simp
        (try simp only [i64_w])
        try rfl
      refine hK.out _ _ ⟨(by rw [ha.out]; exact putSel_upk 6 hb_ rfl rfl rfl), Q_HR, Q_HB, Q_X3, Q_X4⟩
    refine steps_cons ?_ ?_
    · rintro b a w' ⟨ha, Q_HR, Q_HB, Q_X3, Q_X4⟩ hb_ hon hoff
      refine ⟨_, rfl, fun K hK => ?_⟩
      have e15 : a.tmps[15]? = some ((.bool false)) := by rw [ha]; exact putSel_on (e := (3, 15, (.bool false))) 3 rfl rfl (hon 3 (by kernel_rfl)) rfl
      have e18 : a.tmps[18]? = some ((.bool false)) := by rw [ha]; exact putSel_on (e := (6, 18, (.bool false))) 6 rfl rfl (hon 6 (by kernel_rfl)) rfl
      replace ha := Aside0.mk ha
      have HR := Aside0.mk Q_HR
      have HB := Aside0.mk Q_HB
      have X3 := Aside0.mk Q_X3
      have X4 := Aside0.mk Q_X4
      refine value_ (w1 := w') (v := (.bool false)) (by rfl) rfl ?_ ?_
      · go_simp
        (try simp only [i64_w])
        try rfl
      refine hK.out _ _ ⟨(by rw [ha.out]; exact putSel_upk 7 hb_ rfl rfl rfl), Q_HR, Q_HB, Q_X3, Q_X4⟩
    refine steps_cons ?_ ?_
    · rintro b a w' ⟨ha, Q_HR, Q_HB, Q_X3, Q_X4⟩ hb_ hon hoff
      refine ⟨_, rfl, fun K hK => ?_⟩
      have e19 : a.tmps[19]? = some ((.bool false)) := by rw [ha]; exact putSel_on (e := (7, 19, (.bool false))) 7 rfl rfl (hon 7 (by kernel_rfl)) rfl
      replace ha := Aside0.mk ha
      have HR := Aside0.mk Q_HR
      have HB := Aside0.mk Q_HB
      have X3 := Aside0.mk Q_X3
      have X4 := Aside0.mk Q_X4
      refine value_ (w1 := w') (v := (.bool false)) (by rfl) rfl ?_ ?_
      · go_simp
        (try simp only [i64_w])
        try rfl
      refine hK.out _ _ ⟨(by rw [ha.out]; exact putSel_upk 8 hb_ rfl rfl rfl), Q_HR, Q_HB, Q_X3, Q_X4⟩
    refine steps_cons ?_ ?_
    · rintro b a w' ⟨ha, Q_HR, Q_HB, Q_X3, Q_X4⟩ hb_ hon hoff
      refine ⟨_, rfl, fun K hK => ?_⟩
      have e3 : a.tmps[3]? = some ((.pointer (some ⟨w.heap.size, 0, none⟩))) := by rw [ha]; exact (putSel_off rfl).trans rfl
      have e20 : a.tmps[20]? = some ((.bool false)) := by rw [ha]; exact putSel_on (e := (8, 20, (.bool false))) 8 rfl rfl (hon 8 (by kernel_rfl)) rfl
      replace ha := Aside0.mk ha
      have HR := Aside0.mk Q_HR
      have HB := Aside0.mk Q_HB
      have X3 := Aside0.mk Q_X3
      have X4 := Aside0.mk Q_X4
      refine value_ (w1 := w') (v := (.pointer (some ⟨w.heap.size, 0, none⟩))) (wanted_on rfl rfl rfl (e20.trans (by first | rfl | (simp [*]; done)))) rfl ?_ ?_
      · go_simp
        (try simp only [i64_w])
        try rfl
      refine hK.out _ _ ⟨(by rw [ha.out]; exact putSel_upk 9 hb_ rfl rfl rfl), Q_HR, Q_HB, Q_X3, Q_X4⟩
    refine steps_cons ?_ ?_
    · rintro b a w' ⟨ha, Q_HR, Q_HB, Q_X3, Q_X4⟩ hb_ hon hoff
      refine ⟨_, rfl, fun K hK => ?_⟩
      have e21 : a.tmps[21]? = some ((.pointer (some ⟨w.heap.size, 0, none⟩))) := by rw [ha]; exact putSel_on (e := (9, 21, (.pointer (some ⟨w.heap.size, 0, none⟩)))) 9 rfl rfl (hon 9 (by kernel_rfl)) rfl
      have e20 : a.tmps[20]? = some ((.bool false)) := by rw [ha]; exact putSel_on (e := (8, 20, (.bool false))) 8 rfl rfl (hon 8 (by kernel_rfl)) rfl
      replace ha := Aside0.mk ha
      have HR := Aside0.mk Q_HR
      have HB := Aside0.mk Q_HB
      have X3 := Aside0.mk Q_X3
      have X4 := Aside0.mk Q_X4
      have hc_ := X3.out.c0
      refine value_ (w1 := w') (v := (.int .i64 xa)) (wanted_on rfl rfl rfl (e20.trans (by first | rfl | (simp [*]; done)))) rfl ?_ ?_
      · go_simp
        (try simp only [i64_w])
        try rfl
      refine hK.out _ _ ⟨(by rw [ha.out]; exact putSel_upk 10 hb_ rfl rfl rfl), Q_HR, Q_HB, Q_X3, Q_X4⟩
    refine steps_cons ?_ ?_
    · rintro b a w' ⟨ha, Q_HR, Q_HB, Q_X3, Q_X4⟩ hb_ hon hoff
      refine ⟨_, rfl, fun K hK => ?_⟩
      have e3 : a.tmps[3]? = some ((.pointer (some ⟨w.heap.size, 0, none⟩))) := by rw [ha]; exact (putSel_off rfl).trans rfl
      have e20 : a.tmps[20]? = some ((.bool false)) := by rw [ha]; exact putSel_on (e := (8, 20, (.bool false))) 8 rfl rfl (hon 8 (by kernel_rfl)) rfl
      replace ha := Aside0.mk ha
      have HR := Aside0.mk Q_HR
      have HB := Aside0.mk Q_HB
      have X3 := Aside0.mk Q_X3
      have X4 := Aside0.mk Q_X4
      refine value_ (w1 := w') (v := (.pointer (some ⟨w.heap.size, 1, none⟩))) (wanted_on rfl rfl rfl (e20.trans (by first | rfl | (simp [*]; done)))) rfl ?_ ?_
      · go_simp
        (try simp only [i64_w])
        try rfl
      refine hK.out _ _ ⟨(by rw [ha.out]; exact putSel_upk 11 hb_ rfl rfl rfl), Q_HR, Q_HB, Q_X3, Q_X4⟩
    refine steps_cons ?_ ?_
    · rintro b a w' ⟨ha, Q_HR, Q_HB, Q_X3, Q_X4⟩ hb_ hon hoff
      refine ⟨_, rfl, fun K hK => ?_⟩
      have e23 : a.tmps[23]? = some ((.pointer (some ⟨w.heap.size, 1, none⟩))) := by rw [ha]; exact putSel_on (e := (11, 23, (.pointer (some ⟨w.heap.size, 1, none⟩)))) 11 rfl rfl (hon 11 (by kernel_rfl)) rfl
      have e20 : a.tmps[20]? = some ((.bool false)) := by rw [ha]; exact putSel_on (e := (8, 20, (.bool false))) 8 rfl rfl (hon 8 (by kernel_rfl)) rfl
      replace ha := Aside0.mk ha
      have HR := Aside0.mk Q_HR
      have HB := Aside0.mk Q_HB
      have X3 := Aside0.mk Q_X3
      have X4 := Aside0.mk Q_X4
      have hc_ := X3.out.c1
      refine value_ (w1 := w') (v := (.int .i64 xb)) (wanted_on rfl rfl rfl (e20.trans (by first | rfl | (simp [*]; done)))) rfl ?_ ?_
      · go_simp
        (try simp only [i64_w])
        try rfl
      refine hK.out _ _ ⟨(by rw [ha.out]; exact putSel_upk 12 hb_ rfl rfl rfl), Q_HR, Q_HB, Q_X3, Q_X4⟩
    refine steps_cons ?_ ?_
    · rintro b a w' ⟨ha, Q_HR, Q_HB, Q_X3, Q_X4⟩ hb_ hon hoff
      refine ⟨_, rfl, fun K hK => ?_⟩
      have e22 : a.tmps[22]? = some ((.int .i64 xa)) := by rw [ha]; exact putSel_on (e := (10, 22, (.int .i64 xa))) 10 rfl rfl (hon 10 (by kernel_rfl)) rfl
      have e24 : a.tmps[24]? = some ((.int .i64 xb)) := by rw [ha]; exact putSel_on (e := (12, 24, (.int .i64 xb))) 12 rfl rfl (hon 12 (by kernel_rfl)) rfl
      have e20 : a.tmps[20]? = some ((.bool false)) := by rw [ha]; exact putSel_on (e := (8, 20, (.bool false))) 8 rfl rfl (hon 8 (by kernel_rfl)) rfl
      replace ha := Aside0.mk ha
      have HR := Aside0.mk Q_HR
      have HB := Aside0.mk Q_HB
      have X3 := Aside0.mk Q_X3
      have X4 := Aside0.mk Q_X4
      refine value_ (w1 := w') (v := (.bool true)) (wanted_on rfl rfl rfl (e20.trans (by first | rfl | (simp [*]; done)))) rfl ?_ ?_
      · go_simp
        (try simp only [i64_w])
        try rfl
      refine hK.out _ _ ⟨(by rw [ha.out]; exact putSel_upk 13 hb_ rfl rfl rfl), Q_HR, Q_HB, Q_X3, Q_X4⟩
    refine steps_cons ?_ ?_
    · rintro b a w' ⟨ha, Q_HR, Q_HB, Q_X3, Q_X4⟩ hb_ hon hoff
      refine ⟨_, rfl, fun K hK => ?_⟩
      have e20 : a.tmps[20]? = some ((.bool false)) := by rw [ha]; exact putSel_on (e := (8, 20, (.bool false))) 8 rfl rfl (hon 8 (by kernel_rfl)) rfl
      have e25 : a.tmps[25]? = some ((.bool true)) := by rw [ha]; exact putSel_on (e := (13, 25, (.bool true))) 13 rfl rfl (hon 13 (by kernel_rfl)) rfl
      replace ha := Aside0.mk ha
      have HR := Aside0.mk Q_HR
      have HB := Aside0.mk Q_HB
      have X3 := Aside0.mk Q_X3
      have X4 := Aside0.mk Q_X4
      refine value_ (w1 := w') (v := (.bool true)) (by rfl) rfl ?_ ?_
      · go_simp
        (try simp only [i64_w])
        try rfl
      refine hK.out _ _ ⟨(by rw [ha.out]; exact putSel_upk 14 hb_ rfl rfl rfl), Q_HR, Q_HB, Q_X3, Q_X4⟩
    refine steps_cons ?_ ?_
    · rintro b a w' ⟨ha, Q_HR, Q_HB, Q_X3, Q_X4⟩ hb_ hon hoff
      refine ⟨_, rfl, fun K hK => ?_⟩
      have e26 : a.tmps[26]? = some ((.bool true)) := by rw [ha]; exact putSel_on (e := (14, 26, (.bool true))) 14 rfl rfl (hon 14 (by kernel_rfl)) rfl
      replace ha := Aside0.mk ha
      have HR := Aside0.mk Q_HR
      have HB := Aside0.mk Q_HB
      have X3 := Aside0.mk Q_X3
      have X4 := Aside0.mk Q_X4
      refine value_ (w1 := w') (v := (.bool true)) (by rfl) rfl ?_ ?_
      · go_simp
        (try simp only [i64_w])
        try rfl
      refine hK.out _ _ ⟨(by rw [ha.out]; exact putSel_upk 15 hb_ rfl rfl rfl), Q_HR, Q_HB, Q_X3, Q_X4⟩
    refine steps_cons ?_ ?_
    · rintro b a w' ⟨ha, Q_HR, Q_HB, Q_X3, Q_X4⟩ hb_ hon hoff
      refine ⟨_, rfl, fun K hK => ?_⟩
      have e27 : a.tmps[27]? = some ((.bool true)) := by rw [ha]; exact putSel_on (e := (15, 27, (.bool true))) 15 rfl rfl (hon 15 (by kernel_rfl)) rfl
      replace ha := Aside0.mk ha
      have HR := Aside0.mk Q_HR
      have HB := Aside0.mk Q_HB
      have X3 := Aside0.mk Q_X3
      have X4 := Aside0.mk Q_X4
      refine off_ (wanted_off rfl rfl rfl (e27.trans (by first | rfl | (simp [*]; done)))) ?_
      refine hK.out _ _ ⟨(by rw [ha.out]; exact putSel_upk 16 hb_ rfl rfl rfl), Q_HR, Q_HB, Q_X3, Q_X4⟩
    refine steps_cons ?_ ?_
    · rintro b a w' ⟨ha, Q_HR, Q_HB, Q_X3, Q_X4⟩ hb_ hon hoff
      refine ⟨_, rfl, fun K hK => ?_⟩
      have e27 : a.tmps[27]? = some ((.bool true)) := by rw [ha]; exact putSel_on (e := (15, 27, (.bool true))) 15 rfl rfl (hon 15 (by kernel_rfl)) rfl
      replace ha := Aside0.mk ha
      have HR := Aside0.mk Q_HR
      have HB := Aside0.mk Q_HB
      have X3 := Aside0.mk Q_X3
      have X4 := Aside0.mk Q_X4
      refine off_ (wanted_off rfl rfl rfl (e27.trans (by first | rfl | (simp [*]; done)))) ?_
      refine hK.out _ _ ⟨(by rw [ha.out]; exact putSel_upk 17 hb_ rfl rfl rfl), Q_HR, Q_HB, Q_X3, Q_X4⟩
    refine steps_cons ?_ ?_
    · rintro b a w' ⟨ha, Q_HR, Q_HB, Q_X3, Q_X4⟩ hb_ hon hoff
      refine ⟨_, rfl, fun K hK => ?_⟩
      have e27 : a.tmps[27]? = some ((.bool true)) := by rw [ha]; exact putSel_on (e := (15, 27, (.bool true))) 15 rfl rfl (hon 15 (by kernel_rfl)) rfl
      replace ha := Aside0.mk ha
      have HR := Aside0.mk Q_HR
      have HB := Aside0.mk Q_HB
      have X3 := Aside0.mk Q_X3
      have X4 := Aside0.mk Q_X4
      refine off_ (wanted_off rfl rfl rfl (e27.trans (by first | rfl | (simp [*]; done)))) ?_
      refine hK.out _ _ ⟨(by rw [ha.out]; exact putSel_upk 18 hb_ rfl rfl rfl), Q_HR, Q_HB, Q_X3, Q_X4⟩
    refine steps_cons ?_ ?_
    · rintro b a w' ⟨ha, Q_HR, Q_HB, Q_X3, Q_X4⟩ hb_ hon hoff
      refine ⟨_, rfl, fun K hK => ?_⟩
      have e27 : a.tmps[27]? = some ((.bool true)) := by rw [ha]; exact putSel_on (e := (15, 27, (.bool true))) 15 rfl rfl (hon 15 (by kernel_rfl)) rfl
      replace ha := Aside0.mk ha
      have HR := Aside0.mk Q_HR
      have HB := Aside0.mk Q_HB
      have X3 := Aside0.mk Q_X3
      have X4 := Aside0.mk Q_X4
      refine off_ (wanted_off rfl rfl rfl (e27.trans (by first | rfl | (simp [*]; done)))) ?_
      refine hK.out _ _ ⟨(by rw [ha.out]; exact putSel_upk 19 hb_ rfl rfl rfl), Q_HR, Q_HB, Q_X3, Q_X4⟩
    refine steps_cons ?_ ?_
    · rintro b a w' ⟨ha, Q_HR, Q_HB, Q_X3, Q_X4⟩ hb_ hon hoff
      refine ⟨_, rfl, fun K hK => ?_⟩
      have e27 : a.tmps[27]? = some ((.bool true)) := by rw [ha]; exact putSel_on (e := (15, 27, (.bool true))) 15 rfl rfl (hon 15 (by kernel_rfl)) rfl
      replace ha := Aside0.mk ha
      have HR := Aside0.mk Q_HR
      have HB := Aside0.mk Q_HB
      have X3 := Aside0.mk Q_X3
      have X4 := Aside0.mk Q_X4
      refine off_ (wanted_off rfl rfl rfl (e27.trans (by first | rfl | (simp [*]; done)))) ?_
      refine hK.out _ _ ⟨(by rw [ha.out]; exact putSel_upk 20 hb_ rfl rfl rfl), Q_HR, Q_HB, Q_X3, Q_X4⟩
    refine steps_cons ?_ ?_
    · rintro b a w' ⟨ha, Q_HR, Q_HB, Q_X3, Q_X4⟩ hb_ hon hoff
      refine ⟨_, rfl, fun K hK => ?_⟩
      have e27 : a.tmps[27]? = some ((.bool true)) := by rw [ha]; exact putSel_on (e := (15, 27, (.bool true))) 15 rfl rfl (hon 15 (by kernel_rfl)) rfl
      have e32 : a.tmps[32]? = some (undef) := by rw [ha]; exact putSel_on (e := (20, 32, undef)) 20 rfl rfl (hon 20 (by kernel_rfl)) rfl
      replace ha := Aside0.mk ha
      have HR := Aside0.mk Q_HR
      have HB := Aside0.mk Q_HB
      have X3 := Aside0.mk Q_X3
      have X4 := Aside0.mk Q_X4
      refine value_ (w1 := w') (v := (.bool true)) (by rfl) rfl ?_ ?_
      · go_simp
        (try simp only [i64_w])
        try rfl
      refine hK.out _ _ ⟨(by rw [ha.out]; exact putSel_upk 21 hb_ rfl rfl rfl), Q_HR, Q_HB, Q_X3, Q_X4⟩
    exact steps_nil
  rintro b a we hall ⟨ha, Q_HR, Q_HB, Q_X3, Q_X4⟩
  clear HB HR X3 X4
  have hb0_ := hall 0 (by kernel_rfl)
  have hb1_ := hall 1 (by kernel_rfl)
  have hb2_ := hall 2 (by kernel_rfl)
  have hb3_ := hall 3 (by kernel_rfl)
  have hb4_ := hall 4 (by kernel_rfl)
  have hb5_ := hall 5 (by kernel_rfl)
  have hb6_ := hall 6 (by kernel_rfl)
  have hb7_ := hall 7 (by kernel_rfl)
  have hb8_ := hall 8 (by kernel_rfl)
  have hb9_ := hall 9 (by kernel_rfl)
  have hb10_ := hall 10 (by kernel_rfl)
  have hb11_ := hall 11 (by kernel_rfl)
  have hb12_ := hall 12 (by kernel_rfl)
  have hb13_ := hall 13 (by kernel_rfl)
  have hb14_ := hall 14 (by kernel_rfl)
  have hb15_ := hall 15 (by kernel_rfl)
  have hb16_ := hall 16 (by kernel_rfl)
  have hb17_ := hall 17 (by kernel_rfl)
  have hb18_ := hall 18 (by kernel_rfl)
  have hb19_ := hall 19 (by kernel_rfl)
  have hb20_ := hall 20 (by kernel_rfl)
  have hb21_ := hall 21 (by kernel_rfl)
  subst ha
  simp only [putSel, hb0_, hb1_, hb2_, hb3_, hb4_, hb5_, hb6_, hb7_, hb8_, hb9_, hb10_, hb11_, hb12_, hb13_, hb14_, hb15_, hb16_, hb17_, hb18_, hb19_, hb20_, hb21_, if_true, Act.put, List.setIfInBounds_toArray, List.set_cons_zero, List.set_cons_succ]
  have HR := Aside0.mk Q_HR
  clear Q_HR
  have HB := Aside0.mk Q_HB
  clear Q_HB
  have X3 := Aside0.mk Q_X3
  clear Q_X3
  have X4 := Aside0.mk Q_X4
  clear Q_X4
  clear hall hb0_ hb1_ hb2_ hb3_ hb4_ hb5_ hb6_ hb7_ hb8_ hb9_ hb10_ hb11_ hb12_ hb13_ hb14_ hb15_ hb16_ hb17_ hb18_ hb19_ hb20_ hb21_
  have c40 := X4.out.c0
  have c41 := X4.out.c1
  have f40 := X4.out.fz 0
  have f41 := X4.out.fz 1
  go_wp2_with fail
  refine bodyPost_ret (res_span _ _ (w.heap.size + 1) 0 0 false rfl rfl (blk_put (blk_put X4.out 0 _ rfl) 1 _ rfl)) rfl ?_
  exact ⟨rfl, below_set' (below_set' HB.out (by omega)) (by omega)⟩
set_option maxHeartbeats 4000000 in
set_option maxRecDepth 100000 in
theorem span_no4 (A0 : Option Addr) (c0 : Nat) (l0 : List Rn) (xa xb : Int) (w : World) (h : RC w A0 l0) (hc : l0.length ≤ c0) (hl : l0.length ≤ 140737488351232) (hg : good l0 = true) (ha : 0 ≤ xa) (hab : xa ≤ xb) (hi_ : inL l0 < xb) :
    Calls Try.prog 35 #[.slice A0 l0.length c0, .agg #[.int .i64 xa, .int .i64 xb]] w (SpanPost ((0, 0), false) w) := by
  have HG := Aside0.mk (good_c A0 c0 l0 hc hl)
  have HI := Aside0.mk (in_c A0 c0 l0 hc hl hg)
  rw [hg] at HG
  have H0 := Aside0.mk h
  have a1 : decide (xa < 0) = false := by simp; omega
  have a2 : decide (xb < xa) = false := by simp; omega
  have a3 : decide (inL l0 < xb) = true := by simpa using hi_
  clear h hc hl hg
  go_enter Try.func35, Try.ntmps35
  go_wp2_with fail
  obtain ⟨w2, hw2⟩ : ∃ w2, w2 = (w.alloc (.cells #[.int .i64 xa, .int .i64 xb] 42)).alloc (.cells #[.int .i64 0, .int .i64 0] 42) := ⟨_, rfl⟩
  have hb2 : Below w.heap.size w w2 := by rw [hw2]; exact below_alloc (below_alloc (Below.refl _ _) _) _
  have HB := Aside0.mk hb2
  have HR := Aside0.mk (H0.out.below hb2)
  have X3 := Aside0.mk (show Sx w.heap.size xa xb w2 by rw [hw2]; exact (show Sx w.heap.size xa xb (w.alloc _) from Own.heap_new w _).below (below_alloc (Below.refl _ _) _))
  have X4 := Aside0.mk (show Sx (w.heap.size + 1) 0 0 w2 by
    rw [hw2]
    have := Own.heap_new (w.alloc (.cells #[.int .i64 xa, .int .i64 xb] 42)) (.cells #[.int .i64 0, .int .i64 0] 42)
    rwa [World.size_alloc] at this)
  rw [← hw2]
  clear hw2 hb2
  refine start_ (n := 22) (S := fun w' => True) (ds := []) #[false, false, false, false, false, false, false, false, false, false, false, false, false, false, false, false, false, false, false, false, false, false] (by kernel_rfl) rfl rfl trivial (fun hHeld => ?_); refine with_tabW PlaceS.tab1 PlaceS.bits1 (fun HT_ HW_ => ?_)
  refine inv_at [0, 1, 2, 3, 4, 5, 6, 7, 8, 9, 10, 11, 12, 13, 14, 15, 16, 17, 18, 19, 20, 21] (fun a0_ b a w' => a = putSel a0_ b [(0, 12, (.slice A0 l0.length c0)), (1, 13, (.bool true)), (2, 14, (.bool false)), (3, 15, (.bool false)), (4, 16, (.pointer (some ⟨w.heap.size, 0, none⟩))), (5, 17, (.int .i64 xa)), (6, 18, (.bool false)), (7, 19, (.bool false)), (8, 20, (.bool false)), (9, 21, (.pointer (some ⟨w.heap.size, 0, none⟩))), (10, 22, (.int .i64 xa)), (11, 23, (.pointer (some ⟨w.heap.size, 1, none⟩))), (12, 24, (.int .i64 xb)), (13, 25, (.bool false)), (14, 26, (.bool false)), (15, 27, (.bool false)), (16, 28, (.pointer (some ⟨w.heap.size, 1, none⟩))), (17, 29, (.int .i64 xb)), (18, 30, (.slice A0 l0.length c0)), (19, 31, (.int .i64 (inL l0))), (20, 32, (.bool true)), (21, 33, (.bool true))] ∧ (RC w' A0 l0) ∧ (Below w.heap.size w w') ∧ (Sx w.heap.size xa xb w') ∧ (Sx (w.heap.size + 1) 0 0 w')) HT_.out HW_.out (by kernel_rfl) (by kernel_rfl) ?_ ?_ ?_
  · exact ⟨by simp only [putSel, Bool.false_eq_true, if_false], HR.out.below (below_drew1 (Below.refl _ _)), below_drew1 HB.out, X3.out.below (below_drew1 (Below.refl _ _)), X4.out.below (below_drew1 (Below.refl _ _))⟩
  · skip
    clear HB HR X3 X4
    refine steps_cons ?_ ?_
    · rintro b a w' ⟨ha, Q_HR, Q_HB, Q_X3, Q_X4⟩ hb_ hon hoff
      refine ⟨_, rfl, fun K hK => ?_⟩
      have e0 : a.tmps[0]? = some ((.slice A0 l0.length c0)) := by rw [ha]; exact (putSel_off rfl).trans rfl
      replace ha := Aside0.mk ha
      have HR := Aside0.mk Q_HR
      have HB := Aside0.mk Q_HB
      have X3 := Aside0.mk Q_X3
      have X4 := Aside0.mk Q_X4
      refine value_ (w1 := w') (v := (.slice A0 l0.length c0)) (by rfl) rfl ?_ ?_
      · go_simp
        (try simp only [i64_w])
        try rfl
      refine hK.out _ _ ⟨(by rw [ha.out]; exact putSel_upk 0 hb_ rfl rfl rfl), Q_HR, Q_HB, Q_X3, Q_X4⟩
    refine steps_cons ?_ ?_
    · rintro b a w' ⟨ha, Q_HR, Q_HB, Q_X3, Q_X4⟩ hb_ hon hoff
      refine ⟨_, rfl, fun K hK => ?_⟩
      have e12 : a.tmps[12]? = some ((.slice A0 l0.length c0)) := by rw [ha]; exact putSel_on (e := (0, 12, (.slice A0 l0.length c0))) 0 rfl rfl (hon 0 (by kernel_rfl)) rfl
      replace ha := Aside0.mk ha
      have HR := Aside0.mk Q_HR
      have HB := Aside0.mk Q_HB
      have X3 := Aside0.mk Q_X3
      have X4 := Aside0.mk Q_X4
      refine goes_ Try.func30 (by kernel_rfl) rfl #[.slice A0 l0.length c0] (by rfl) rfl rfl (by first | (simp only [List.map_toArray, List.map_cons, List.map_nil, Act.eval, Array.getD_eq_getD_getElem?, Option.getD_some, e12]; done) | (simp only [List.map_toArray, List.map_cons, List.map_nil, Act.eval, Array.getD_eq_getD_getElem?, Option.getD_some, e12]; rfl)) ?_
      refine (HG.out _ HR.out).mono ?_
      rintro e w1_ ⟨rfl, hb⟩
      refine ⟨_, rfl, ?_⟩
      refine hK.out _ _ ⟨(by rw [ha.out]; exact putSel_upk 1 hb_ rfl rfl rfl), HR.out.below hb, below_step HB.out hb, X3.out.below hb, X4.out.below hb⟩
    refine steps_cons ?_ ?_
    · rintro b a w' ⟨ha, Q_HR, Q_HB, Q_X3, Q_X4⟩ hb_ hon hoff
      refine ⟨_, rfl, fun K hK => ?_⟩
      have e13 : a.tmps[13]? = some ((.bool true)) := by rw [ha]; exact putSel_on (e := (1, 13, (.bool true))) 1 rfl rfl (hon 1 (by kernel_rfl)) rfl
      replace ha := Aside0.mk ha
      have HR := Aside0.mk Q_HR
      have HB := Aside0.mk Q_HB
      have X3 := Aside0.mk Q_X3
      have X4 := Aside0.mk Q_X4
      refine value_ (w1 := w') (v := (.bool false)) (by rfl) rfl ?_ ?_
      · go_simp
        (try simp only [i64_w])
        try rfl
      refine hK.out _ _ ⟨(by rw [ha.out]; exact putSel_upk 2 hb_ rfl rfl rfl), Q_HR, Q_HB, Q_X3, Q_X4⟩
    refine steps_cons ?_ ?_
    · rintro b a w' ⟨ha, Q_HR, Q_HB, Q_X3, Q_X4⟩ hb_ hon hoff
      refine ⟨_, rfl, fun K hK => ?_⟩
      have e14 : a.tmps[14]? = some ((.bool false)) := by rw [ha]; exact putSel_on (e := (2, 14, (.bool false))) 2 rfl rfl (hon 2 (by kernel_rfl)) rfl
      replace ha := Aside0.mk ha
      have HR := Aside0.mk Q_HR
      have HB := Aside0.mk Q_HB
      have X3 := Aside0.mk Q_X3
      have X4 := Aside0.mk Q_X4
      refine value_ (w1 := w') (v := (.bool false)) (by rfl) rfl ?_ ?_
      · go_simp
        (try simp only [i64_w])
        try rfl
      refine hK.out _ _ ⟨(by rw [ha.out]; exact putSel_upk 3 hb_ rfl rfl rfl), Q_HR, Q_HB, Q_X3, Q_X4⟩
    refine steps_cons ?_ ?_
    · rintro b a w' ⟨ha, Q_HR, Q_HB, Q_X3, Q_X4⟩ hb_ hon hoff
      refine ⟨_, rfl, fun K hK => ?_⟩
      have e3 : a.tmps[3]? = some ((.pointer (some ⟨w.heap.size, 0, none⟩))) := by rw [ha]; exact (putSel_off rfl).trans rfl
      have e15 : a.tmps[15]? = some ((.bool false)) := by rw [ha]; exact putSel_on (e := (3, 15, (.bool false))) 3 rfl rfl (hon 3 (by kernel_rfl)) rfl
      replace ha := Aside0.mk ha
      have HR := Aside0.mk Q_HR
      have HB := Aside0.mk Q_HB
      have X3 := Aside0.mk Q_X3
      have X4 := Aside0.mk Q_X4
      refine value_ (w1 := w') (v := (.pointer (some ⟨w.heap.size, 0, none⟩))) (wanted_on rfl rfl rfl (e15.trans (by first | rfl | (simp [*]; done)))) rfl ?_ ?_
      · go_simp
        (try simp only [i64_w])
        try rfl
      refine hK.out _ _ ⟨(by rw [ha.out]; exact putSel_upk 4 hb_ rfl rfl rfl), Q_HR, Q_HB, Q_X3, Q_X4⟩
    refine steps_cons ?_ ?_
    · rintro b a w' ⟨ha, Q_HR, Q_HB, Q_X3, Q_X4⟩ hb_ hon hoff
      refine ⟨_, rfl, fun K hK => ?_⟩
      have e16 : a.tmps[16]? = some ((.pointer (some ⟨w.heap.size, 0, none⟩))) := by rw [ha]; exact putSel_on (e := (4, 16, (.pointer (some ⟨w.heap.size, 0, none⟩)))) 4 rfl rfl (hon 4 (by kernel_rfl)) rfl
      have e15 : a.tmps[15]? = some ((.bool false)) := by rw [ha]; exact putSel_on (e := (3, 15, (.bool false))) 3 rfl rfl (hon 3 (by kernel_rfl)) rfl
      replace ha := Aside0.mk ha
      have HR := Aside0.mk Q_HR
      have HB := Aside0.mk Q_HB
      have X3 := Aside0.mk Q_X3
      have X4 := Aside0.mk Q_X4
      have hc_ := X3.out.c0
      refine value_ (w1 := w') (v := (.int .i64 xa)) (wanted_on rfl rfl rfl (e15.trans (by first | rfl | (simp [*]; done)))) rfl ?_ ?_
      · go_simp
        (try simp only [i64_w])
        try rfl
      refine hK.out _ _ ⟨(by rw [ha.out]; exact putSel_upk 5 hb_ rfl rfl rfl), Q_HR, Q_HB, Q_X3, Q_X4⟩
    refine steps_cons ?_ ?_
    · rintro b a w' ⟨ha, Q_HR, Q_HB, Q_X3, Q_X4⟩ hb_ hon hoff
      refine ⟨_, rfl, fun K hK => ?_⟩
      have e17 : a.tmps[17]? = some ((.int .i64 xa)) := by rw [ha]; exact putSel_on (e := (5, 17, (.int .i64 xa))) 5 rfl rfl (hon 5 (by kernel_rfl)) rfl
      have e15 : a.tmps[15]? = some ((.bool false)) := by rw [ha]; exact putSel_on (e := (3, 15, (.bool false))) 3 rfl rfl (hon 3 (by kernel_rfl)) rfl
      replace ha := Aside0.mk ha
      have HR := Aside0.mk Q_HR
      have HB := Aside0.mk Q_HB
      have X3 := Aside0.mk Q_X3
      have X4 := Aside0.mk Q_X4
      refine value_ (w1 := w') (v := (.bool false)) (wanted_on rfl rfl rfl (e15.trans (by first | rfl | (simp [*]; done)))) rfl ?_ ?_
      · go_simp
        (try simp only [i64_w])
        try rfl
      refine hK.out _ _ ⟨(by rw [ha.out]; exact putSel_upk 6 hb_ rfl rfl rfl), Q_HR, Q_HB, Q_X3, Q_X4⟩
    refine steps_cons ?_ ?_
    · rintro b a w' ⟨ha, Q_HR, Q_HB, Q_X3, Q_X4⟩ hb_ hon hoff
      refine ⟨_, rfl, fun K hK => ?_⟩
      have e15 : a.tmps[15]? = some ((.bool false)) := by rw [ha]; exact putSel_on (e := (3, 15, (.bool false))) 3 rfl rfl (hon 3 (by kernel_rfl)) rfl
      have e18 : a.tmps[18]? = some ((.bool false)) := by rw [ha]; exact putSel_on (e := (6, 18, (.bool false))) 6 rfl rfl (hon 6 (by kernel_rfl)) rfl
      replace ha := Aside0.mk ha
      have HR := Aside0.mk Q_HR
      have HB := Aside0.mk Q_HB
      have X3 := Aside0.mk Q_X3
      have X4 := Aside0.mk Q_X4
      refine value_ (w1 := w') (v := (.bool false)) (by rfl) rfl ?_ ?_
      · go_simp
        (try simp only [i64_w])
        try rfl
      refine hK.out _ _ ⟨(by rw [ha.out]; exact putSel_upk 7 hb_ rfl rfl rfl), Q_HR, Q_HB, Q_X3, Q_X4⟩
    refine steps_cons ?_ ?_
    · rintro b a w' ⟨ha, Q_HR, Q_HB, Q_X3, Q_X4⟩ hb_ hon hoff
      refine ⟨_, rfl, fun K hK => ?_⟩
      have e19 : a.tmps[19]? = some ((.bool false)) := by rw [ha]; exact putSel_on (e := (7, 19, (.bool false))) 7 rfl rfl (hon 7 (by kernel_rfl)) rfl
      replace ha := Aside0.mk ha
      have HR := Aside0.mk Q_HR
      have HB := Aside0.mk Q_HB
      have X3 := Aside0.mk Q_X3
      have X4 := Aside0.mk Q_X4
      refine value_ (w1 := w') (v := (.bool false)) (by rfl) rfl ?_ ?_
      · go_simp
        (try simp only [i64_w])
        try rfl
      refine hK.out _ _ ⟨(by rw [ha.out]; exact putSel_upk 8 hb_ rfl rfl rfl), Q_HR, Q_HB, Q_X3, Q_X4⟩
    refine steps_cons ?_ ?_
    · rintro b a w' ⟨ha, Q_HR, Q_HB, Q_X3, Q_X4⟩ hb_ hon hoff
      refine ⟨_, rfl, fun K hK => ?_⟩
      have e3 : a.tmps[3]? = some ((.pointer (some ⟨w.heap.size, 0, none⟩))) := by rw [ha]; exact (putSel_off rfl).trans rfl
      have e20 : a.tmps[20]? = some ((.bool false)) := by rw [ha]; exact putSel_on (e := (8, 20, (.bool false))) 8 rfl rfl (hon 8 (by kernel_rfl)) rfl
      replace ha := Aside0.mk ha
      have HR := Aside0.mk Q_HR
      have HB := Aside0.mk Q_HB
      have X3 := Aside0.mk Q_X3
      have X4 := Aside0.mk Q_X4
      refine value_ (w1 := w') (v := (.pointer (some ⟨w.heap.size, 0, none⟩))) (wanted_on rfl rfl rfl (e20.trans (by first | rfl | (simp [*]; done)))) rfl ?_ ?_
      · go_simp
        (try simp only [i64_w])
        try rfl
      refine hK.out _ _ ⟨(by rw [ha.out]; exact putSel_upk 9 hb_ rfl rfl rfl), Q_HR, Q_HB, Q_X3, Q_X4⟩
    refine steps_cons ?_ ?_
    · rintro b a w' ⟨ha, Q_HR, Q_HB, Q_X3, Q_X4⟩ hb_ hon hoff
      refine ⟨_, rfl, fun K hK => ?_⟩
      have e21 : a.tmps[21]? = some ((.pointer (some ⟨w.heap.size, 0, none⟩))) := by rw [ha]; exact putSel_on (e := (9, 21, (.pointer (some ⟨w.heap.size, 0, none⟩)))) 9 rfl rfl (hon 9 (by kernel_rfl)) rfl
      have e20 : a.tmps[20]? = some ((.bool false)) := by rw [ha]; exact putSel_on (e := (8, 20, (.bool false))) 8 rfl rfl (hon 8 (by kernel_rfl)) rfl
      replace ha := Aside0.mk ha
      have HR := Aside0.mk Q_HR
      have HB := Aside0.mk Q_HB
      have X3 := Aside0.mk Q_X3
      have X4 := Aside0.mk Q_X4
      have hc_ := X3.out.c0
      refine value_ (w1 := w') (v := (.int .i64 xa)) (wanted_on rfl rfl rfl (e20.trans (by first | rfl | (simp [*]; done)))) rfl ?_ ?_
      · go_simp
        (try simp only [i64_w])
        try rfl
      refine hK.out _ _ ⟨(by rw [ha.out]; exact putSel_upk 10 hb_ rfl rfl rfl), Q_HR, Q_HB, Q_X3, Q_X4⟩
    refine steps_cons ?_ ?_
    · rintro b a w' ⟨ha, Q_HR, Q_HB, Q_X3, Q_X4⟩ hb_ hon hoff
      refine ⟨_, rfl, fun K hK => ?_⟩
      have e3 : a.tmps[3]? = some ((.pointer (some ⟨w.heap.size, 0, none⟩))) := by rw [ha]; exact (putSel_off rfl).trans rfl
      have e20 : a.tmps[20]? = some ((.bool false)) := by rw [ha]; exact putSel_on (e := (8, 20, (.bool false))) 8 rfl rfl (hon 8 (by kernel_rfl)) rfl
      replace ha := Aside0.mk ha
      have HR := Aside0.mk Q_HR
      have HB := Aside0.mk Q_HB
      have X3 := Aside0.mk Q_X3
      have X4 := Aside0.mk Q_X4
      refine value_ (w1 := w') (v := (.pointer (some ⟨w.heap.size, 1, none⟩))) (wanted_on rfl rfl rfl (e20.trans (by first | rfl | (simp [*]; done)))) rfl ?_ ?_
      · go_simp
        (try simp only [i64_w])
        try rfl
      refine hK.out _ _ ⟨(by rw [ha.out]; exact putSel_upk 11 hb_ rfl rfl rfl), Q_HR, Q_HB, Q_X3, Q_X4⟩
    refine steps_cons ?_ ?_
    · rintro b a w' ⟨ha, Q_HR, Q_HB, Q_X3, Q_X4⟩ hb_ hon hoff
      refine ⟨_, rfl, fun K hK => ?_⟩
      have e23 : a.tmps[23]? = some ((.pointer (some ⟨w.heap.size, 1, none⟩))) := by rw [ha]; exact putSel_on (e := (11, 23, (.pointer (some ⟨w.heap.size, 1, none⟩)))) 11 rfl rfl (hon 11 (by kernel_rfl)) rfl
      have e20 : a.tmps[20]? = some ((.bool false)) := by rw [ha]; exact putSel_on (e := (8, 20, (.bool false))) 8 rfl rfl (hon 8 (by kernel_rfl)) rfl
      replace ha := Aside0.mk ha
      have HR := Aside0.mk Q_HR
      have HB := Aside0.mk Q_HB
      have X3 := Aside0.mk Q_X3
      have X4 := Aside0.mk Q_X4
      have hc_ := X3.out.c1
      refine value_ (w1 := w') (v := (.int .i64 xb)) (wanted_on rfl rfl rfl (e20.trans (by first | rfl | (simp [*]; done)))) rfl ?_ ?_
      · go_simp
        (try simp only [i64_w])
        try rfl
      refine hK.out _ _ ⟨(by rw [ha.out]; exact putSel_upk 12 hb_ rfl rfl rfl), Q_HR, Q_HB, Q_X3, Q_X4⟩
    refine steps_cons ?_ ?_
    · rintro b a w' ⟨ha, Q_HR, Q_HB, Q_X3, Q_X4⟩ hb_ hon hoff
      refine ⟨_, rfl, fun K hK => ?_⟩
      have e22 : a.tmps[22]? = some ((.int .i64 xa)) := by rw [ha]; exact putSel_on (e := (10, 22, (.int .i64 xa))) 10 rfl rfl (hon 10 (by kernel_rfl)) rfl
      have e24 : a.tmps[24]? = some ((.int .i64 xb)) := by rw [ha]; exact putSel_on (e := (12, 24, (.int .i64 xb))) 12 rfl rfl (hon 12 (by kernel_rfl)) rfl
      have e20 : a.tmps[20]? = some ((.bool false)) := by rw [ha]; exact putSel_on (e := (8, 20, (.bool false))) 8 rfl rfl (hon 8 (by kernel_rfl)) rfl
      replace ha := Aside0.mk ha
      have HR := Aside0.mk Q_HR
      have HB := Aside0.mk Q_HB
      have X3 := Aside0.mk Q_X3
      have X4 := Aside0.mk Q_X4
      refine value_ (w1 := w') (v := (.bool false)) (wanted_on rfl rfl rfl (e20.trans (by first | rfl | (simp [*]; done)))) rfl ?_ ?_
      · go_simp
        (try simp only [i64_w])
        try rfl
      refine hK.out _ _ ⟨(by rw [ha.out]; exact putSel_upk 13 hb_ rfl rfl rfl), Q_HR, Q_HB, Q_X3, Q_X4⟩
    refine steps_cons ?_ ?_
    · rintro b a w' ⟨ha, Q_HR, Q_HB, Q_X3, Q_X4⟩ hb_ hon hoff
      refine ⟨_, rfl, fun K hK => ?_⟩
      have e20 : a.tmps[20]? = some ((.bool false)) := by rw [ha]; exact putSel_on (e := (8, 20, (.bool false))) 8 rfl rfl (hon 8 (by kernel_rfl)) rfl
      have e25 : a.tmps[25]? = some ((.bool false)) := by rw [ha]; exact putSel_on (e := (13, 25, (.bool false))) 13 rfl rfl (hon 13 (by kernel_rfl)) rfl
      replace ha := Aside0.mk ha
      have HR := Aside0.mk Q_HR
      have HB := Aside0.mk Q_HB
      have X3 := Aside0.mk Q_X3
      have X4 := Aside0.mk Q_X4
      refine value_ (w1 := w') (v := (.bool false)) (by rfl) rfl ?_ ?_
      · go_simp
        (try simp only [i64_w])
        try rfl
      refine hK.out _ _ ⟨(by rw [ha.out]; exact putSel_upk 14 hb_ rfl rfl rfl), Q_HR, Q_HB, Q_X3, Q_X4⟩
    refine steps_cons ?_ ?_
    · rintro b a w' ⟨ha, Q_HR, Q_HB, Q_X3, Q_X4⟩ hb_ hon hoff
      refine ⟨_, rfl, fun K hK => ?_⟩
      have e26 : a.tmps[26]? = some ((.bool false)) := by rw [ha]; exact putSel_on (e := (14, 26, (.bool false))) 14 rfl rfl (hon 14 (by kernel_rfl)) rfl
      replace ha := Aside0.mk ha
      have HR := Aside0.mk Q_HR
      have HB := Aside0.mk Q_HB
      have X3 := Aside0.mk Q_X3
      have X4 := Aside0.mk Q_X4
      refine value_ (w1 := w') (v := (.bool false)) (by rfl) rfl ?_ ?_
      · go_simp
        (try simp only [i64_w])
        try rfl
      refine hK.out _ _ ⟨(by rw [ha.out]; exact putSel_upk 15 hb_ rfl rfl rfl), Q_HR, Q_HB, Q_X3, Q_X4⟩
    refine steps_cons ?_ ?_
    · rintro b a w' ⟨ha, Q_HR, Q_HB, Q_X3, Q_X4⟩ hb_ hon hoff
      refine ⟨_, rfl, fun K hK => ?_⟩
      have e3 : a.tmps[3]? = some ((.pointer (some ⟨w.heap.size, 0, none⟩))) := by rw [ha]; exact (putSel_off rfl).trans rfl
      have e27 : a.tmps[27]? = some ((.bool false)) := by rw [ha]; exact putSel_on (e := (15, 27, (.bool false))) 15 rfl rfl (hon 15 (by kernel_rfl)) rfl
      replace ha := Aside0.mk ha
      have HR := Aside0.mk Q_HR
      have HB := Aside0.mk Q_HB
      have X3 := Aside0.mk Q_X3
      have X4 := Aside0.mk Q_X4
      refine value_ (w1 := w') (v := (.pointer (some ⟨w.heap.size, 1, none⟩))) (wanted_on rfl rfl rfl (e27.trans (by first | rfl | (simp [*]; done)))) rfl ?_ ?_
      · go_simp
        (try simp only [i64_w])
        try rfl
      refine hK.out _ _ ⟨(by rw [ha.out]; exact putSel_upk 16 hb_ rfl rfl rfl), Q_HR, Q_HB, Q_X3, Q_X4⟩
    refine steps_cons ?_ ?_
    · rintro b a w' ⟨ha, Q_HR, Q_HB, Q_X3, Q_X4⟩ hb_ hon hoff
      refine ⟨_, rfl, fun K hK => ?_⟩
      have e28 : a.tmps[28]? = some ((.pointer (some ⟨w.heap.size, 1, none⟩))) := by rw [ha]; exact putSel_on (e := (16, 28, (.pointer (some ⟨w.heap.size, 1, none⟩)))) 16 rfl rfl (hon 16 (by kernel_rfl)) rfl
      have e27 : a.tmps[27]? = some ((.bool false)) := by rw [ha]; exact putSel_on (e := (15, 27, (.bool false))) 15 rfl rfl (hon 15 (by kernel_rfl)) rfl
      replace ha := Aside0.mk ha
      have HR := Aside0.mk Q_HR
      have HB := Aside0.mk Q_HB
      have X3 := Aside0.mk Q_X3
      have X4 := Aside0.mk Q_X4
      have hc_ := X3.out.c1
      refine value_ (w1 := w') (v := (.int .i64 xb)) (wanted_on rfl rfl rfl (e27.trans (by first | rfl | (simp [*]; done)))) rfl ?_ ?_
      · go_simp
        (try simp only [i64_w])
        try rfl
      refine hK.out _ _ ⟨(by rw [ha.out]; exact putSel_upk 17 hb_ rfl rfl rfl), Q_HR, Q_HB, Q_X3, Q_X4⟩
    refine steps_cons ?_ ?_
    · rintro b a w' ⟨ha, Q_HR, Q_HB, Q_X3, Q_X4⟩ hb_ hon hoff
      refine ⟨_, rfl, fun K hK => ?_⟩
      have e0 : a.tmps[0]? = some ((.slice A0 l0.length c0)) := by rw [ha]; exact (putSel_off rfl).trans rfl
      have e27 : a.tmps[27]? = some ((.bool false)) := by rw [ha]; exact putSel_on (e := (15, 27, (.bool false))) 15 rfl rfl (hon 15 (by kernel_rfl)) rfl
      replace ha := Aside0.mk ha
      have HR := Aside0.mk Q_HR
      have HB := Aside0.mk Q_HB
      have X3 := Aside0.mk Q_X3
      have X4 := Aside0.mk Q_X4
      refine value_ (w1 := w') (v := (.slice A0 l0.length c0)) (wanted_on rfl rfl rfl (e27.trans (by first | rfl | (simp [*]; done)))) rfl ?_ ?_
      · go_simp
        (try simp only [i64_w])
        try rfl
      refine hK.out _ _ ⟨(by rw [ha.out]; exact putSel_upk 18 hb_ rfl rfl rfl), Q_HR, Q_HB, Q_X3, Q_X4⟩
    refine steps_cons ?_ ?_
    · rintro b a w' ⟨ha, Q_HR, Q_HB, Q_X3, Q_X4⟩ hb_ hon hoff
      refine ⟨_, rfl, fun K hK => ?_⟩
      have e30 : a.tmps[30]? = some ((.slice A0 l0.length c0)) := by rw [ha]; exact putSel_on (e := (18, 30, (.slice A0 l0.length c0))) 18 rfl rfl (hon 18 (by kernel_rfl)) rfl
      have e27 : a.tmps[27]? = some ((.bool false)) := by rw [ha]; exact putSel_on (e := (15, 27, (.bool false))) 15 rfl rfl (hon 15 (by kernel_rfl)) rfl
      replace ha := Aside0.mk ha
      have HR := Aside0.mk Q_HR
      have HB := Aside0.mk Q_HB
      have X3 := Aside0.mk Q_X3
      have X4 := Aside0.mk Q_X4
      refine goes_ Try.func42 (by kernel_rfl) rfl #[.slice A0 l0.length c0] (wanted_on rfl rfl rfl (e27.trans (by first | rfl | (simp [*]; done)))) rfl rfl (by first | (simp only [List.map_toArray, List.map_cons, List.map_nil, Act.eval, Array.getD_eq_getD_getElem?, Option.getD_some, e30, e27]; done) | (simp only [List.map_toArray, List.map_cons, List.map_nil, Act.eval, Array.getD_eq_getD_getElem?, Option.getD_some, e30, e27]; rfl)) ?_
      refine (HI.out _ HR.out).mono ?_
      rintro e w1_ ⟨rfl, hb⟩
      refine ⟨_, rfl, ?_⟩
      refine hK.out _ _ ⟨(by rw [ha.out]; exact putSel_upk 19 hb_ rfl rfl rfl), HR.out.below hb, below_step HB.out hb, X3.out.below hb, X4.out.below hb⟩
    refine steps_cons ?_ ?_
    · rintro b a w' ⟨ha, Q_HR, Q_HB, Q_X3, Q_X4⟩ hb_ hon hoff
      refine ⟨_, rfl, fun K hK => ?_⟩
      have e29 : a.tmps[29]? = some ((.int .i64 xb)) := by rw [ha]; exact putSel_on (e := (17, 29, (.int .i64 xb))) 17 rfl rfl (hon 17 (by kernel_rfl)) rfl
      have e31 : a.tmps[31]? = some ((.int .i64 (inL l0))) := by rw [ha]; exact putSel_on (e := (19, 31, (.int .i64 (inL l0)))) 19 rfl rfl (hon 19 (by kernel_rfl)) rfl
      have e27 : a.tmps[27]? = some ((.bool false)) := by rw [ha]; exact putSel_on (e := (15, 27, (.bool false))) 15 rfl rfl (hon 15 (by kernel_rfl)) rfl
      replace ha := Aside0.mk ha
      have HR := Aside0.mk Q_HR
      have HB := Aside0.mk Q_HB
      have X3 := Aside0.mk Q_X3
      have X4 := Aside0.mk Q_X4
      refine value_ (w1 := w') (v := (.bool true)) (wanted_on rfl rfl rfl (e27.trans (by first | rfl | (simp [*]; done)))) rfl ?_ ?_
      · go_simp
        (try simp only [i64_w])
        try rfl
      refine hK.out _ _ ⟨(by rw [ha.out]; exact putSel_upk 20 hb_ rfl rfl rfl), Q_HR, Q_HB, Q_X3, Q_X4⟩
    refine steps_cons ?_ ?_
    · rintro b a w' ⟨ha, Q_HR, Q_HB, Q_X3, Q_X4⟩ hb_ hon hoff
      refine ⟨_, rfl, fun K hK => ?_⟩
      have e27 : a.tmps[27]? = some ((.bool false)) := by rw [ha]; exact putSel_on (e := (15, 27, (.bool false))) 15 rfl rfl (hon 15 (by kernel_rfl)) rfl
      have e32 : a.tmps[32]? = some ((.bool true)) := by rw [ha]; exact putSel_on (e := (20, 32, (.bool true))) 20 rfl rfl (hon 20 (by kernel_rfl)) rfl
      replace ha := Aside0.mk ha
      have HR := Aside0.mk Q_HR
      have HB := Aside0.mk Q_HB
      have X3 := Aside0.mk Q_X3
      have X4 := Aside0.mk Q_X4
      refine value_ (w1 := w') (v := (.bool true)) (by rfl) rfl ?_ ?_
      · go_simp
        (try simp only [i64_w])
        try rfl
      refine hK.out _ _ ⟨(by rw [ha.out]; exact putSel_upk 21 hb_ rfl rfl rfl), Q_HR, Q_HB, Q_X3, Q_X4⟩
    exact steps_nil
  rintro b a we hall ⟨ha, Q_HR, Q_HB, Q_X3, Q_X4⟩
  clear HB HR X3 X4
  have hb0_ := hall 0 (by kernel_rfl)
  have hb1_ := hall 1 (by kernel_rfl)
  have hb2_ := hall 2 (by kernel_rfl)
  have hb3_ := hall 3 (by kernel_rfl)
  have hb4_ := hall 4 (by kernel_rfl)
  have hb5_ := hall 5 (by kernel_rfl)
  have hb6_ := hall 6 (by kernel_rfl)
  have hb7_ := hall 7 (by kernel_rfl)
  have hb8_ := hall 8 (by kernel_rfl)
  have hb9_ := hall 9 (by kernel_rfl)
  have hb10_ := hall 10 (by kernel_rfl)
  have hb11_ := hall 11 (by kernel_rfl)
  have hb12_ := hall 12 (by kernel_rfl)
  have hb13_ := hall 13 (by kernel_rfl)
  have hb14_ := hall 14 (by kernel_rfl)
  have hb15_ := hall 15 (by kernel_rfl)
  have hb16_ := hall 16 (by kernel_rfl)
  have hb17_ := hall 17 (by kernel_rfl)
  have hb18_ := hall 18 (by kernel_rfl)
  have hb19_ := hall 19 (by kernel_rfl)
  have hb20_ := hall 20 (by kernel_rfl)
  have hb21_ := hall 21 (by kernel_rfl)
  subst ha
  simp only [putSel, hb0_, hb1_, hb2_, hb3_, hb4_, hb5_, hb6_, hb7_, hb8_, hb9_, hb10_, hb11_, hb12_, hb13_, hb14_, hb15_, hb16_, hb17_, hb18_, hb19_, hb20_, hb21_, if_true, Act.put, List.setIfInBounds_toArray, List.set_cons_zero, List.set_cons_succ]
  have HR := Aside0.mk Q_HR
  clear Q_HR
  have HB := Aside0.mk Q_HB
  clear Q_HB
  have X3 := Aside0.mk Q_X3
  clear Q_X3
  have X4 := Aside0.mk Q_X4
  clear Q_X4
  clear hall hb0_ hb1_ hb2_ hb3_ hb4_ hb5_ hb6_ hb7_ hb8_ hb9_ hb10_ hb11_ hb12_ hb13_ hb14_ hb15_ hb16_ hb17_ hb18_ hb19_ hb20_ hb21_
  have c40 := X4.out.c0
  have c41 := X4.out.c1
  have f40 := X4.out.fz 0
  have f41 := X4.out.fz 1
  go_wp2_with fail
  refine bodyPost_ret (res_span _ _ (w.heap.size + 1) 0 0 false rfl rfl (blk_put (blk_put X4.out 0 _ rfl) 1 _ rfl)) rfl ?_
  exact ⟨rfl, below_set' (below_set' HB.out (by omega)) (by omega)⟩
set_option maxHeartbeats 8000000 in
set_option maxRecDepth 100000 in
theorem span_yes (A0 : Option Addr) (c0 : Nat) (l0 : List Rn) (xa xb : Int) (w : World) (h : RC w A0 l0) (hc : l0.length ≤ c0) (hl : l0.length ≤ 140737488351232) (hg : good l0 = true) (ha : 0 ≤ xa) (hab : xa ≤ xb) (hi_ : xb ≤ inL l0) :
    Calls Try.prog 35 #[.slice A0 l0.length c0, .agg #[.int .i64 xa, .int .i64 xb]] w (SpanPost (spanL l0 xa xb) w) := by
  refine (callsIn_wide (n := 12)).1 ?_
  have HG := Aside0.mk (good_c A0 c0 l0 hc hl)
  have HI := Aside0.mk (in_c A0 c0 l0 hc hl hg)
  have HMV := Aside0.mk (fun W (hr : RC W A0 l0) => move_c A0 c0 l0 xa false W hr hc hl)
  rw [hg] at HG
  obtain ⟨g1, g2, g3, g4⟩ := good_ok hg
  have gs := (fits_iff g4 0 0 (by decide) (by decide)).1 g3
  have HOK := Aside0.mk g4
  have HSM := Aside0.mk (show Sums 0 0 E l0 from ⟨by decide, by decide, by omega, by rw [E_size]; omega⟩)
  have HLEN := Aside0.mk g2
  have hMa : xa ≤ 16777216 := by omega
  have hMb : xb ≤ 16777216 := by omega
  have hb0 : 0 ≤ xb := by omega
  have H0 := Aside0.mk h
  have HA := Aside0.mk (RC.lt h)
  have a1 : decide (xa < 0) = false := by simp; omega
  have a2 : decide (xb < xa) = false := by simp; omega
  have a3 : decide (inL l0 < xb) = false := by simpa using hi_
  obtain ⟨M, hM⟩ : ∃ M, M = spS xa xb (stepsL l0 0 0) ⟨0, 0, false⟩ := ⟨_, rfl⟩
  have hV : spanL l0 xa xb = (if M.found then (M.e0, M.e1) else ((moveL l0 xa false).1, (moveL l0 xa false).1), true) := by unfold spanL; rw [if_pos ⟨hg, ha, hab, hi_⟩, hM]
  obtain ⟨V, hVV⟩ : ∃ V, V = spanL l0 xa xb := ⟨_, rfl⟩
  rw [← hVV] at hV ⊢
  have HV := Aside0.mk hV
  have HM := Aside0.mk hM
  clear h hc hl hg g1 g2 g3 g4 gs hV hM hVV hi_ hab
  refine callsIn_of_wp_marks Try.func35 rfl trivial ?_ rfl
  simp only [Try.ntmps35, List.size_toArray, List.length_cons, List.length_nil, Nat.reduceAdd, Nat.reduceSub, Array.replicate_succ, Array.replicate_zero, List.push_toArray, List.append_toArray, List.nil_append, List.cons_append]
  gi_wp2
  obtain ⟨w2, hw2⟩ : ∃ w2, w2 = (w.alloc (.cells #[.int .i64 xa, .int .i64 xb] 42)).alloc (.cells #[.int .i64 0, .int .i64 0] 42) := ⟨_, rfl⟩
  have hb2 : Below w.heap.size w w2 := by rw [hw2]; exact below_alloc (below_alloc (Below.refl _ _) _) _
  have HB := Aside0.mk hb2
  have HR := Aside0.mk (H0.out.below hb2)
  have X3 := Aside0.mk (show Sx w.heap.size xa xb w2 by rw [hw2]; exact (show Sx w.heap.size xa xb (w.alloc _) from Own.heap_new w _).below (below_alloc (Below.refl _ _) _))
  have X4 := Aside0.mk (show Sx (w.heap.size + 1) 0 0 w2 by
    rw [hw2]
    have := Own.heap_new (w.alloc (.cells #[.int .i64 xa, .int .i64 xb] 42)) (.cells #[.int .i64 0, .int .i64 0] 42)
    rwa [World.size_alloc] at this)
  rw [← hw2]
  clear hw2 hb2
  refine wpIn_wide.2 ?_
  refine start_ (n := 22) (S := fun w' => True) (ds := []) #[false, false, false, false, false, false, false, false, false, false, false, false, false, false, false, false, false, false, false, false, false, false] (by kernel_rfl) rfl rfl trivial (fun hHeld => ?_); refine with_tabW PlaceS.tab1 PlaceS.bits1 (fun HT_ HW_ => ?_)
  refine inv_at [0, 1, 2, 3, 4, 5, 6, 7, 8, 9, 10, 11, 12, 13, 14, 15, 16, 17, 18, 19, 20, 21] (fun a0_ b a w' => a = putSel a0_ b [(0, 12, (.slice A0 l0.length c0)), (1, 13, (.bool true)), (2, 14, (.bool false)), (3, 15, (.bool false)), (4, 16, (.pointer (some ⟨w.heap.size, 0, none⟩))), (5, 17, (.int .i64 xa)), (6, 18, (.bool false)), (7, 19, (.bool false)), (8, 20, (.bool false)), (9, 21, (.pointer (some ⟨w.heap.size, 0, none⟩))), (10, 22, (.int .i64 xa)), (11, 23, (.pointer (some ⟨w.heap.size, 1, none⟩))), (12, 24, (.int .i64 xb)), (13, 25, (.bool false)), (14, 26, (.bool false)), (15, 27, (.bool false)), (16, 28, (.pointer (some ⟨w.heap.size, 1, none⟩))), (17, 29, (.int .i64 xb)), (18, 30, (.slice A0 l0.length c0)), (19, 31, (.int .i64 (inL l0))), (20, 32, (.bool false)), (21, 33, (.bool false))] ∧ (RC w' A0 l0) ∧ (Below w.heap.size w w') ∧ (Sx w.heap.size xa xb w') ∧ (Sx (w.heap.size + 1) 0 0 w')) HT_.out HW_.out (by kernel_rfl) (by kernel_rfl) ?_ ?_ ?_
  · exact ⟨by simp only [putSel, Bool.false_eq_true, if_false], HR.out.below (below_drew1 (Below.refl _ _)), below_drew1 HB.out, X3.out.below (below_drew1 (Below.refl _ _)), X4.out.below (below_drew1 (Below.refl _ _))⟩
  · skip
    clear HB HR X3 X4
    refine steps_cons ?_ ?_
    · rintro b a w' ⟨ha, Q_HR, Q_HB, Q_X3, Q_X4⟩ hb_ hon hoff
      refine ⟨_, rfl, fun K hK => ?_⟩
      have e0 : a.tmps[0]? = some ((.slice A0 l0.length c0)) := by rw [ha]; exact (putSel_off rfl).trans rfl
      replace ha := Aside0.mk ha
      have HR := Aside0.mk Q_HR
      have HB := Aside0.mk Q_HB
      have X3 := Aside0.mk Q_X3
      have X4 := Aside0.mk Q_X4
      refine value_ (w1 := w') (v := (.slice A0 l0.length c0)) (by rfl) rfl ?_ ?_
      · go_simp
        (try simp only [i64_w])
        try rfl
      refine hK.out _ _ ⟨(by rw [ha.out]; exact putSel_upk 0 hb_ rfl rfl rfl), Q_HR, Q_HB, Q_X3, Q_X4⟩
    refine steps_cons ?_ ?_
    · rintro b a w' ⟨ha, Q_HR, Q_HB, Q_X3, Q_X4⟩ hb_ hon hoff
      refine ⟨_, rfl, fun K hK => ?_⟩
      have e12 : a.tmps[12]? = some ((.slice A0 l0.length c0)) := by rw [ha]; exact putSel_on (e := (0, 12, (.slice A0 l0.length c0))) 0 rfl rfl (hon 0 (by kernel_rfl)) rfl
      replace ha := Aside0.mk ha
      have HR := Aside0.mk Q_HR
      have HB := Aside0.mk Q_HB
      have X3 := Aside0.mk Q_X3
      have X4 := Aside0.mk Q_X4
      refine goes_ Try.func30 (by kernel_rfl) rfl #[.slice A0 l0.length c0] (by rfl) rfl rfl (by first | (simp only [List.map_toArray, List.map_cons, List.map_nil, Act.eval, Array.getD_eq_getD_getElem?, Option.getD_some, e12]; done) | (simp only [List.map_toArray, List.map_cons, List.map_nil, Act.eval, Array.getD_eq_getD_getElem?, Option.getD_some, e12]; rfl)) ?_
      refine (HG.out _ HR.out).mono ?_
      rintro e w1_ ⟨rfl, hb⟩
      refine ⟨_, rfl, ?_⟩
      refine hK.out _ _ ⟨(by rw [ha.out]; exact putSel_upk 1 hb_ rfl rfl rfl), HR.out.below hb, below_step HB.out hb, X3.out.below hb, X4.out.below hb⟩
    refine steps_cons ?_ ?_
    · rintro b a w' ⟨ha, Q_HR, Q_HB, Q_X3, Q_X4⟩ hb_ hon hoff
      refine ⟨_, rfl, fun K hK => ?_⟩
      have e13 : a.tmps[13]? = some ((.bool true)) := by rw [ha]; exact putSel_on (e := (1, 13, (.bool true))) 1 rfl rfl (hon 1 (by kernel_rfl)) rfl
      replace ha := Aside0.mk ha
      have HR := Aside0.mk Q_HR
      have HB := Aside0.mk Q_HB
      have X3 := Aside0.mk Q_X3
      have X4 := Aside0.mk Q_X4
      refine value_ (w1 := w') (v := (.bool false)) (by rfl) rfl ?_ ?_
      · go_simp
        (try simp only [i64_w])
        try rfl
      refine hK.out _ _ ⟨(by rw [ha.out]; exact putSel_upk 2 hb_ rfl rfl rfl), Q_HR, Q_HB, Q_X3, Q_X4⟩
    refine steps_cons ?_ ?_
    · rintro b a w' ⟨ha, Q_HR, Q_HB, Q_X3, Q_X4⟩ hb_ hon hoff
      refine ⟨_, rfl, fun K hK => ?_⟩
      have e14 : a.tmps[14]? = some ((.bool false)) := by rw [ha]; exact putSel_on (e := (2, 14, (.bool false))) 2 rfl rfl (hon 2 (by kernel_rfl)) rfl
      replace ha := Aside0.mk ha
      have HR := Aside0.mk Q_HR
      have HB := Aside0.mk Q_HB
      have X3 := Aside0.mk Q_X3
      have X4 := Aside0.mk Q_X4
      refine value_ (w1 := w') (v := (.bool false)) (by rfl) rfl ?_ ?_
      · go_simp
        (try simp only [i64_w])
        try rfl
      refine hK.out _ _ ⟨(by rw [ha.out]; exact putSel_upk 3 hb_ rfl rfl rfl), Q_HR, Q_HB, Q_X3, Q_X4⟩
    refine steps_cons ?_ ?_
    · rintro b a w' ⟨ha, Q_HR, Q_HB, Q_X3, Q_X4⟩ hb_ hon hoff
      refine ⟨_, rfl, fun K hK => ?_⟩
      have e3 : a.tmps[3]? = some ((.pointer (some ⟨w.heap.size, 0, none⟩))) := by rw [ha]; exact (putSel_off rfl).trans rfl
      have e15 : a.tmps[15]? = some ((.bool false)) := by rw [ha]; exact putSel_on (e := (3, 15, (.bool false))) 3 rfl rfl (hon 3 (by kernel_rfl)) rfl
      replace ha := Aside0.mk ha
      have HR := Aside0.mk Q_HR
      have HB := Aside0.mk Q_HB
      have X3 := Aside0.mk Q_X3
      have X4 := Aside0.mk Q_X4
      refine value_ (w1 := w') (v := (.pointer (some ⟨w.heap.size, 0, none⟩))) (wanted_on rfl rfl rfl (e15.trans (by first | rfl | (simp [*]; done)))) rfl ?_ ?_
      · go_simp
        (try simp only [i64_w])
        try rfl
      refine hK.out _ _ ⟨(by rw [ha.out]; exact putSel_upk 4 hb_ rfl rfl rfl), Q_HR, Q_HB, Q_X3, Q_X4⟩
    refine steps_cons ?_ ?_
    · rintro b a w' ⟨ha, Q_HR, Q_HB, Q_X3, Q_X4⟩ hb_ hon hoff
      refine ⟨_, rfl, fun K hK => ?_⟩
      have e16 : a.tmps[16]? = some ((.pointer (some ⟨w.heap.size, 0, none⟩))) := by rw [ha]; exact putSel_on (e := (4, 16, (.pointer (some ⟨w.heap.size, 0, none⟩)))) 4 rfl rfl (hon 4 (by kernel_rfl)) rfl
      have e15 : a.tmps[15]? = some ((.bool false)) := by rw [ha]; exact putSel_on (e := (3, 15, (.bool false))) 3 rfl rfl (hon 3 (by kernel_rfl)) rfl
      replace ha := Aside0.mk ha
      have HR := Aside0.mk Q_HR
      have HB := Aside0.mk Q_HB
      have X3 := Aside0.mk Q_X3
      have X4 := Aside0.mk Q_X4
      have hc_ := X3.out.c0
      refine value_ (w1 := w') (v := (.int .i64 xa)) (wanted_on rfl rfl rfl (e15.trans (by first | rfl | (simp [*]; done)))) rfl ?_ ?_
      · go_simp
        (try simp only [i64_w])
        try rfl
      refine hK.out _ _ ⟨(by rw [ha.out]; exact putSel_upk 5 hb_ rfl rfl rfl), Q_HR, Q_HB, Q_X3, Q_X4⟩
    refine steps_cons ?_ ?_
    · rintro b a w' ⟨ha, Q_HR, Q_HB, Q_X3, Q_X4⟩ hb_ hon hoff
      refine ⟨_, rfl, fun K hK => ?_⟩
      have e17 : a.tmps[17]? = some ((.int .i64 xa)) := by rw [ha]; exact putSel_on (e := (5, 17, (.int .i64 xa))) 5 rfl rfl (hon 5 (by kernel_rfl)) rfl
      have e15 : a.tmps[15]? = some ((.bool false)) := by rw [ha]; exact putSel_on (e := (3, 15, (.bool false))) 3 rfl rfl (hon 3 (by kernel_rfl)) rfl
      replace ha := Aside0.mk ha
      have HR := Aside0.mk Q_HR
      have HB := Aside0.mk Q_HB
      have X3 := Aside0.mk Q_X3
      have X4 := Aside0.mk Q_X4
      refine value_ (w1 := w') (v := (.bool false)) (wanted_on rfl rfl rfl (e15.trans (by first | rfl | (simp [*]; done)))) rfl ?_ ?_
      · go_simp
        (try simp only [i64_w])
        try rfl
      refine hK.out _ _ ⟨(by rw [ha.out]; exact putSel_upk 6 hb_ rfl rfl rfl), Q_HR, Q_HB, Q_X3, Q_X4⟩
    refine steps_cons ?_ ?_
    · rintro b a w' ⟨ha, Q_HR, Q_HB, Q_X3, Q_X4⟩ hb_ hon hoff
      refine ⟨_, rfl, fun K hK => ?_⟩
      have e15 : a.tmps[15]? = some ((.bool false)) := by rw [ha]; exact putSel_on (e := (3, 15, (.bool false))) 3 rfl rfl (hon 3 (by kernel_rfl)) rfl
      have e18 : a.tmps[18]? = some ((.bool false)) := by rw [ha]; exact putSel_on (e := (6, 18, (.bool false))) 6 rfl rfl (hon 6 (by kernel_rfl)) rfl
      replace ha := Aside0.mk ha
      have HR := Aside0.mk Q_HR
      have HB := Aside0.mk Q_HB
      have X3 := Aside0.mk Q_X3
      have X4 := Aside0.mk Q_X4
      refine value_ (w1 := w') (v := (.bool false)) (by rfl) rfl ?_ ?_
      · go_simp
        (try simp only [i64_w])
        try rfl
      refine hK.out _ _ ⟨(by rw [ha.out]; exact putSel_upk 7 hb_ rfl rfl rfl), Q_HR, Q_HB, Q_X3, Q_X4⟩
    refine steps_cons ?_ ?_
    · rintro b a w' ⟨ha, Q_HR, Q_HB, Q_X3, Q_X4⟩ hb_ hon hoff
      refine ⟨_, rfl, fun K hK => ?_⟩
      have e19 : a.tmps[19]? = some ((.bool false)) := by rw [ha]; exact putSel_on (e := (7, 19, (.bool false))) 7 rfl rfl (hon 7 (by kernel_rfl)) rfl
      replace ha := Aside0.mk ha
      have HR := Aside0.mk Q_HR
      have HB := Aside0.mk Q_HB
      have X3 := Aside0.mk Q_X3
      have X4 := Aside0.mk Q_X4
      refine value_ (w1 := w') (v := (.bool false)) (by rfl) rfl ?_ ?_
      · go_simp
        (try simp only [i64_w])
        try rfl
      refine hK.out _ _ ⟨(by rw [ha.out]; exact putSel_upk 8 hb_ rfl rfl rfl), Q_HR, Q_HB, Q_X3, Q_X4⟩
    refine steps_cons ?_ ?_
    · rintro b a w' ⟨ha, Q_HR, Q_HB, Q_X3, Q_X4⟩ hb_ hon hoff
      refine ⟨_, rfl, fun K hK => ?_⟩
      have e3 : a.tmps[3]? = some ((.pointer (some ⟨w.heap.size, 0, none⟩))) := by rw [ha]; exact (putSel_off rfl).trans rfl
      have e20 : a.tmps[20]? = some ((.bool false)) := by rw [ha]; exact putSel_on (e := (8, 20, (.bool false))) 8 rfl rfl (hon 8 (by kernel_rfl)) rfl
      replace ha := Aside0.mk ha
      have HR := Aside0.mk Q_HR
      have HB := Aside0.mk Q_HB
      have X3 := Aside0.mk Q_X3
      have X4 := Aside0.mk Q_X4
      refine value_ (w1 := w') (v := (.pointer (some ⟨w.heap.size, 0, none⟩))) (wanted_on rfl rfl rfl (e20.trans (by first | rfl | (simp [*]; done)))) rfl ?_ ?_
      · go_simp
        (try simp only [i64_w])
        try rfl
      refine hK.out _ _ ⟨(by rw [ha.out]; exact putSel_upk 9 hb_ rfl rfl rfl), Q_HR, Q_HB, Q_X3, Q_X4⟩
    refine steps_cons ?_ ?_
    · rintro b a w' ⟨ha, Q_HR, Q_HB, Q_X3, Q_X4⟩ hb_ hon hoff
      refine ⟨_, rfl, fun K hK => ?_⟩
      have e21 : a.tmps[21]? = some ((.pointer (some ⟨w.heap.size, 0, none⟩))) := by rw [ha]; exact putSel_on (e := (9, 21, (.pointer (some ⟨w.heap.size, 0, none⟩)))) 9 rfl rfl (hon 9 (by kernel_rfl)) rfl
      have e20 : a.tmps[20]? = some ((.bool false)) := by rw [ha]; exact putSel_on (e := (8, 20, (.bool false))) 8 rfl rfl (hon 8 (by kernel_rfl)) rfl
      replace ha := Aside0.mk ha
      have HR := Aside0.mk Q_HR
      have HB := Aside0.mk Q_HB
      have X3 := Aside0.mk Q_X3
      have X4 := Aside0.mk Q_X4
      have hc_ := X3.out.c0
      refine value_ (w1 := w') (v := (.int .i64 xa)) (wanted_on rfl rfl rfl (e20.trans (by first | rfl | (simp [*]; done)))) rfl ?_ ?_
      · go_simp
        (try simp only [i64_w])
        try rfl
      refine hK.out _ _ ⟨(by rw [ha.out]; exact putSel_upk 10 hb_ rfl rfl rfl), Q_HR, Q_HB, Q_X3, Q_X4⟩
    refine steps_cons ?_ ?_
    · rintro b a w' ⟨ha, Q_HR, Q_HB, Q_X3, Q_X4⟩ hb_ hon hoff
      refine ⟨_, rfl, fun K hK => ?_⟩
      have e3 : a.tmps[3]? = some ((.pointer (some ⟨w.heap.size, 0, none⟩))) := by rw [ha]; exact (putSel_off rfl).trans rfl
      have e20 : a.tmps[20]? = some ((.bool false)) := by rw [ha]; exact putSel_on (e := (8, 20, (.bool false))) 8 rfl rfl (hon 8 (by kernel_rfl)) rfl
      replace ha := Aside0.mk ha
      have HR := Aside0.mk Q_HR
      have HB := Aside0.mk Q_HB
      have X3 := Aside0.mk Q_X3
      have X4 := Aside0.mk Q_X4
      refine value_ (w1 := w') (v := (.pointer (some ⟨w.heap.size, 1, none⟩))) (wanted_on rfl rfl rfl (e20.trans (by first | rfl | (simp [*]; done)))) rfl ?_ ?_
      · go_simp
        (try simp only [i64_w])
        try rfl
      refine hK.out _ _ ⟨(by rw [ha.out]; exact putSel_upk 11 hb_ rfl rfl rfl), Q_HR, Q_HB, Q_X3, Q_X4⟩
    refine steps_cons ?_ ?_
    · rintro b a w' ⟨ha, Q_HR, Q_HB, Q_X3, Q_X4⟩ hb_ hon hoff
      refine ⟨_, rfl, fun K hK => ?_⟩
      have e23 : a.tmps[23]? = some ((.pointer (some ⟨w.heap.size, 1, none⟩))) := by rw [ha]; exact putSel_on (e := (11, 23, (.pointer (some ⟨w.heap.size, 1, none⟩)))) 11 rfl rfl (hon 11 (by kernel_rfl)) rfl
      have e20 : a.tmps[20]? = some ((.bool false)) := by rw [ha]; exact putSel_on (e := (8, 20, (.bool false))) 8 rfl rfl (hon 8 (by kernel_rfl)) rfl
      replace ha := Aside0.mk ha
      have HR := Aside0.mk Q_HR
      have HB := Aside0.mk Q_HB
      have X3 := Aside0.mk Q_X3
      have X4 := Aside0.mk Q_X4
      have hc_ := X3.out.c1
      refine value_ (w1 := w') (v := (.int .i64 xb)) (wanted_on rfl rfl rfl (e20.trans (by first | rfl | (simp [*]; done)))) rfl ?_ ?_
      · go_simp
        (try simp only [i64_w])
        try rfl
      refine hK.out _ _ ⟨(by rw [ha.out]; exact putSel_upk 12 hb_ rfl rfl rfl), Q_HR, Q_HB, Q_X3, Q_X4⟩
    refine steps_cons ?_ ?_
    · rintro b a w' ⟨ha, Q_HR, Q_HB, Q_X3, Q_X4⟩ hb_ hon hoff
      refine ⟨_, rfl, fun K hK => ?_⟩
      have e22 : a.tmps[22]? = some ((.int .i64 xa)) := by rw [ha]; exact putSel_on (e := (10, 22, (.int .i64 xa))) 10 rfl rfl (hon 10 (by kernel_rfl)) rfl
      have e24 : a.tmps[24]? = some ((.int .i64 xb)) := by rw [ha]; exact putSel_on (e := (12, 24, (.int .i64 xb))) 12 rfl rfl (hon 12 (by kernel_rfl)) rfl
      have e20 : a.tmps[20]? = some ((.bool false)) := by rw [ha]; exact putSel_on (e := (8, 20, (.bool false))) 8 rfl rfl (hon 8 (by kernel_rfl)) rfl
      replace ha := Aside0.mk ha
      have HR := Aside0.mk Q_HR
      have HB := Aside0.mk Q_HB
      have X3 := Aside0.mk Q_X3
      have X4 := Aside0.mk Q_X4
      refine value_ (w1 := w') (v := (.bool false)) (wanted_on rfl rfl rfl (e20.trans (by first | rfl | (simp [*]; done)))) rfl ?_ ?_
      · go_simp
        (try simp only [i64_w])
        try rfl
      refine hK.out _ _ ⟨(by rw [ha.out]; exact putSel_upk 13 hb_ rfl rfl rfl), Q_HR, Q_HB, Q_X3, Q_X4⟩
    refine steps_cons ?_ ?_
    · rintro b a w' ⟨ha, Q_HR, Q_HB, Q_X3, Q_X4⟩ hb_ hon hoff
      refine ⟨_, rfl, fun K hK => ?_⟩
      have e20 : a.tmps[20]? = some ((.bool false)) := by rw [ha]; exact putSel_on (e := (8, 20, (.bool false))) 8 rfl rfl (hon 8 (by kernel_rfl)) rfl
      have e25 : a.tmps[25]? = some ((.bool false)) := by rw [ha]; exact putSel_on (e := (13, 25, (.bool false))) 13 rfl rfl (hon 13 (by kernel_rfl)) rfl
      replace ha := Aside0.mk ha
      have HR := Aside0.mk Q_HR
      have HB := Aside0.mk Q_HB
      have X3 := Aside0.mk Q_X3
      have X4 := Aside0.mk Q_X4
      refine value_ (w1 := w') (v := (.bool false)) (by rfl) rfl ?_ ?_
      · go_simp
        (try simp only [i64_w])
        try rfl
      refine hK.out _ _ ⟨(by rw [ha.out]; exact putSel_upk 14 hb_ rfl rfl rfl), Q_HR, Q_HB, Q_X3, Q_X4⟩
    refine steps_cons ?_ ?_
    · rintro b a w' ⟨ha, Q_HR, Q_HB, Q_X3, Q_X4⟩ hb_ hon hoff
      refine ⟨_, rfl, fun K hK => ?_⟩
      have e26 : a.tmps[26]? = some ((.bool false)) := by rw [ha]; exact putSel_on (e := (14, 26, (.bool false))) 14 rfl rfl (hon 14 (by kernel_rfl)) rfl
      replace ha := Aside0.mk ha
      have HR := Aside0.mk Q_HR
      have HB := Aside0.mk Q_HB
      have X3 := Aside0.mk Q_X3
      have X4 := Aside0.mk Q_X4
      refine value_ (w1 := w') (v := (.bool false)) (by rfl) rfl ?_ ?_
      · go_simp
        (try simp only [i64_w])
        try rfl
      refine hK.out _ _ ⟨(by rw [ha.out]; exact putSel_upk 15 hb_ rfl rfl rfl), Q_HR, Q_HB, Q_X3, Q_X4⟩
    refine steps_cons ?_ ?_
    · rintro b a w' ⟨ha, Q_HR, Q_HB, Q_X3, Q_X4⟩ hb_ hon hoff
      refine ⟨_, rfl, fun K hK => ?_⟩
      have e3 : a.tmps[3]? = some ((.pointer (some ⟨w.heap.size, 0, none⟩))) := by rw [ha]; exact (putSel_off rfl).trans rfl
      have e27 : a.tmps[27]? = some ((.bool false)) := by rw [ha]; exact putSel_on (e := (15, 27, (.bool false))) 15 rfl rfl (hon 15 (by kernel_rfl)) rfl
      replace ha := Aside0.mk ha
      have HR := Aside0.mk Q_HR
      have HB := Aside0.mk Q_HB
      have X3 := Aside0.mk Q_X3
      have X4 := Aside0.mk Q_X4
      refine value_ (w1 := w') (v := (.pointer (some ⟨w.heap.size, 1, none⟩))) (wanted_on rfl rfl rfl (e27.trans (by first | rfl | (simp [*]; done)))) rfl ?_ ?_
      · go_simp
        (try simp only [i64_w])
        try rfl
      refine hK.out _ _ ⟨(by rw [ha.out]; exact putSel_upk 16 hb_ rfl rfl rfl), Q_HR, Q_HB, Q_X3, Q_X4⟩
    refine steps_cons ?_ ?_
    · rintro b a w' ⟨ha, Q_HR, Q_HB, Q_X3, Q_X4⟩ hb_ hon hoff
      refine ⟨_, rfl, fun K hK => ?_⟩
      have e28 : a.tmps[28]? = some ((.pointer (some ⟨w.heap.size, 1, none⟩))) := by rw [ha]; exact putSel_on (e := (16, 28, (.pointer (some ⟨w.heap.size, 1, none⟩)))) 16 rfl rfl (hon 16 (by kernel_rfl)) rfl
      have e27 : a.tmps[27]? = some ((.bool false)) := by rw [ha]; exact putSel_on (e := (15, 27, (.bool false))) 15 rfl rfl (hon 15 (by kernel_rfl)) rfl
      replace ha := Aside0.mk ha
      have HR := Aside0.mk Q_HR
      have HB := Aside0.mk Q_HB
      have X3 := Aside0.mk Q_X3
      have X4 := Aside0.mk Q_X4
      have hc_ := X3.out.c1
      refine value_ (w1 := w') (v := (.int .i64 xb)) (wanted_on rfl rfl rfl (e27.trans (by first | rfl | (simp [*]; done)))) rfl ?_ ?_
      · go_simp
        (try simp only [i64_w])
        try rfl
      refine hK.out _ _ ⟨(by rw [ha.out]; exact putSel_upk 17 hb_ rfl rfl rfl), Q_HR, Q_HB, Q_X3, Q_X4⟩
    refine steps_cons ?_ ?_
    · rintro b a w' ⟨ha, Q_HR, Q_HB, Q_X3, Q_X4⟩ hb_ hon hoff
      refine ⟨_, rfl, fun K hK => ?_⟩
      have e0 : a.tmps[0]? = some ((.slice A0 l0.length c0)) := by rw [ha]; exact (putSel_off rfl).trans rfl
      have e27 : a.tmps[27]? = some ((.bool false)) := by rw [ha]; exact putSel_on (e := (15, 27, (.bool false))) 15 rfl rfl (hon 15 (by kernel_rfl)) rfl
      replace ha := Aside0.mk ha
      have HR := Aside0.mk Q_HR
      have HB := Aside0.mk Q_HB
      have X3 := Aside0.mk Q_X3
      have X4 := Aside0.mk Q_X4
      refine value_ (w1 := w') (v := (.slice A0 l0.length c0)) (wanted_on rfl rfl rfl (e27.trans (by first | rfl | (simp [*]; done)))) rfl ?_ ?_
      · go_simp
        (try simp only [i64_w])
        try rfl
      refine hK.out _ _ ⟨(by rw [ha.out]; exact putSel_upk 18 hb_ rfl rfl rfl), Q_HR, Q_HB, Q_X3, Q_X4⟩
    refine steps_cons ?_ ?_
    · rintro b a w' ⟨ha, Q_HR, Q_HB, Q_X3, Q_X4⟩ hb_ hon hoff
      refine ⟨_, rfl, fun K hK => ?_⟩
      have e30 : a.tmps[30]? = some ((.slice A0 l0.length c0)) := by rw [ha]; exact putSel_on (e := (18, 30, (.slice A0 l0.length c0))) 18 rfl rfl (hon 18 (by kernel_rfl)) rfl
      have e27 : a.tmps[27]? = some ((.bool false)) := by rw [ha]; exact putSel_on (e := (15, 27, (.bool false))) 15 rfl rfl (hon 15 (by kernel_rfl)) rfl
      replace ha := Aside0.mk ha
      have HR := Aside0.mk Q_HR
      have HB := Aside0.mk Q_HB
      have X3 := Aside0.mk Q_X3
      have X4 := Aside0.mk Q_X4
      refine goes_ Try.func42 (by kernel_rfl) rfl #[.slice A0 l0.length c0] (wanted_on rfl rfl rfl (e27.trans (by first | rfl | (simp [*]; done)))) rfl rfl (by first | (simp only [List.map_toArray, List.map_cons, List.map_nil, Act.eval, Array.getD_eq_getD_getElem?, Option.getD_some, e30, e27]; done) | (simp only [List.map_toArray, List.map_cons, List.map_nil, Act.eval, Array.getD_eq_getD_getElem?, Option.getD_some, e30, e27]; rfl)) ?_
      refine (HI.out _ HR.out).mono ?_
      rintro e w1_ ⟨rfl, hb⟩
      refine ⟨_, rfl, ?_⟩
      refine hK.out _ _ ⟨(by rw [ha.out]; exact putSel_upk 19 hb_ rfl rfl rfl), HR.out.below hb, below_step HB.out hb, X3.out.below hb, X4.out.below hb⟩
    refine steps_cons ?_ ?_
    · rintro b a w' ⟨ha, Q_HR, Q_HB, Q_X3, Q_X4⟩ hb_ hon hoff
      refine ⟨_, rfl, fun K hK => ?_⟩
      have e29 : a.tmps[29]? = some ((.int .i64 xb)) := by rw [ha]; exact putSel_on (e := (17, 29, (.int .i64 xb))) 17 rfl rfl (hon 17 (by kernel_rfl)) rfl
      have e31 : a.tmps[31]? = some ((.int .i64 (inL l0))) := by rw [ha]; exact putSel_on (e := (19, 31, (.int .i64 (inL l0)))) 19 rfl rfl (hon 19 (by kernel_rfl)) rfl
      have e27 : a.tmps[27]? = some ((.bool false)) := by rw [ha]; exact putSel_on (e := (15, 27, (.bool false))) 15 rfl rfl (hon 15 (by kernel_rfl)) rfl
      replace ha := Aside0.mk ha
      have HR := Aside0.mk Q_HR
      have HB := Aside0.mk Q_HB
      have X3 := Aside0.mk Q_X3
      have X4 := Aside0.mk Q_X4
      refine value_ (w1 := w') (v := (.bool false)) (wanted_on rfl rfl rfl (e27.trans (by first | rfl | (simp [*]; done)))) rfl ?_ ?_
      · go_simp
        (try simp only [i64_w])
        try rfl
      refine hK.out _ _ ⟨(by rw [ha.out]; exact putSel_upk 20 hb_ rfl rfl rfl), Q_HR, Q_HB, Q_X3, Q_X4⟩
    refine steps_cons ?_ ?_
    · rintro b a w' ⟨ha, Q_HR, Q_HB, Q_X3, Q_X4⟩ hb_ hon hoff
      refine ⟨_, rfl, fun K hK => ?_⟩
      have e27 : a.tmps[27]? = some ((.bool false)) := by rw [ha]; exact putSel_on (e := (15, 27, (.bool false))) 15 rfl rfl (hon 15 (by kernel_rfl)) rfl
      have e32 : a.tmps[32]? = some ((.bool false)) := by rw [ha]; exact putSel_on (e := (20, 32, (.bool false))) 20 rfl rfl (hon 20 (by kernel_rfl)) rfl
      replace ha := Aside0.mk ha
      have HR := Aside0.mk Q_HR
      have HB := Aside0.mk Q_HB
      have X3 := Aside0.mk Q_X3
      have X4 := Aside0.mk Q_X4
      refine value_ (w1 := w') (v := (.bool false)) (by rfl) rfl ?_ ?_
      · go_simp
        (try simp only [i64_w])
        try rfl
      refine hK.out _ _ ⟨(by rw [ha.out]; exact putSel_upk 21 hb_ rfl rfl rfl), Q_HR, Q_HB, Q_X3, Q_X4⟩
    exact steps_nil
  rintro b a we hall ⟨ha, Q_HR, Q_HB, Q_X3, Q_X4⟩
  clear HB HR X3 X4
  have hb0_ := hall 0 (by kernel_rfl)
  have hb1_ := hall 1 (by kernel_rfl)
  have hb2_ := hall 2 (by kernel_rfl)
  have hb3_ := hall 3 (by kernel_rfl)
  have hb4_ := hall 4 (by kernel_rfl)
  have hb5_ := hall 5 (by kernel_rfl)
  have hb6_ := hall 6 (by kernel_rfl)
  have hb7_ := hall 7 (by kernel_rfl)
  have hb8_ := hall 8 (by kernel_rfl)
  have hb9_ := hall 9 (by kernel_rfl)
  have hb10_ := hall 10 (by kernel_rfl)
  have hb11_ := hall 11 (by kernel_rfl)
  have hb12_ := hall 12 (by kernel_rfl)
  have hb13_ := hall 13 (by kernel_rfl)
  have hb14_ := hall 14 (by kernel_rfl)
  have hb15_ := hall 15 (by kernel_rfl)
  have hb16_ := hall 16 (by kernel_rfl)
  have hb17_ := hall 17 (by kernel_rfl)
  have hb18_ := hall 18 (by kernel_rfl)
  have hb19_ := hall 19 (by kernel_rfl)
  have hb20_ := hall 20 (by kernel_rfl)
  have hb21_ := hall 21 (by kernel_rfl)
  subst ha
  simp only [putSel, hb0_, hb1_, hb2_, hb3_, hb4_, hb5_, hb6_, hb7_, hb8_, hb9_, hb10_, hb11_, hb12_, hb13_, hb14_, hb15_, hb16_, hb17_, hb18_, hb19_, hb20_, hb21_, if_true, Act.put, List.setIfInBounds_toArray, List.set_cons_zero, List.set_cons_succ]
  have HR := Aside0.mk Q_HR
  clear Q_HR
  have HB := Aside0.mk Q_HB
  clear Q_HB
  have X3 := Aside0.mk Q_X3
  clear Q_X3
  have X4 := Aside0.mk Q_X4
  clear Q_X4
  clear hall hb0_ hb1_ hb2_ hb3_ hb4_ hb5_ hb6_ hb7_ hb8_ hb9_ hb10_ hb11_ hb12_ hb13_ hb14_ hb15_ hb16_ hb17_ hb18_ hb19_ hb20_ hb21_
  gi_wp2
  obtain ⟨BE, hBE⟩ : ∃ b, b = we.heap.size := ⟨_, rfl⟩
  obtain ⟨BF, hBF⟩ : ∃ b, b = we.heap.size + 1 := ⟨_, rfl⟩
  obtain ⟨BC, hBC⟩ : ∃ b, b = we.heap.size + 1 + 1 := ⟨_, rfl⟩
  obtain ⟨w5, hw5⟩ : ∃ w5, w5 = (((we.alloc (.cells #[.int .i64 0, .int .i64 0] 74)).alloc (.cells #[.bool false] 4)).alloc (.cells #[.func (.func 43) #[] #[.pointer (some ⟨w.heap.size, 0, none⟩), .pointer (some ⟨we.heap.size + 1, 0, none⟩), .pointer (some ⟨we.heap.size, 0, none⟩)]] 77)) := ⟨_, rfl⟩
  have hz5 : w5.heap.size = we.heap.size + 3 := by rw [hw5]; simp
  have hb5 : Below we.heap.size we w5 := by rw [hw5]; exact below_alloc (below_alloc (below_alloc (Below.refl _ _) _) _ ) _
  have hE5 : w5.heap[BE]? = some (.cells #[.int .i64 0, .int .i64 0] 74 (0, 0)) := by
    rw [hw5, hBE, Own.heap_old _ _ _ (by simp; omega), Own.heap_old _ _ _ (by simp)]; exact Own.heap_new _ _
  have hF5 : w5.heap[BF]? = some (.cells #[.bool false] 4 (0, 0)) := by
    rw [hw5, hBF, Own.heap_old _ _ _ (by simp)]
    have := Own.heap_new (we.alloc (.cells #[.int .i64 0, .int .i64 0] 74)) (.cells #[.bool false] 4)
    rwa [World.size_alloc] at this
  have hC5 : w5.heap[BC]? = some (.cells #[.func (.func 43) #[] #[.pointer (some ⟨w.heap.size, 0, none⟩), .pointer (some ⟨BF, 0, none⟩), .pointer (some ⟨BE, 0, none⟩)]] 77 (0, 0)) := by
    rw [hw5, hBC, hBF, hBE]
    have := Own.heap_new ((we.alloc (.cells #[.int .i64 0, .int .i64 0] 74)).alloc (.cells #[.bool false] 4)) (.cells #[.func (.func 43) #[] #[.pointer (some ⟨w.heap.size, 0, none⟩), .pointer (some ⟨we.heap.size + 1, 0, none⟩), .pointer (some ⟨we.heap.size, 0, none⟩)]] 77)
    rwa [World.size_alloc, World.size_alloc] at this
  rw [← hw5, ← hBC, ← hBF, ← hBE]
  refine ⟨trivial, ?_⟩
  refine (callsIn_wide.2 (steps_c A0 _ c0 _)).mono ?_
  rintro e w6 ⟨rfl, hw6⟩
  have hb56 : Below w5.heap.size w5 w6 := by rw [hw6]; exact below_alloc (Below.refl _ _) _
  have hb6 : Below we.heap.size we w6 := hb5.trans (hb56.mono hb5.size)
  have hwe := X4.out
  have hwl : w.heap.size + 1 < we.heap.size := (Array.getElem?_eq_some_iff.1 hwe).1
  have HB6 := Aside0.mk (show Below w.heap.size w w6 from HB.out.trans (hb6.mono HB.out.size))
  have HX3 := Aside0.mk (X3.out.below hb6)
  have HX4 := Aside0.mk (X4.out.below hb6)
  have HR6 := Aside0.mk (HR.out.below hb6)
  have HE6 := Aside0.mk ((hb56.block BE (by omega)).trans hE5)
  have HF6 := Aside0.mk ((hb56.block BF (by omega)).trans hF5)
  have HC6 := Aside0.mk ((hb56.block BC (by omega)).trans hC5)
  obtain ⟨T, hT⟩ : ∃ T, T = w5.heap.size := ⟨_, rfl⟩
  have HT6 := Aside0.mk (show w6.heap[T]? = some (.cells #[.slice A0 l0.length c0] 34 (0, 0)) by rw [hw6, hT]; exact Own.heap_new _ _)
  have hT6 := (Array.getElem?_eq_some_iff.1 HT6.out).1
  have HZ6 := Aside0.mk (show w.heap.size + 1 < BE ∧ BF = BE + 1 ∧ BC = BE + 2 ∧ T = BE + 3 ∧ T < w6.heap.size from ⟨by omega, by omega, by omega, by omega, hT6⟩)
  rw [← hT]
  clear hw5 hz5 hb5 hE5 hF5 hC5 hw6 hb56 hb6 hwe hwl hT hT6 hBE hBF hBC X3 X4 HR HB HG HI H0 a1 a2 a3
  gi_wp2
  have HFF := Aside0.mk (show ∀ k, (fun k => k = BE ∨ k = BF) k → k < w6.heap.size from fun k hk => by have := HZ6.out; have hk2 : k = BE ∨ k = BF := hk; omega)
  obtain ⟨L, hL⟩ : ∃ L, L = stepsL l0 0 0 := ⟨_, rfl⟩
  obtain ⟨Q, hQ⟩ : ∃ Q : List St → World → Prop, Q = fun pre W => ∃ m : Sp, SpIn BE BF m W ∧ spS xa xb (L.drop pre.length) m = M := ⟨_, rfl⟩
  have HQQ := Aside0.mk (show ∀ pre W W', (∀ k, (fun k => k = BE ∨ k = BF) k → W'.heap[k]? = W.heap[k]?) → Q pre W → Q pre W' from fun pre W W' hk hq => by
    rw [hQ] at hq ⊢
    obtain ⟨d, h1, h2⟩ := hq
    exact ⟨d, ⟨(hk BE (.inl rfl)).trans h1.1, (hk BF (.inr rfl)).trans h1.2⟩, h2⟩)
  have HQE := Aside0.mk hQ
  have HLE := Aside0.mk hL
  clear hQ hL
  refine range_g (n := 12) (w := w6) (by decide) (gf := 53) (lb := #[.pointer (some ⟨T, 0, none⟩)]) rfl (enters_of Try.func53 (by kernel_rfl) rfl) (fun s : St => #[.agg #[.int .i64 s.r.f0, .string s.r.f1, .int .i64 s.r.f2, .int .i64 s.i, .int .i64 s.o]]) (fun _ => rfl) L (Held A0 c0 T l0)
    (by rw [HLE.out]; exact steps_it A0 c0 T l0 HOK.out HSM.out (by have := HLEN.out; omega)) (Jf w6 (fun k => k = BE ∨ k = BF) Q) (jf_party HFF.out HQQ.out) ?hK (jf_own (Nat.le_refl _) HFF.out HQQ.out) (fun _ _ _ => False) (fun _ _ _ _ _ h _ _ => h) ?h0
    (fun x a' W => ∃ Bx, W.heap[Bx]? = some (.cells #[.int .i64 x.r.f0, .string x.r.f1, .int .i64 x.r.f2, .int .i64 x.i, .int .i64 x.o] 76 (0, 0)) ∧ a' = { tmps := #[.slice A0 l0.length c0, .agg #[.int .i64 xa, .int .i64 xb], undef, .pointer (some ⟨w.heap.size, 0, none⟩), .pointer (some ⟨w.heap.size + 1, 0, none⟩), .bool false, .pointer (some ⟨BE, 0, none⟩), .pointer (some ⟨BF, 0, none⟩), .pointer (some ⟨BC, 0, none⟩), .pointer (some ⟨Bx, 0, none⟩), undef, undef, .slice A0 l0.length c0, .bool true, .bool false, .bool false, .pointer (some ⟨w.heap.size, 0, none⟩), .int .i64 xa, .bool false, .bool false, .bool false, .pointer (some ⟨w.heap.size, 0, none⟩), .int .i64 xa, .pointer (some ⟨w.heap.size, 1, none⟩), .int .i64 xb, .bool false, .bool false, .bool false, .pointer (some ⟨w.heap.size, 1, none⟩), .int .i64 xb, .slice A0 l0.length c0, .int .i64 (inL l0), .bool false, .bool false, undef, .func (.func 43) #[] #[.pointer (some ⟨w.heap.size, 0, none⟩), .pointer (some ⟨BF, 0, none⟩), .pointer (some ⟨BE, 0, none⟩)], .slice A0 l0.length c0, .func (.func 53) #[] #[.pointer (some ⟨T, 0, none⟩)], .agg #[.int .i64 x.r.f0, .string x.r.f1, .int .i64 x.r.f2, .int .i64 x.i, .int .i64 x.o], undef, undef, undef, undef, undef, undef, undef, undef, undef, undef, undef, undef, undef, undef, undef, undef, undef, undef, undef, undef], defers := [] })
    (fun x a' s W W' row hs hg hr => by obtain ⟨Bx, h1, h2⟩ := hs; exact ⟨Bx, (hg.block Bx (Array.getElem?_eq_some_iff.1 h1).1 (fun e => by obtain ⟨_, q, h3, h4⟩ := hr Bx e.symm; rw [h1] at h3; cases h3; cases h4)).trans h1, h2⟩) ?assign ?body ?done ?stop
  case hK =>
    intro pre G W hj
    refine ⟨(hj.but.block _ HZ6.out.2.2.2.2 (fun e => by have e2 : T = BE ∨ T = BF := e; have := HZ6.out; omega)).trans HT6.out, C_same HR6.out fun ad e hp => ?_⟩
    have hlt := HA.out ad e hp
    exact hj.but.block _ (by have := HZ6.out; omega) (fun e2 => by have e3 : ad.block = BE ∨ ad.block = BF := e2; have := HZ6.out; omega)
  case h0 => exact jf_start rfl (by rw [HQE.out]; exact ⟨⟨0, 0, false⟩, ⟨HE6.out, HF6.out⟩, by rw [HM.out, HLE.out]; rfl⟩)
  case assign =>
    intro l pre G x W K hj hK
    gi_wp2
    exact hK _ _ ((KeepsOthers.alloc _ _).from _) ((jf_party HFF.out HQQ.out).below hj (below_alloc (Below.refl _ _) _)) ⟨W.heap.size, Own.heap_new _ _, rfl⟩
  case body =>
    rintro l pre x suf G a' W hLp hj ⟨Bx, hx, rfl⟩
    have hq := hj.q
    rw [HQE.out] at hq
    obtain ⟨m, hsp, hmv⟩ := hq
    have hdr : L.drop pre.length = x :: suf := by rw [hLp]; simp
    rw [hdr] at hmv
    have HMS := Aside0.mk (show spS xa xb suf (meetL xa xb x m) = M from hmv)
    have HNX := Aside0.mk (show L.drop (pre ++ [x]).length = suf by rw [hLp]; simp)
    have bnd := step_bounds l0 0 0 HOK.out (by decide) (by decide) HSM.out.i (by have := HSM.out.o; rw [E_size] at this; exact this) x (by rw [← HLE.out, hLp]; simp)
    obtain ⟨xi0, xo0, xi, xo, xk⟩ := bnd
    have xp := knd_pos xk
    have HJ := Aside0.mk hj
    have hX : W.heap[w.heap.size]? = some (.cells #[.int .i64 xa, .int .i64 xb] 42 (0, 0)) := (hj.but.block _ (by have := HZ6.out; omega) (fun e => by have e2 : w.heap.size = BE ∨ w.heap.size = BF := e; have := HZ6.out; omega)).trans HX3.out
    have hCC := (hj.but.block BC (by have := HZ6.out; omega) (fun e => by have e2 : BC = BE ∨ BC = BF := e; have := HZ6.out; omega)).trans HC6.out
    have HMC := Aside0.mk (meet_c w.heap.size BE BF xa xb x m W hX hsp (by have := HZ6.out; omega) (by have := HZ6.out; omega) (by have := HZ6.out; omega) ha hMb hMa hb0 xi0 (by omega) xo0 (by omega) xp.1)
    have c8 : W.cell? ⟨BC, 0, none⟩ = some (.func (.func 43) #[] #[.pointer (some ⟨w.heap.size, 0, none⟩), .pointer (some ⟨BF, 0, none⟩), .pointer (some ⟨BE, 0, none⟩)]) := by rw [cell_of_row W _ 0 _ _ _ hCC]; rfl
    obtain ⟨x0, x1, x2, x3, x4⟩ := blk_step (s := x) hx
    clear hx hj hsp hmv hdr hLp xk xp xi xo xi0 xo0 hX hCC
    gi_wp2
    refine ⟨trivial, ?_⟩
    refine (callsIn_wide.2 HMC.out).mono ?_
    rintro e w8 ⟨⟨v, rfl⟩, hbs, hsp⟩
    have HBS := Aside0.mk hbs
    have HSP := Aside0.mk hsp
    clear hbs hsp
    gi_wp2
    refine ⟨⟨HBS.out.size, fun k q hk hq hc => (HBS.out.block k (Array.getElem?_eq_some_iff.1 hq).1 (fun e => by have := HFF.out k e; omega)).trans hq⟩, jf_step HFF.out HJ.out HBS.out (by rw [HQE.out]; exact ⟨_, HSP.out, by rw [HNX.out]; exact HMS.out⟩)⟩
  case done =>
    intro D G W hD hj hK
    have hq := hj.q
    rw [HQE.out] at hq
    obtain ⟨m, hsp, hmv⟩ := hq
    rw [List.drop_length] at hmv
    have hmm : m = M := hmv
    subst hmm
    have HSP := Aside0.mk hsp
    have HBUT := Aside0.mk hj.but
    have HKD := Aside0.mk hK
    have HDD := Aside0.mk hD
    have hX3 : Sx w.heap.size xa xb W := (hj.but.block _ (by have := HZ6.out; omega) (fun e => by have e2 : w.heap.size = BE ∨ w.heap.size = BF := e; have := HZ6.out; omega)).trans HX3.out
    have hX4 : Sx (w.heap.size + 1) 0 0 W := (hj.but.block _ (by have := HZ6.out; omega) (fun e => by have e2 : w.heap.size + 1 = BE ∨ w.heap.size + 1 = BF := e; have := HZ6.out; omega)).trans HX4.out
    have HX3W := Aside0.mk hX3
    have HX4W := Aside0.mk hX4
    have HRW := Aside0.mk (show RC W A0 l0 from C_same HR6.out fun ad e hp => by
      have hlt := HA.out ad e hp
      exact HBUT.out.block _ (by have := HZ6.out; omega) (fun e2 => by have e3 : ad.block = BE ∨ ad.block = BF := e2; have := HZ6.out; omega))
    have HBW := Aside0.mk (HBUT.out.below HB6.out (fun k hk => by have e2 : k = BE ∨ k = BF := hk; have := HZ6.out; omega) HB6.out.size)
    have cf : W.cell? ⟨BF, 0, none⟩ = some (.bool m.found) := by rw [cell_of_row W _ 0 _ _ _ hsp.2]; rfl
    clear hj hsp hmv hK hD hX3 hX4
    obtain ⟨m0, m1, mf⟩ := m
    have hRB : w.heap.size + 1 ≠ BE := by have := HZ6.out; omega
    have hRF : w.heap.size + 1 ≠ BF := by have := HZ6.out; omega
    have hBR : BE ≠ w.heap.size + 1 := by have := HZ6.out; omega
    have HDR := Aside0.mk (show D ≠ w.heap.size + 1 by have := HDD.out; have := HZ6.out; omega)
    simp only at cf
    cases mf with
    | true =>
      have HV2 := Aside0.mk (show V = ((m0, m1), true) from HV.out)
      have e0 : W.cell? ⟨BE, 0, none⟩ = some (.int .i64 m0) := by rw [cell_of_row W _ 0 _ _ _ HSP.out.1]; rfl
      have e1 : W.cell? ⟨BE, 1, none⟩ = some (.int .i64 m1) := by rw [cell_of_row W _ 1 _ _ _ HSP.out.1]; rfl
      have c40 := HX4W.out.c0
      have c41 := HX4W.out.c1
      have f40 := HX4W.out.fz 0
      have f41 := HX4W.out.fz 1
      gi_wp2
      have hkd : ((W.setCell ⟨w.heap.size + 1, 0, none⟩ (.int .i64 m0)).setCell ⟨w.heap.size + 1, 1, none⟩ (.int .i64 m1)).heap[D]? = some (.deferred (some [])) := by
        rw [Below.heap_setCell _ ⟨w.heap.size + 1, 1, none⟩ _ D HDR.out, Below.heap_setCell _ ⟨w.heap.size + 1, 0, none⟩ _ D HDR.out]; exact HKD.out
      refine ⟨by simp, .inl ⟨_, _, rfl, run_takeDeferred hkd, ?_⟩⟩
      have hs := blk_put (blk_put HX4W.out 0 (.int .i64 m0) rfl) 1 (.int .i64 m1) rfl
      have hs2 : Sx (w.heap.size + 1) m0 m1 (((W.setCell ⟨w.heap.size + 1, 0, none⟩ (.int .i64 m0)).setCell ⟨w.heap.size + 1, 1, none⟩ (.int .i64 m1)).putObj D (.deferred none)) := (World.putObj_heap_other HDR.out.symm).trans hs
      refine ⟨_, res_span _ _ (w.heap.size + 1) m0 m1 true rfl rfl hs2, ?_, ?_⟩
      · rw [HV2.out]
      exact (below_set' (below_set' HBW.out (by omega)) (by omega)).trans ⟨rfl, rfl, rfl, by simp, fun k hk => World.putObj_heap_other (by have := HDD.out; have := HZ6.out; omega)⟩
    | false =>
      obtain ⟨mv, hmv⟩ : ∃ mv, mv = moveL l0 xa false := ⟨_, rfl⟩
      have HV2 := Aside0.mk (show V = ((mv.1, mv.1), true) by rw [hmv]; exact HV.out)
      have HMW := Aside0.mk (HMV.out W HRW.out)
      rw [← hmv] at HMW
      clear hmv
      obtain ⟨mx, mb⟩ := mv
      simp only at HMW HV2
      have c30 := HX3W.out.c0
      gi_wp2
      refine ⟨trivial, ?_⟩
      refine (callsIn_wide.2 HMW.out).mono ?_
      rintro e W3 ⟨rfl, hb3⟩
      have hx4 := HX4W.out.below hb3
      have hE3 := (hb3.block BE (Array.getElem?_eq_some_iff.1 HSP.out.1).1).trans HSP.out.1
      have HX43 := Aside0.mk hx4
      have HE3 := Aside0.mk hE3
      have HK3 := Aside0.mk ((hb3.block D (Array.getElem?_eq_some_iff.1 HKD.out).1).trans HKD.out)
      have HBW3 := Aside0.mk (HBW.out.trans (hb3.mono HBW.out.size))
      have e0 : W3.cell? ⟨BE, 0, none⟩ = some (.int .i64 m0) := by rw [cell_of_row W3 _ 0 _ _ _ hE3]; rfl
      have e1 : W3.cell? ⟨BE, 1, none⟩ = some (.int .i64 m1) := by rw [cell_of_row W3 _ 1 _ _ _ hE3]; rfl
      have fe0 : W3.frozen? ⟨BE, 0, none⟩ = false := frozen_of_row W3 _ 0 _ _ hE3
      have fe1 : W3.frozen? ⟨BE, 1, none⟩ = false := frozen_of_row W3 _ 1 _ _ hE3
      have c40 := hx4.c0
      have c41 := hx4.c1
      have f40 := hx4.fz 0
      have f41 := hx4.fz 1
      have HDE := Aside0.mk (show D ≠ BE by have := HDD.out; have := HZ6.out; omega)
      clear hb3 hx4 hE3 cf c30
      gi_wp2
      have hkd : ((((W3.setCell ⟨BE, 0, none⟩ (.int .i64 mx)).setCell ⟨BE, 1, none⟩ (.int .i64 mx)).setCell ⟨w.heap.size + 1, 0, none⟩ (.int .i64 mx)).setCell ⟨w.heap.size + 1, 1, none⟩ (.int .i64 mx)).heap[D]? = some (.deferred (some [])) := by
        rw [Below.heap_setCell _ ⟨w.heap.size + 1, 1, none⟩ _ D HDR.out, Below.heap_setCell _ ⟨w.heap.size + 1, 0, none⟩ _ D HDR.out, Below.heap_setCell _ ⟨BE, 1, none⟩ _ D HDE.out, Below.heap_setCell _ ⟨BE, 0, none⟩ _ D HDE.out]; exact HK3.out
      refine ⟨by simp, .inl ⟨_, _, rfl, run_takeDeferred hkd, ?_⟩⟩
      have hs0 : Sx (w.heap.size + 1) 0 0 ((W3.setCell ⟨BE, 0, none⟩ (.int .i64 mx)).setCell ⟨BE, 1, none⟩ (.int .i64 mx)) := (Below.heap_setCell _ ⟨BE, 1, none⟩ _ _ hRB).trans ((Below.heap_setCell _ ⟨BE, 0, none⟩ _ _ hRB).trans HX43.out)
      have hs := blk_put (blk_put hs0 0 (.int .i64 mx) rfl) 1 (.int .i64 mx) rfl
      have hs2 : Sx (w.heap.size + 1) mx mx (((((W3.setCell ⟨BE, 0, none⟩ (.int .i64 mx)).setCell ⟨BE, 1, none⟩ (.int .i64 mx)).setCell ⟨w.heap.size + 1, 0, none⟩ (.int .i64 mx)).setCell ⟨w.heap.size + 1, 1, none⟩ (.int .i64 mx)).putObj D (.deferred none)) := (World.putObj_heap_other HDR.out.symm).trans hs
      refine ⟨_, res_span _ _ (w.heap.size + 1) mx mx true rfl rfl hs2, ?_, ?_⟩
      · rw [HV2.out]
      have hBl : w.heap.size ≤ BE := by have := HZ6.out; omega
      have hbw : Below w.heap.size w ((((W3.setCell ⟨BE, 0, none⟩ (.int .i64 mx)).setCell ⟨BE, 1, none⟩ (.int .i64 mx)).setCell ⟨w.heap.size + 1, 0, none⟩ (.int .i64 mx)).setCell ⟨w.heap.size + 1, 1, none⟩ (.int .i64 mx)) := below_set' (below_set' (below_set' (below_set' HBW3.out hBl) hBl) (Nat.le_succ _)) (Nat.le_succ _)
      exact hbw.trans ⟨rfl, rfl, rfl, by simp, fun k hk => World.putObj_heap_other (by have := HDD.out; have := HZ6.out; omega)⟩
  case stop =>
    rintro D c s W _ h _
    exact h.elim
theorem span_c (A0 : Option Addr) (c0 : Nat) (l0 : List Rn) (xa xb : Int) (w : World) (h : RC w A0 l0) (hc : l0.length ≤ c0) (hl : l0.length ≤ 140737488351232) :
    Calls Try.prog 35 #[.slice A0 l0.length c0, .agg #[.int .i64 xa, .int .i64 xb]] w fun e w' => e = .returned (.tuple #[.agg #[.int .i64 (spanL l0 xa xb).1.1, .int .i64 (spanL l0 xa xb).1.2], .bool (spanL l0 xa xb).2]) ∧ Below w.heap.size w w' := by
  by_cases hall : good l0 = true ∧ 0 ≤ xa ∧ xa ≤ xb ∧ xb ≤ inL l0
  · exact span_yes A0 c0 l0 xa xb w h hc hl hall.1 hall.2.1 hall.2.2.1 hall.2.2.2
  · have hv : spanL l0 xa xb = ((0, 0), false) := by unfold spanL; rw [if_neg hall]
    rw [hv]
    cases hg : good l0 with
    | false => exact span_no1 A0 c0 l0 xa xb w h hc hl hg
    | true =>
      by_cases h1 : xa < 0
      · exact span_no2 A0 c0 l0 xa xb w h hc hl hg h1
      · by_cases h2 : xb < xa
        · exact span_no3 A0 c0 l0 xa xb w h hc hl hg (by omega) h2
        · exact span_no4 A0 c0 l0 xa xb w h hc hl hg (by omega) (by omega) (Int.not_le.1 fun h3 => hall ⟨hg, by omega, by omega, h3⟩)
end Go.Proofs.Ytjbnffadfohofaa.PlaceS
end
-- MERGED YtjbnffadfohofaaPplaceSpan
section
-- Written by wip/myprint.py of this session, over the kit's print.py: a Lean function for each Go function, and the proof that the code comes to it.
namespace Go.Proofs.Ytjbnffadfohofaa.P
open Go.RowKit Go.Proofs.YtjbnffadfohofaaW.PrintWords Go.Proofs.YtjbnffadfohofaaW.PrintLast Go.Proofs.YtjbnffadfohofaaW.PrintMore
attribute [local go_sem] max2_int min2_int max_two min_two max_three min_three max_four min_four   -- for this text's walks alone
set_option linter.unusedVariables false
set_option linter.unusedSimpArgs false

/-! ### place_Span: function 35 -/
-- NEEDS Derived.Test.YtjbnffadfohofaaPlaceS
def place_Span.f (l0 : List (S49)) (a1_0 : Int) (a1_1 : Int) : Option (Int × Int × Bool) := if l0.length ≤ 140737488351232 then some ((PlaceS.spanL l0 a1_0 a1_1).1.1, (PlaceS.spanL l0 a1_0 a1_1).1.2, (PlaceS.spanL l0 a1_0 a1_1).2) else none
theorem place_Span.calls (A0 : Option Addr) (c0 : Nat) (l0 : List (S49)) (a1_0 : Int) (a1_1 : Int) (r1 : Int) (r2 : Int) (r3 : Bool) (w : World) (hr0 : Kd.C k49 w A0 l0.length l0) (hc0 : l0.length ≤ c0) (h : place_Span.f l0 a1_0 a1_1 = some (r1, r2, r3)) :
    Calls Try.prog 35 #[.slice A0 l0.length c0, .agg #[.int .i64 a1_0, .int .i64 a1_1]] w fun e w' => e = .returned (.tuple #[.agg #[.int .i64 r1, .int .i64 r2], .bool r3]) ∧ Below w.heap.size w w' := by
  unfold place_Span.f at h
  by_cases hl : l0.length ≤ 140737488351232
  · rw [if_pos hl] at h
    have h2 := Option.some.inj h
    injection h2 with e1 e2
    injection e2 with e2 e3
    have := PlaceS.span_c A0 c0 l0 a1_0 a1_1 w hr0 hc0 hl
    rw [e1, e2, e3] at this
    exact this
  · rw [if_neg hl] at h; cases h

end Go.Proofs.Ytjbnffadfohofaa.P
end
-- MERGED YtjbnffadfohofaaPplaceOver
section
-- Written by wip/myprint.py of this session, over the kit's print.py: a Lean function for each Go function, and the proof that the code comes to it.
namespace Go.Proofs.Ytjbnffadfohofaa.P
open Go.RowKit Go.Proofs.YtjbnffadfohofaaW.PrintWords Go.Proofs.YtjbnffadfohofaaW.PrintLast Go.Proofs.YtjbnffadfohofaaW.PrintMore
attribute [local go_sem] max2_int min2_int max_two min_two max_three min_three max_four min_four   -- for this text's walks alone
set_option linter.unusedVariables false
set_option linter.unusedSimpArgs false

/-! ### place_Over: function 23 -/
def place_Over.l0 : Nat → List (List (S49)) → Int → Int → Int → Int → Option (Int × Int × Bool)
  | 0, _, _, _, _, _ => none
  | k + 1, x10, x11, x12, x177000, x177001 => if x12 < x11 then (if 0 ≤ x12 then (if x12 < (x10.length : Int) then ((place_Span.f (rd_L3 x10 x12) x177000 x177001).bind fun bt179 => (if bt179.2.2 = true then (place_Over.l0 k x10 x11 (wrap64 (x12 + 1)) bt179.1 bt179.2.1) else (some (0, 0, false)))) else (none)) else (none)) else (some (x177000, x177001, true))
def place_Over.f (k : Nat) (l0 : List (List (S49))) (a1_0 : Int) (a1_1 : Int) : Option (Int × Int × Bool) := place_Over.l0 k l0 (l0.length : Int) 0 a1_0 a1_1
theorem place_Over.mono_l : ∀ k, (∀ y0 y1 y2 y3 y4, LeO (place_Over.l0 k y0 y1 y2 y3 y4) (place_Over.l0 (k + 1) y0 y1 y2 y3 y4))
  | 0 => fun _ _ _ _ _ r h => by simp [place_Over.l0] at h
  | k + 1 => by
    have ih0 := place_Over.mono_l k
    · intro y0 y1 y2 y3 y4
      unfold place_Over.l0
      repeat' first | (with_reducible exact ih0 _ _ _ _ _) | (with_reducible exact LeO.refl _) | (with_reducible refine LeO.ite ?_ ?_) | (with_reducible refine LeO.bind ?_ (fun _ => ?_))
theorem place_Over.mono : ∀ a0 a1 a2 k, LeO (place_Over.f k a0 a1 a2) (place_Over.f (k + 1) a0 a1 a2) := by
  intro a0 a1 a2 k
  have ih0 := place_Over.mono_l k
  unfold place_Over.f
  repeat' (with_reducible exact ih0 _ _ _ _ _)
set_option maxHeartbeats 8000000 in
set_option maxRecDepth 100000 in
theorem place_Over.calls (k : Nat) (A0 : Option Addr) (c0 : Nat) (l0 : List (List (S49))) (a1_0 : Int) (a1_1 : Int) (r1 : Int) (r2 : Int) (r3 : Bool) (w : World) (hr0 : Kd.C (Kd.slice 49 k49) w A0 l0.length l0) (hc0 : l0.length ≤ c0) (h : place_Over.f k l0 a1_0 a1_1 = some (r1, r2, r3)) :
    Calls Try.prog 23 #[.slice A0 l0.length c0, .agg #[.int .i64 a1_0, .int .i64 a1_1]] w fun e w' => e = .returned (.tuple #[.agg #[.int .i64 r1, .int .i64 r2], .bool r3]) ∧ Below w.heap.size w w' := by
  have hu42 := Try.underlying42
  have HR0 := Aside0.mk hr0
  have HC0 := Aside0.mk hc0
  clear hr0 hc0
  have HB := Aside0.mk (Below.refl w.heap.size w)
  have H : (place_Over.l0 k l0 (l0.length : Int) 0 a1_0 a1_1) = some (r1, r2, r3) := h
  clear h
  have H' := Aside0.mk H
  clear H
  go_enter Try.func23, Try.ntmps23
  go_wp2_with (first | ((with_reducible refine gate_dst (N := 3) rfl ?_); refine box_event ?hg (N := 3) ?hd (cs := #[.int .i64 a1_0, .int .i64 a1_1]) (t := 42) ?hr ?_; (case hd => rfl); (case hg => rfl); (case hr => (go_simp; done)); intro gb176 hg w3 hbox hb; have n0_ := Aside0.mk (below_step (by repeat ((with_reducible (exact HB.out)))) hb); have n1_ := Aside0.mk (hbox); have n2_ := Aside0.mk ((by rw [hg]; exact (below_size (by repeat ((with_reducible (exact HB.out))))) : w.heap.size ≤ gb176)); have n3_ := Aside0.mk ((by rw [hg]; exact (below_size (by repeat ((with_reducible (exact HB.out))))) : w.heap.size ≤ gb176)); clear HB; have HB := n0_; have BK176 := n1_; have GW176 := n2_; have GE176 := n3_; clear n0_ n1_ n2_ n3_; clear hb hbox hg) | ((with_reducible refine gate_dst (N := 4) rfl ?_); refine box_event ?hg (N := 4) ?hd (cs := #[.int .i64 0, .int .i64 0]) (t := 42) ?hr ?_; (case hd => rfl); (case hg => rfl); (case hr => (go_simp; done)); intro gb177 hg w4 hbox hb; have n0_ := Aside0.mk (blk_below (g := gb176) (o := .cells #[.int .i64 a1_0, .int .i64 a1_1] 42 (0, 0)) (by (with_reducible repeat ((refine blk_drew ?_))); exact BK176.out) hb); have n1_ := Aside0.mk (below_step (by repeat ((with_reducible (exact HB.out)))) hb); have n2_ := Aside0.mk (hbox); have n3_ := Aside0.mk ((by rw [hg]; exact (below_size (by repeat ((with_reducible (exact HB.out))))) : w.heap.size ≤ gb177)); have n4_ := Aside0.mk ((by rw [hg]; exact (below_size (by repeat ((with_reducible (exact HB.out))))) : w.heap.size ≤ gb177)); have n5_ := Aside0.mk ((by rw [hg]; exact Nat.ne_of_lt (blk_lt (g := gb176) (o := .cells #[.int .i64 a1_0, .int .i64 a1_1] 42 (0, 0)) (by (with_reducible repeat ((refine blk_drew ?_))); exact BK176.out)) : gb176 ≠ gb177)); have n6_ := Aside0.mk ((by rw [hg]; exact Nat.ne_of_gt (blk_lt (g := gb176) (o := .cells #[.int .i64 a1_0, .int .i64 a1_1] 42 (0, 0)) (by (with_reducible repeat ((refine blk_drew ?_))); exact BK176.out)) : gb177 ≠ gb176)); clear BK176; clear HB; have BK176 := n0_; have HB := n1_; have BK177 := n2_; have GW177 := n3_; have GE177 := n4_; have NB176_177 := n5_; have NB177_176 := n6_; clear n0_ n1_ n2_ n3_ n4_ n5_ n6_; clear hb hbox hg))
  go_loopg [12] k (fun kq v12 w' => ∃ (x12_1 : Int) (x177000_1 : Int) (x177001_1 : Int) (x178000_1 : Int) (x178001_1 : Int), v12 = .int .i64 x12_1 ∧ Aside0 (place_Over.l0 kq l0 (l0.length : Int) x12_1 x177000_1 x177001_1 = some (r1, r2, r3)) ∧ Aside0 (kq ≤ k) ∧ Aside0 (w'.heap[gb176]? = some (.cells #[.int .i64 x177000_1, .int .i64 x177001_1] 42 (0, 0))) ∧ Aside0 (w'.heap[gb177]? = some (.cells #[.int .i64 x178000_1, .int .i64 x178001_1] 42 (0, 0))) ∧ Aside0 (Below w.heap.size w w'))
  case atStart => exact ⟨(0), (a1_0), (a1_1), (0), (0), (by (rfl)), H', ⟨Nat.le_refl _⟩, ⟨by (with_reducible repeat ((refine blk_drew ?_))); exact BK176.out⟩, ⟨by (with_reducible repeat ((refine blk_drew ?_))); exact BK177.out⟩, ⟨by repeat ((with_reducible (exact HB.out)))⟩⟩
  case round =>
    clear H'
    try clear c2
    try clear p2
    obtain ⟨x12_1, x177000_1, x177001_1, x178000_1, x178001_1, rfl, HA, HK1, BK176, BK177, HB⟩ := hrel
    cases gk with
    | zero => exact absurd HA.out (by simp [place_Over.l0])
    | succ k1 =>
      have H := HA.out
      clear HA
      simp only [place_Over.l0] at H
      by_cases c5 : x12_1 < (l0.length : Int)
      · rw [if_pos c5] at H
        have c5b0 : decide (x12_1 < (l0.length : Int)) = true := decide_eq_true c5
        clear c5
        by_cases c6 : 0 ≤ x12_1
        · rw [if_pos c6] at H
          have c6b0 : decide (0 ≤ x12_1) = true := decide_eq_true c6
          clear c6
          by_cases c7 : x12_1 < (l0.length : Int)
          · rw [if_pos c7] at H
            have c7b0 : decide (x12_1 < (l0.length : Int)) = true := decide_eq_true c7
            clear c7
            replace H := Option.bind_eq_some_iff.mp H
            obtain ⟨⟨t179, t180, t181⟩, A80, H⟩ := H
            replace H : (if t181 = true then (place_Over.l0 k1 l0 (l0.length : Int) (wrap64 (x12_1 + 1)) t179 t180) else (some (0, 0, false))) = some (r1, r2, r3) := H
            have A8 := Aside0.mk A80
            clear A80
            by_cases c9 : t181 = true
            · subst c9
              have H1 : (place_Over.l0 k1 l0 (l0.length : Int) (wrap64 (x12_1 + 1)) t179 t180) = some (r1, r2, r3) := by rw [if_pos rfl] at H; exact H
              clear H
              have H := H1
              clear H1
              have H' := Aside0.mk H
              clear H
              have p178 : 0 ≤ (x12_1 : Int) := of_decide_eq_true (by (with_reducible assumption))
              have q178 : x12_1 < (l0.length : Int) := of_decide_eq_true (by (with_reducible assumption))
              obtain ⟨ad178, A178_0, c178_0, e178, hx178_0, hl178_0, hi178_0⟩ := at_L3 HR0.out x12_1 p178 q178
              cases e178
              replace hx178_0 := (HB.out.cell (World.block_lt_of_cell? w _ hx178_0)).trans hx178_0
              have HR178_0 := Aside0.mk hi178_0
              have HC178_0 := Aside0.mk hl178_0
              clear hi178_0 hl178_0
              replace p178 := eq_true p178
              replace q178 := eq_true q178
              have hnb10 := NB176_177.out
              have hnc10 := NB177_176.out
              have hcz11_0 : wr.cell? ⟨gb176, 0, none⟩ = some (.int .i64 x177000_1) := (blk_cell BK176.out 0).trans rfl
              have hcz11_1 : wr.cell? ⟨gb176, 1, none⟩ = some (.int .i64 x177001_1) := (blk_cell BK176.out 1).trans rfl
              have hfz11_0 := blk_frozen BK176.out 0
              have hfz11_1 := blk_frozen BK176.out 1
              go_wp2_with (first | ((with_reducible refine gate_callee (f := 35) rfl ?_); refine goesL_ (some 19) rfl rfl Try.func35 (by kernel_rfl) rfl #[.slice A178_0 (rd_L3 l0 x12_1).length c178_0, .agg #[.int .i64 x177000_1, .int .i64 x177001_1]] rfl (by (try simp only [List.map_toArray, List.map_cons, List.map_nil]); (rfl)) ?_; (with_reducible refine (place_Span.calls _ _ (rd_L3 l0 x12_1) x177000_1 x177001_1 t179 t180 true _ ?side1 ?side2 A8.out).mono ?_); (case side1 => repeat ((exact (Kd.C_below HR178_0.out HB.out)))); (case side2 => exact HC178_0.out); rintro e w12 ⟨rfl, hb⟩; refine ⟨_, rfl, ?_⟩; have n0_ := Aside0.mk (blk_below (g := gb176) (o := .cells #[.int .i64 x177000_1, .int .i64 x177001_1] 42 (0, 0)) (by (with_reducible repeat ((refine blk_drew ?_))); exact BK176.out) hb); have n1_ := Aside0.mk (blk_below (g := gb177) (o := .cells #[.int .i64 x178000_1, .int .i64 x178001_1] 42 (0, 0)) (by (with_reducible repeat ((refine blk_drew ?_))); exact BK177.out) hb); have n2_ := Aside0.mk (below_step (by repeat ((with_reducible (exact HB.out)))) hb); clear BK176; clear BK177; clear HB; have BK176 := n0_; have BK177 := n1_; have HB := n2_; clear n0_ n1_ n2_; (try clear hb); (try clear hb2); (try clear hk); (try clear hi)) | ((with_reducible refine gate_dst (N := 8) rfl ?_); refine box_event ?hg (N := 8) ?hd (cs := #[.int .i64 0, .int .i64 0]) (t := 42) ?hr ?_; (case hd => rfl); (case hg => rfl); (case hr => (go_simp; done)); intro gb182 hg w13 hbox hb; have n0_ := Aside0.mk (blk_below (g := gb176) (o := .cells #[.int .i64 x177000_1, .int .i64 x177001_1] 42 (0, 0)) (by (with_reducible repeat ((refine blk_drew ?_))); exact BK176.out) hb); have n1_ := Aside0.mk (blk_below (g := gb177) (o := .cells #[.int .i64 x178000_1, .int .i64 x178001_1] 42 (0, 0)) (by (with_reducible repeat ((refine blk_drew ?_))); exact BK177.out) hb); have n2_ := Aside0.mk (below_step (by repeat ((with_reducible (exact HB.out)))) hb); have n3_ := Aside0.mk (hbox); have n4_ := Aside0.mk ((by rw [hg]; exact (below_size (by repeat ((with_reducible (exact HB.out))))) : w.heap.size ≤ gb182)); have n5_ := Aside0.mk ((by rw [hg]; exact (below_size (by repeat ((with_reducible (exact HB.out))))) : w.heap.size ≤ gb182)); have n6_ := Aside0.mk ((by rw [hg]; exact Nat.ne_of_lt (blk_lt (g := gb176) (o := .cells #[.int .i64 x177000_1, .int .i64 x177001_1] 42 (0, 0)) (by (with_reducible repeat ((refine blk_drew ?_))); exact BK176.out)) : gb176 ≠ gb182)); have n7_ := Aside0.mk ((by rw [hg]; exact Nat.ne_of_gt (blk_lt (g := gb176) (o := .cells #[.int .i64 x177000_1, .int .i64 x177001_1] 42 (0, 0)) (by (with_reducible repeat ((refine blk_drew ?_))); exact BK176.out)) : gb182 ≠ gb176)); have n8_ := Aside0.mk ((by rw [hg]; exact Nat.ne_of_lt (blk_lt (g := gb177) (o := .cells #[.int .i64 x178000_1, .int .i64 x178001_1] 42 (0, 0)) (by (with_reducible repeat ((refine blk_drew ?_))); exact BK177.out)) : gb177 ≠ gb182)); have n9_ := Aside0.mk ((by rw [hg]; exact Nat.ne_of_gt (blk_lt (g := gb177) (o := .cells #[.int .i64 x178000_1, .int .i64 x178001_1] 42 (0, 0)) (by (with_reducible repeat ((refine blk_drew ?_))); exact BK177.out)) : gb182 ≠ gb177)); clear BK176; clear BK177; clear HB; have BK176 := n0_; have BK177 := n1_; have HB := n2_; have BK182 := n3_; have GW182 := n4_; have GE182 := n5_; have NB176_182 := n6_; have NB182_176 := n7_; have NB177_182 := n8_; have NB182_177 := n9_; clear n0_ n1_ n2_ n3_ n4_ n5_ n6_ n7_ n8_ n9_; clear hb hbox hg; have hnb14 := NB182_176.out; have hnc14 := NB176_182.out; have hnb15 := NB182_177.out; have hnc15 := NB177_182.out; have hcz16_0 : w13.cell? ⟨gb182, 0, none⟩ = some (.int .i64 0) := (blk_cell BK182.out 0).trans rfl; have hcz16_1 : w13.cell? ⟨gb182, 1, none⟩ = some (.int .i64 0) := (blk_cell BK182.out 1).trans rfl; have hfz16_0 := blk_frozen BK182.out 0; have hfz16_1 := blk_frozen BK182.out 1; have hcz17_0 : w13.cell? ⟨gb176, 0, none⟩ = some (.int .i64 x177000_1) := (blk_cell BK176.out 0).trans rfl; have hcz17_1 : w13.cell? ⟨gb176, 1, none⟩ = some (.int .i64 x177001_1) := (blk_cell BK176.out 1).trans rfl; have hfz17_0 := blk_frozen BK176.out 0; have hfz17_1 := blk_frozen BK176.out 1))
              go_roundg k1
              case measure => have := HK1.out; omega
              case rel => exact ⟨(wrap64 (x12_1 + 1)), (t179), (t180), (x178000_1), (x178001_1), (by (rfl)), H', ⟨by have := HK1.out; omega⟩, ⟨by (with_reducible repeat ((refine blk_drew ?_))); refine blk_put (cs := #[.int .i64 t179, .int .i64 x177001_1]) ?_ 1 _ rfl; (with_reducible repeat ((refine blk_drew ?_))); refine blk_put (cs := #[.int .i64 x177000_1, .int .i64 x177001_1]) ?_ 0 _ rfl; (with_reducible repeat ((refine blk_drew ?_))); refine blk_far ?_ NB176_182.out _; (with_reducible repeat ((refine blk_drew ?_))); refine blk_far ?_ NB176_182.out _; (with_reducible repeat ((refine blk_drew ?_))); exact BK176.out⟩, ⟨by (with_reducible repeat ((refine blk_drew ?_))); refine blk_far ?_ NB177_176.out _; (with_reducible repeat ((refine blk_drew ?_))); refine blk_far ?_ NB177_176.out _; (with_reducible repeat ((refine blk_drew ?_))); refine blk_far ?_ NB177_182.out _; (with_reducible repeat ((refine blk_drew ?_))); refine blk_far ?_ NB177_182.out _; (with_reducible repeat ((refine blk_drew ?_))); exact BK177.out⟩, ⟨by repeat ((with_reducible first | exact HB.out | refine below_set ?_ GE176.out | refine below_set ?_ GE182.out))⟩⟩
            · replace c9 := Bool.eq_false_iff.mpr c9
              subst c9
              have H1 : (some (0, 0, false)) = some (r1, r2, r3) := by rw [if_neg (show ¬ (false = true) by decide)] at H; exact H
              clear H
              have H := H1
              clear H1
              simp only [Option.some.injEq, Prod.mk.injEq] at H
              obtain ⟨rfl, rfl, rfl⟩ := H
              have p178 : 0 ≤ (x12_1 : Int) := of_decide_eq_true (by (with_reducible assumption))
              have q178 : x12_1 < (l0.length : Int) := of_decide_eq_true (by (with_reducible assumption))
              obtain ⟨ad178, A178_0, c178_0, e178, hx178_0, hl178_0, hi178_0⟩ := at_L3 HR0.out x12_1 p178 q178
              cases e178
              replace hx178_0 := (HB.out.cell (World.block_lt_of_cell? w _ hx178_0)).trans hx178_0
              have HR178_0 := Aside0.mk hi178_0
              have HC178_0 := Aside0.mk hl178_0
              clear hi178_0 hl178_0
              replace p178 := eq_true p178
              replace q178 := eq_true q178
              have hnb18 := NB176_177.out
              have hnc18 := NB177_176.out
              have hcz19_0 : wr.cell? ⟨gb176, 0, none⟩ = some (.int .i64 x177000_1) := (blk_cell BK176.out 0).trans rfl
              have hcz19_1 : wr.cell? ⟨gb176, 1, none⟩ = some (.int .i64 x177001_1) := (blk_cell BK176.out 1).trans rfl
              have hfz19_0 := blk_frozen BK176.out 0
              have hfz19_1 := blk_frozen BK176.out 1
              go_wp2_with (first | ((with_reducible refine gate_callee (f := 35) rfl ?_); refine goesL_ (some 19) rfl rfl Try.func35 (by kernel_rfl) rfl #[.slice A178_0 (rd_L3 l0 x12_1).length c178_0, .agg #[.int .i64 x177000_1, .int .i64 x177001_1]] rfl (by (try simp only [List.map_toArray, List.map_cons, List.map_nil]); (rfl)) ?_; (with_reducible refine (place_Span.calls _ _ (rd_L3 l0 x12_1) x177000_1 x177001_1 t179 t180 false _ ?side1 ?side2 A8.out).mono ?_); (case side1 => repeat ((exact (Kd.C_below HR178_0.out HB.out)))); (case side2 => exact HC178_0.out); rintro e w20 ⟨rfl, hb⟩; refine ⟨_, rfl, ?_⟩; have n0_ := Aside0.mk (blk_below (g := gb176) (o := .cells #[.int .i64 x177000_1, .int .i64 x177001_1] 42 (0, 0)) (by (with_reducible repeat ((refine blk_drew ?_))); exact BK176.out) hb); have n1_ := Aside0.mk (blk_below (g := gb177) (o := .cells #[.int .i64 x178000_1, .int .i64 x178001_1] 42 (0, 0)) (by (with_reducible repeat ((refine blk_drew ?_))); exact BK177.out) hb); have n2_ := Aside0.mk (below_step (by repeat ((with_reducible (exact HB.out)))) hb); clear BK176; clear BK177; clear HB; have BK176 := n0_; have BK177 := n1_; have HB := n2_; clear n0_ n1_ n2_; (try clear hb); (try clear hb2); (try clear hk); (try clear hi)) | ((with_reducible refine gate_dst (N := 8) rfl ?_); refine box_event ?hg (N := 8) ?hd (cs := #[.int .i64 0, .int .i64 0]) (t := 42) ?hr ?_; (case hd => rfl); (case hg => rfl); (case hr => (go_simp; done)); intro gb182 hg w21 hbox hb; have n0_ := Aside0.mk (blk_below (g := gb176) (o := .cells #[.int .i64 x177000_1, .int .i64 x177001_1] 42 (0, 0)) (by (with_reducible repeat ((refine blk_drew ?_))); exact BK176.out) hb); have n1_ := Aside0.mk (blk_below (g := gb177) (o := .cells #[.int .i64 x178000_1, .int .i64 x178001_1] 42 (0, 0)) (by (with_reducible repeat ((refine blk_drew ?_))); exact BK177.out) hb); have n2_ := Aside0.mk (below_step (by repeat ((with_reducible (exact HB.out)))) hb); have n3_ := Aside0.mk (hbox); have n4_ := Aside0.mk ((by rw [hg]; exact (below_size (by repeat ((with_reducible (exact HB.out))))) : w.heap.size ≤ gb182)); have n5_ := Aside0.mk ((by rw [hg]; exact (below_size (by repeat ((with_reducible (exact HB.out))))) : w.heap.size ≤ gb182)); have n6_ := Aside0.mk ((by rw [hg]; exact Nat.ne_of_lt (blk_lt (g := gb176) (o := .cells #[.int .i64 x177000_1, .int .i64 x177001_1] 42 (0, 0)) (by (with_reducible repeat ((refine blk_drew ?_))); exact BK176.out)) : gb176 ≠ gb182)); have n7_ := Aside0.mk ((by rw [hg]; exact Nat.ne_of_gt (blk_lt (g := gb176) (o := .cells #[.int .i64 x177000_1, .int .i64 x177001_1] 42 (0, 0)) (by (with_reducible repeat ((refine blk_drew ?_))); exact BK176.out)) : gb182 ≠ gb176)); have n8_ := Aside0.mk ((by rw [hg]; exact Nat.ne_of_lt (blk_lt (g := gb177) (o := .cells #[.int .i64 x178000_1, .int .i64 x178001_1] 42 (0, 0)) (by (with_reducible repeat ((refine blk_drew ?_))); exact BK177.out)) : gb177 ≠ gb182)); have n9_ := Aside0.mk ((by rw [hg]; exact Nat.ne_of_gt (blk_lt (g := gb177) (o := .cells #[.int .i64 x178000_1, .int .i64 x178001_1] 42 (0, 0)) (by (with_reducible repeat ((refine blk_drew ?_))); exact BK177.out)) : gb182 ≠ gb177)); clear BK176; clear BK177; clear HB; have BK176 := n0_; have BK177 := n1_; have HB := n2_; have BK182 := n3_; have GW182 := n4_; have GE182 := n5_; have NB176_182 := n6_; have NB182_176 := n7_; have NB177_182 := n8_; have NB182_177 := n9_; clear n0_ n1_ n2_ n3_ n4_ n5_ n6_ n7_ n8_ n9_; clear hb hbox hg; have hnb22 := NB182_176.out; have hnc22 := NB176_182.out; have hnb23 := NB182_177.out; have hnc23 := NB177_182.out; have hcz24_0 : w21.cell? ⟨gb182, 0, none⟩ = some (.int .i64 0) := (blk_cell BK182.out 0).trans rfl; have hcz24_1 : w21.cell? ⟨gb182, 1, none⟩ = some (.int .i64 0) := (blk_cell BK182.out 1).trans rfl; have hfz24_0 := blk_frozen BK182.out 0; have hfz24_1 := blk_frozen BK182.out 1; have hcz25_0 : w21.cell? ⟨gb177, 0, none⟩ = some (.int .i64 x178000_1) := (blk_cell BK177.out 0).trans rfl; have hcz25_1 : w21.cell? ⟨gb177, 1, none⟩ = some (.int .i64 x178001_1) := (blk_cell BK177.out 1).trans rfl; have hfz25_0 := blk_frozen BK177.out 0; have hfz25_1 := blk_frozen BK177.out 1))
              refine bodyPost_ret (results_ct rfl _ _ gb177 42 #[.int .i64 0, .int .i64 0] (0, 0) _ rfl (by (with_reducible repeat ((refine blk_drew ?_))); refine blk_put (cs := #[.int .i64 0, .int .i64 x178001_1]) ?_ 1 _ rfl; (with_reducible repeat ((refine blk_drew ?_))); refine blk_put (cs := #[.int .i64 x178000_1, .int .i64 x178001_1]) ?_ 0 _ rfl; (with_reducible repeat ((refine blk_drew ?_))); refine blk_far ?_ NB177_182.out _; (with_reducible repeat ((refine blk_drew ?_))); refine blk_far ?_ NB177_182.out _; (with_reducible repeat ((refine blk_drew ?_))); exact BK177.out) Try.underlying42 rfl (by kernel_rfl)) rfl ?_
              exact ⟨by (rfl), by repeat ((with_reducible first | exact HB.out | refine below_set ?_ GE177.out | refine below_set ?_ GE182.out))⟩
          · rw [if_neg c7] at H
            exact absurd H (by simp)
        · rw [if_neg c6] at H
          exact absurd H (by simp)
      · rw [if_neg c5] at H
        have c5b0 : decide (x12_1 < (l0.length : Int)) = false := decide_eq_false c5
        clear c5
        simp only [Option.some.injEq, Prod.mk.injEq] at H
        obtain ⟨rfl, rfl, rfl⟩ := H
        have hnb26 := NB176_177.out
        have hnc26 := NB177_176.out
        have hcz27_0 : wr.cell? ⟨gb176, 0, none⟩ = some (.int .i64 x177000_1) := (blk_cell BK176.out 0).trans rfl
        have hcz27_1 : wr.cell? ⟨gb176, 1, none⟩ = some (.int .i64 x177001_1) := (blk_cell BK176.out 1).trans rfl
        have hfz27_0 := blk_frozen BK176.out 0
        have hfz27_1 := blk_frozen BK176.out 1
        have hcz28_0 : wr.cell? ⟨gb177, 0, none⟩ = some (.int .i64 x178000_1) := (blk_cell BK177.out 0).trans rfl
        have hcz28_1 : wr.cell? ⟨gb177, 1, none⟩ = some (.int .i64 x178001_1) := (blk_cell BK177.out 1).trans rfl
        have hfz28_0 := blk_frozen BK177.out 0
        have hfz28_1 := blk_frozen BK177.out 1
        go_wp2
        refine bodyPost_ret (results_ct rfl _ _ gb177 42 #[.int .i64 x177000_1, .int .i64 x177001_1] (0, 0) _ rfl (by (with_reducible repeat ((refine blk_drew ?_))); refine blk_put (cs := #[.int .i64 x177000_1, .int .i64 x178001_1]) ?_ 1 _ rfl; (with_reducible repeat ((refine blk_drew ?_))); refine blk_put (cs := #[.int .i64 x178000_1, .int .i64 x178001_1]) ?_ 0 _ rfl; (with_reducible repeat ((refine blk_drew ?_))); exact BK177.out) Try.underlying42 rfl (by kernel_rfl)) rfl ?_
        exact ⟨by (rfl), by repeat ((with_reducible first | exact HB.out | refine below_set ?_ GE177.out))⟩

end Go.Proofs.Ytjbnffadfohofaa.P
end
-- MERGED YtjbnffadfohofaaPcarryMove
section
-- Written by wip/myprint.py of this session, over the kit's print.py: a Lean function for each Go function, and the proof that the code comes to it.
namespace Go.Proofs.Ytjbnffadfohofaa.P
open Go.RowKit Go.Proofs.YtjbnffadfohofaaW.PrintWords Go.Proofs.YtjbnffadfohofaaW.PrintLast Go.Proofs.YtjbnffadfohofaaW.PrintMore
attribute [local go_sem] max2_int min2_int max_two min_two max_three min_three max_four min_four   -- for this text's walks alone
set_option linter.unusedVariables false
set_option linter.unusedSimpArgs false

/-! ### carry_Move: function 9 -/
def carry_Move.l0 : Nat → List (List (S49)) → List (S44) → List (S44) → Int → Int → Option ((List (S44)) × Bool)
  | 0, _, _, _, _, _ => none
  | k + 1, x1, x4, x10, x11, x12 => if x12 < x11 then (if 0 ≤ x12 then (if x12 < (x10.length : Int) then ((place_Over.f k x1 ((rd_T44 x10 x12).f0.f0) ((rd_T44 x10 x12).f0.f1)).bind fun bt185 => (if bt185.2.2 = true then (if x4.length < 5864062014805 then (carry_Move.l0 k x1 (x4 ++ [(⟨(⟨bt185.1, bt185.2.1⟩ : S42), (rd_T44 x10 x12).f1⟩ : S44)]) x10 x11 (wrap64 (x12 + 1))) else (none)) else (some (([] : List (S44)), false)))) else (none)) else (none)) else (some (x4, true))
def carry_Move.f (k : Nat) (l0 : List (S44)) (l1 : List (List (S49))) : Option ((List (S44)) × Bool) := carry_Move.l0 k l1 ([] : List (S44)) l0 (l0.length : Int) 0
theorem carry_Move.mono_l : ∀ k, (∀ y0 y1 y2 y3 y4, LeO (carry_Move.l0 k y0 y1 y2 y3 y4) (carry_Move.l0 (k + 1) y0 y1 y2 y3 y4))
  | 0 => fun _ _ _ _ _ r h => by simp [carry_Move.l0] at h
  | k + 1 => by
    have ih0 := carry_Move.mono_l k
    · intro y0 y1 y2 y3 y4
      unfold carry_Move.l0
      repeat' first | (with_reducible exact ih0 _ _ _ _ _) | (with_reducible exact place_Over.mono _ _ _ _) | (with_reducible exact LeO.refl _) | (with_reducible refine LeO.ite ?_ ?_) | (with_reducible refine LeO.bind ?_ (fun _ => ?_))
theorem carry_Move.mono : ∀ a0 a1 k, LeO (carry_Move.f k a0 a1) (carry_Move.f (k + 1) a0 a1) := by
  intro a0 a1 k
  have ih0 := carry_Move.mono_l k
  unfold carry_Move.f
  repeat' (with_reducible exact ih0 _ _ _ _ _)
set_option maxHeartbeats 8000000 in
set_option maxRecDepth 100000 in
theorem carry_Move.calls (k : Nat) (A0 : Option Addr) (c0 : Nat) (l0 : List (S44)) (A1 : Option Addr) (c1 : Nat) (l1 : List (List (S49))) (r1 : List (S44)) (r2 : Bool) (w : World) (hr0 : Kd.C k44 w A0 l0.length l0) (hc0 : l0.length ≤ c0) (hr1 : Kd.C (Kd.slice 49 k49) w A1 l1.length l1) (hc1 : l1.length ≤ c1) (h : carry_Move.f k l0 l1 = some (r1, r2)) :
    Calls Try.prog 9 #[.slice A0 l0.length c0, .slice A1 l1.length c1] w fun e w' => ∃ v0_ : Value, e = .returned (.tuple #[v0_, .bool r2]) ∧ Kd.R k44 44 w' w.heap.size (fun _ => True) v0_ r1 ∧ Below w.heap.size w w' := by
  have hu44 := Try.underlying44
  have hu42 := Try.underlying42
  have HR0 := Aside0.mk hr0
  have HC0 := Aside0.mk hc0
  clear hr0 hc0
  have HR1 := Aside0.mk hr1
  have HC1 := Aside0.mk hc1
  clear hr1 hc1
  have HB := Aside0.mk (Below.refl w.heap.size w)
  have H : (carry_Move.l0 k l1 ([] : List (S44)) l0 (l0.length : Int) 0) = some (r1, r2) := h
  clear h
  have H' := Aside0.mk H
  clear H
  go_enter Try.func9, Try.ntmps9
  go_wp2
  go_loopg [4, 12] k (fun kq v4 v12 w' => ∃ (x4_1 : List (S44)) (x12_1 : Int), v12 = .int .i64 x12_1 ∧ Aside0 (carry_Move.l0 kq l1 x4_1 l0 (l0.length : Int) x12_1 = some (r1, r2)) ∧ Aside0 (kq ≤ k) ∧ Aside0 (Kd.R k44 44 w' w.heap.size (fun _ => True) v4 x4_1) ∧ Aside0 (Below w.heap.size w w'))
  case atStart => exact ⟨(([] : List (S44))), (0), (by (rfl)), H', ⟨Nat.le_refl _⟩, ⟨by (exact Kd.R_nil _ _ _ _ _)⟩, ⟨by repeat ((with_reducible (exact HB.out)))⟩⟩
  case round =>
    clear H'
    try clear c1
    try clear p2
    obtain ⟨x4_1, x12_1, rfl, HA, HK1, HO_4, HB⟩ := hrel
    cases gk with
    | zero => exact absurd HA.out (by simp [carry_Move.l0])
    | succ k1 =>
      have H := HA.out
      clear HA
      simp only [carry_Move.l0] at H
      by_cases c3 : x12_1 < (l0.length : Int)
      · rw [if_pos c3] at H
        have c3b0 : decide (x12_1 < (l0.length : Int)) = true := decide_eq_true c3
        clear c3
        by_cases c4 : 0 ≤ x12_1
        · rw [if_pos c4] at H
          have c4b0 : decide (0 ≤ x12_1) = true := decide_eq_true c4
          clear c4
          by_cases c5 : x12_1 < (l0.length : Int)
          · rw [if_pos c5] at H
            have c5b0 : decide (x12_1 < (l0.length : Int)) = true := decide_eq_true c5
            clear c5
            replace H := Option.bind_eq_some_iff.mp H
            obtain ⟨⟨t185, t186, t187⟩, A60, H⟩ := H
            replace H : (if t187 = true then (if x4_1.length < 5864062014805 then (carry_Move.l0 k1 l1 (x4_1 ++ [(⟨(⟨t185, t186⟩ : S42), (rd_T44 l0 x12_1).f1⟩ : S44)]) l0 (l0.length : Int) (wrap64 (x12_1 + 1))) else (none)) else (some (([] : List (S44)), false))) = some (r1, r2) := H
            have A6 := Aside0.mk A60
            clear A60
            by_cases c7 : t187 = true
            · subst c7
              have H1 : (if x4_1.length < 5864062014805 then (carry_Move.l0 k1 l1 (x4_1 ++ [(⟨(⟨t185, t186⟩ : S42), (rd_T44 l0 x12_1).f1⟩ : S44)]) l0 (l0.length : Int) (wrap64 (x12_1 + 1))) else (none)) = some (r1, r2) := by rw [if_pos rfl] at H; exact H
              clear H
              have H := H1
              clear H1
              by_cases c8 : x4_1.length < 5864062014805
              · rw [if_pos c8] at H
                have LMc8 := Aside0.mk c8
                clear c8
                obtain ⟨y189, hy189⟩ : ∃ y_ : List (S44), y_ = (x4_1 ++ [(⟨(⟨t185, t186⟩ : S42), (rd_T44 l0 x12_1).f1⟩ : S44)]) := ⟨_, rfl⟩
                replace H : (carry_Move.l0 k1 l1 y189 l0 (l0.length : Int) (wrap64 (x12_1 + 1))) = some (r1, r2) := by (rw [hy189]; with_reducible exact H)
                have Ny189 := Aside0.mk hy189
                clear hy189
                have H' := Aside0.mk H
                clear H
                have p183 : 0 ≤ (x12_1 : Int) := of_decide_eq_true (by (with_reducible assumption))
                have q183 : x12_1 < (l0.length : Int) := of_decide_eq_true (by (with_reducible assumption))
                obtain ⟨ad183, e183, hx183_0, hx183_1, hx183_2⟩ := at_T44 HR0.out x12_1 p183 q183
                cases e183
                replace hx183_0 := (HB.out.cell (World.block_lt_of_cell? w _ hx183_0)).trans hx183_0
                replace hx183_1 := (HB.out.cell (World.block_lt_of_cell? w _ hx183_1)).trans hx183_1
                replace hx183_2 := (HB.out.cell (World.block_lt_of_cell? w _ hx183_2)).trans hx183_2
                replace p183 := eq_true p183
                replace q183 := eq_true q183
                go_wp2_with (first | ((with_reducible refine gate_dst (N := 7) rfl ?_); refine box_event ?hg (N := 7) ?hd (cs := #[.int .i64 0, .int .i64 0, .int .i64 0]) (t := 44) ?hr ?_; (case hd => rfl); (case hg => rfl); (case hr => (go_simp; done)); intro gb184 hg w9 hbox hb; have n0_ := Aside0.mk (Kd.R_below (Kd.R_elderB (by (with_reducible repeat ((apply Kd.R_drew))); exact HO_4.out) gb184 (Nat.le_of_eq hg.symm)) hb); have n1_ := Aside0.mk (below_step (by repeat ((with_reducible (exact HB.out)))) hb); have n2_ := Aside0.mk (hbox); have n3_ := Aside0.mk ((by rw [hg]; exact (below_size (by repeat ((with_reducible (exact HB.out))))) : w.heap.size ≤ gb184)); have n4_ := Aside0.mk ((by rw [hg]; exact (below_size (by repeat ((with_reducible (exact HB.out))))) : w.heap.size ≤ gb184)); clear HO_4; clear HB; have HO_4 := n0_; have HB := n1_; have BK184 := n2_; have GW184 := n3_; have GE184 := n4_; clear n0_ n1_ n2_ n3_ n4_; clear hb hbox hg; have hcz10_0 : w9.cell? ⟨gb184, 0, none⟩ = some (.int .i64 0) := (blk_cell BK184.out 0).trans rfl; have hcz10_1 : w9.cell? ⟨gb184, 1, none⟩ = some (.int .i64 0) := (blk_cell BK184.out 1).trans rfl; have hcz10_2 : w9.cell? ⟨gb184, 2, none⟩ = some (.int .i64 0) := (blk_cell BK184.out 2).trans rfl; have hfz10_0 := blk_frozen BK184.out 0; have hfz10_1 := blk_frozen BK184.out 1; have hfz10_2 := blk_frozen BK184.out 2) | ((with_reducible refine gate_callee (f := 23) rfl ?_); refine goesL_ (some 20) rfl rfl Try.func23 (by kernel_rfl) rfl #[.slice A1 l1.length c1, .agg #[.int .i64 ((rd_T44 l0 x12_1).f0.f0), .int .i64 ((rd_T44 l0 x12_1).f0.f1)]] rfl (by (try simp only [List.map_toArray, List.map_cons, List.map_nil]); (rfl)) ?_; (with_reducible refine (place_Over.calls k1 _ _ l1 ((rd_T44 l0 x12_1).f0.f0) ((rd_T44 l0 x12_1).f0.f1) t185 t186 true _ ?side1 ?side2 A6.out).mono ?_); (case side1 => exact Kd.C_below HR1.out (by repeat ((with_reducible first | exact HB.out | refine below_set ?_ GE184.out)))); (case side2 => exact HC1.out); rintro e w11 ⟨rfl, hb⟩; refine ⟨_, rfl, ?_⟩; have n0_ := Aside0.mk (Kd.R_below (by (with_reducible repeat ((apply Kd.R_drew))); exact (Kd.R_mono (Kd.R_far (p := ⟨gb184, 2, none⟩) (Kd.R_far (p := ⟨gb184, 1, none⟩) (Kd.R_far (p := ⟨gb184, 0, none⟩) (Kd.R_mono HO_4.out (fun k_ hk => (⟨hk, hk.2⟩ : _ ∧ k_ ≠ gb184))) (fun _ hk => hk.2) (.int .i64 ((rd_T44 l0 x12_1).f0.f0))) (fun _ hk => hk.2) (.int .i64 ((rd_T44 l0 x12_1).f0.f1))) (fun _ hk => hk.2) (.int .i64 ((rd_T44 l0 x12_1).f1))) (fun _ h_ => h_.1))) hb); have n1_ := Aside0.mk (blk_below (g := gb184) (o := .cells #[.int .i64 ((rd_T44 l0 x12_1).f0.f0), .int .i64 ((rd_T44 l0 x12_1).f0.f1), .int .i64 ((rd_T44 l0 x12_1).f1)] 44 (0, 0)) (by (with_reducible repeat ((refine blk_drew ?_))); refine blk_put (cs := #[.int .i64 ((rd_T44 l0 x12_1).f0.f0), .int .i64 ((rd_T44 l0 x12_1).f0.f1), .int .i64 0]) ?_ 2 _ rfl; (with_reducible repeat ((refine blk_drew ?_))); refine blk_put (cs := #[.int .i64 ((rd_T44 l0 x12_1).f0.f0), .int .i64 0, .int .i64 0]) ?_ 1 _ rfl; (with_reducible repeat ((refine blk_drew ?_))); refine blk_put (cs := #[.int .i64 0, .int .i64 0, .int .i64 0]) ?_ 0 _ rfl; (with_reducible repeat ((refine blk_drew ?_))); exact BK184.out) hb); have n2_ := Aside0.mk (below_step (by repeat ((with_reducible first | exact HB.out | refine below_set ?_ GE184.out))) hb); clear HO_4; clear BK184; clear HB; have HO_4 := n0_; have BK184 := n1_; have HB := n2_; clear n0_ n1_ n2_; (try clear hb); (try clear hb2); (try clear hk); (try clear hi)) | ((with_reducible refine gate_dst (N := 8) rfl ?_); refine box_event ?hg (N := 8) ?hd (cs := #[.int .i64 0, .int .i64 0]) (t := 42) ?hr ?_; (case hd => rfl); (case hg => rfl); (case hr => (go_simp; done)); intro gb188 hg w12 hbox hb; have n0_ := Aside0.mk (Kd.R_below (by (with_reducible repeat ((apply Kd.R_drew))); exact HO_4.out) hb); have n1_ := Aside0.mk (blk_below (g := gb184) (o := .cells #[.int .i64 ((rd_T44 l0 x12_1).f0.f0), .int .i64 ((rd_T44 l0 x12_1).f0.f1), .int .i64 ((rd_T44 l0 x12_1).f1)] 44 (0, 0)) (by (with_reducible repeat ((refine blk_drew ?_))); exact BK184.out) hb); have n2_ := Aside0.mk (below_step (by repeat ((with_reducible (exact HB.out)))) hb); have n3_ := Aside0.mk (hbox); have n4_ := Aside0.mk ((by rw [hg]; exact (below_size (by repeat ((with_reducible (exact HB.out))))) : w.heap.size ≤ gb188)); have n5_ := Aside0.mk ((by rw [hg]; exact (below_size (by repeat ((with_reducible (exact HB.out))))) : w.heap.size ≤ gb188)); have n6_ := Aside0.mk ((by rw [hg]; exact Nat.ne_of_lt (blk_lt (g := gb184) (o := .cells #[.int .i64 ((rd_T44 l0 x12_1).f0.f0), .int .i64 ((rd_T44 l0 x12_1).f0.f1), .int .i64 ((rd_T44 l0 x12_1).f1)] 44 (0, 0)) (by (with_reducible repeat ((refine blk_drew ?_))); exact BK184.out)) : gb184 ≠ gb188)); have n7_ := Aside0.mk ((by rw [hg]; exact Nat.ne_of_gt (blk_lt (g := gb184) (o := .cells #[.int .i64 ((rd_T44 l0 x12_1).f0.f0), .int .i64 ((rd_T44 l0 x12_1).f0.f1), .int .i64 ((rd_T44 l0 x12_1).f1)] 44 (0, 0)) (by (with_reducible repeat ((refine blk_drew ?_))); exact BK184.out)) : gb188 ≠ gb184)); clear HO_4; clear BK184; clear HB; have HO_4 := n0_; have BK184 := n1_; have HB := n2_; have BK188 := n3_; have GW188 := n4_; have GE188 := n5_; have NB184_188 := n6_; have NB188_184 := n7_; clear n0_ n1_ n2_ n3_ n4_ n5_ n6_ n7_; clear hb hbox hg; have hnb13 := NB188_184.out; have hnc13 := NB184_188.out; have hcz14_0 : w12.cell? ⟨gb188, 0, none⟩ = some (.int .i64 0) := (blk_cell BK188.out 0).trans rfl; have hcz14_1 : w12.cell? ⟨gb188, 1, none⟩ = some (.int .i64 0) := (blk_cell BK188.out 1).trans rfl; have hfz14_0 := blk_frozen BK188.out 0; have hfz14_1 := blk_frozen BK188.out 1; have hcz15_0 : w12.cell? ⟨gb184, 0, none⟩ = some (.int .i64 ((rd_T44 l0 x12_1).f0.f0)) := (blk_cell BK184.out 0).trans rfl; have hcz15_1 : w12.cell? ⟨gb184, 1, none⟩ = some (.int .i64 ((rd_T44 l0 x12_1).f0.f1)) := (blk_cell BK184.out 1).trans rfl; have hcz15_2 : w12.cell? ⟨gb184, 2, none⟩ = some (.int .i64 ((rd_T44 l0 x12_1).f1)) := (blk_cell BK184.out 2).trans rfl; have hfz15_0 := blk_frozen BK184.out 0; have hfz15_1 := blk_frozen BK184.out 1; have hfz15_2 := blk_frozen BK184.out 2) | ((with_reducible refine gate_builtin (b := .append) (xs := #[.tmp 25, .tmp 30]) rfl ?_); at_builtin; refine Kd.R_append k44 (w0 := w) w.heap.size rfl (.tmp 25) (.tmp 30) 22 44 (.agg #[(.int .i64 0), (.int .i64 0), (.int .i64 0)]) 24 rfl Try.underlying22 info44 rfl (by decide) (by omega) u4 x4_1 (⟨(⟨t185, t186⟩ : S42), (rd_T44 l0 x12_1).f1⟩ : S44) [.int .i64 t185, .int .i64 t186, .int .i64 ((rd_T44 l0 x12_1).f1)] (fun k_ => k_ ≠ gb184) (fun _ => False) rfl (by (go_simp; done)) ?aP (fun _ hk => hk.elim) ?aF ?aO ?aB ?aS ?aL ?_; (case aP => exact k44_mkM _ _ _ (⟨(⟨t185, t186⟩ : S42), (rd_T44 l0 x12_1).f1⟩ : S44)); (case aB => exact (by repeat ((with_reducible first | exact HB.out | refine below_set ?_ GE188.out)))); (case aF => exact (fun k_ hk => Kd.freshB (g := gb184) (o := .cells #[.int .i64 ((rd_T44 l0 x12_1).f0.f0), .int .i64 ((rd_T44 l0 x12_1).f0.f1), .int .i64 ((rd_T44 l0 x12_1).f1)] 44 (0, 0)) (by (with_reducible repeat ((refine blk_drew ?_))); refine blk_far ?_ NB184_188.out _; (with_reducible repeat ((refine blk_drew ?_))); refine blk_far ?_ NB184_188.out _; (with_reducible repeat ((refine blk_drew ?_))); exact BK184.out) k_ hk)); (case aO => exact (by (with_reducible repeat ((apply Kd.R_drew))); exact Kd.R_mono (Kd.R_far (p := ⟨gb188, 1, none⟩) (Kd.R_far (p := ⟨gb188, 0, none⟩) (Kd.R_types HO_4.out BK188.out (by decide)) (fun _ hk => hk.2) (.int .i64 t185)) (fun _ hk => hk.2) (.int .i64 t186)) (fun _ hk => hk.1.2))); (case aS => exact (below_size (by repeat ((with_reducible first | exact HB.out | refine below_set ?_ GE188.out))))); (case aL => have := LMc8.out; omega); intro v190 w16 ho hb hg hat; rw [← Ny189.out] at ho; have n0_ := Aside0.mk (blk_grown (g := gb184) (o := .cells #[.int .i64 ((rd_T44 l0 x12_1).f0.f0), .int .i64 ((rd_T44 l0 x12_1).f0.f1), .int .i64 ((rd_T44 l0 x12_1).f1)] 44 (0, 0)) (by (with_reducible repeat ((refine blk_drew ?_))); refine blk_far ?_ NB184_188.out _; (with_reducible repeat ((refine blk_drew ?_))); refine blk_far ?_ NB184_188.out _; (with_reducible repeat ((refine blk_drew ?_))); exact BK184.out) hg (Kd.R_away HO_4.out (fun _ hk => hk.2))); have n1_ := Aside0.mk (blk_grown (g := gb188) (o := .cells #[.int .i64 t185, .int .i64 t186] 42 (0, 0)) (by (with_reducible repeat ((refine blk_drew ?_))); refine blk_put (cs := #[.int .i64 t185, .int .i64 0]) ?_ 1 _ rfl; (with_reducible repeat ((refine blk_drew ?_))); refine blk_put (cs := #[.int .i64 0, .int .i64 0]) ?_ 0 _ rfl; (with_reducible repeat ((refine blk_drew ?_))); exact BK188.out) hg (Kd.R_ne HO_4.out BK188.out (by decide))); have n2_ := Aside0.mk (hb); have n3_ := Aside0.mk (ho); clear BK184; clear BK188; clear HB; clear HO_4; have BK184 := n0_; have BK188 := n1_; have HB := n2_; have HO191 := n3_; clear n0_ n1_ n2_ n3_; clear ho hb hg hat))
                go_roundg k1
                case measure => have := HK1.out; omega
                case rel => exact ⟨(y189), (wrap64 (x12_1 + 1)), (by (rfl)), H', ⟨by have := HK1.out; omega⟩, ⟨by (with_reducible repeat ((apply Kd.R_drew))); exact Kd.R_mono HO191.out (fun _ hk => trivial)⟩, ⟨by repeat ((with_reducible (exact HB.out)))⟩⟩
              · rw [if_neg c8] at H
                exact absurd H (by simp)
            · replace c7 := Bool.eq_false_iff.mpr c7
              subst c7
              have H1 : (some (([] : List (S44)), false)) = some (r1, r2) := by rw [if_neg (show ¬ (false = true) by decide)] at H; exact H
              clear H
              have H := H1
              clear H1
              simp only [Option.some.injEq, Prod.mk.injEq] at H
              obtain ⟨rfl, rfl⟩ := H
              have p183 : 0 ≤ (x12_1 : Int) := of_decide_eq_true (by (with_reducible assumption))
              have q183 : x12_1 < (l0.length : Int) := of_decide_eq_true (by (with_reducible assumption))
              obtain ⟨ad183, e183, hx183_0, hx183_1, hx183_2⟩ := at_T44 HR0.out x12_1 p183 q183
              cases e183
              replace hx183_0 := (HB.out.cell (World.block_lt_of_cell? w _ hx183_0)).trans hx183_0
              replace hx183_1 := (HB.out.cell (World.block_lt_of_cell? w _ hx183_1)).trans hx183_1
              replace hx183_2 := (HB.out.cell (World.block_lt_of_cell? w _ hx183_2)).trans hx183_2
              replace p183 := eq_true p183
              replace q183 := eq_true q183
              go_wp2_with (first | ((with_reducible refine gate_dst (N := 7) rfl ?_); refine box_event ?hg (N := 7) ?hd (cs := #[.int .i64 0, .int .i64 0, .int .i64 0]) (t := 44) ?hr ?_; (case hd => rfl); (case hg => rfl); (case hr => (go_simp; done)); intro gb184 hg w17 hbox hb; have n0_ := Aside0.mk (Kd.R_below (Kd.R_elderB (by (with_reducible repeat ((apply Kd.R_drew))); exact HO_4.out) gb184 (Nat.le_of_eq hg.symm)) hb); have n1_ := Aside0.mk (below_step (by repeat ((with_reducible (exact HB.out)))) hb); have n2_ := Aside0.mk (hbox); have n3_ := Aside0.mk ((by rw [hg]; exact (below_size (by repeat ((with_reducible (exact HB.out))))) : w.heap.size ≤ gb184)); have n4_ := Aside0.mk ((by rw [hg]; exact (below_size (by repeat ((with_reducible (exact HB.out))))) : w.heap.size ≤ gb184)); clear HO_4; clear HB; have HO_4 := n0_; have HB := n1_; have BK184 := n2_; have GW184 := n3_; have GE184 := n4_; clear n0_ n1_ n2_ n3_ n4_; clear hb hbox hg; have hcz18_0 : w17.cell? ⟨gb184, 0, none⟩ = some (.int .i64 0) := (blk_cell BK184.out 0).trans rfl; have hcz18_1 : w17.cell? ⟨gb184, 1, none⟩ = some (.int .i64 0) := (blk_cell BK184.out 1).trans rfl; have hcz18_2 : w17.cell? ⟨gb184, 2, none⟩ = some (.int .i64 0) := (blk_cell BK184.out 2).trans rfl; have hfz18_0 := blk_frozen BK184.out 0; have hfz18_1 := blk_frozen BK184.out 1; have hfz18_2 := blk_frozen BK184.out 2) | ((with_reducible refine gate_callee (f := 23) rfl ?_); refine goesL_ (some 20) rfl rfl Try.func23 (by kernel_rfl) rfl #[.slice A1 l1.length c1, .agg #[.int .i64 ((rd_T44 l0 x12_1).f0.f0), .int .i64 ((rd_T44 l0 x12_1).f0.f1)]] rfl (by (try simp only [List.map_toArray, List.map_cons, List.map_nil]); (rfl)) ?_; (with_reducible refine (place_Over.calls k1 _ _ l1 ((rd_T44 l0 x12_1).f0.f0) ((rd_T44 l0 x12_1).f0.f1) t185 t186 false _ ?side1 ?side2 A6.out).mono ?_); (case side1 => exact Kd.C_below HR1.out (by repeat ((with_reducible first | exact HB.out | refine below_set ?_ GE184.out)))); (case side2 => exact HC1.out); rintro e w19 ⟨rfl, hb⟩; refine ⟨_, rfl, ?_⟩; have n0_ := Aside0.mk (Kd.R_below (by (with_reducible repeat ((apply Kd.R_drew))); exact (Kd.R_mono (Kd.R_far (p := ⟨gb184, 2, none⟩) (Kd.R_far (p := ⟨gb184, 1, none⟩) (Kd.R_far (p := ⟨gb184, 0, none⟩) (Kd.R_mono HO_4.out (fun k_ hk => (⟨hk, hk.2⟩ : _ ∧ k_ ≠ gb184))) (fun _ hk => hk.2) (.int .i64 ((rd_T44 l0 x12_1).f0.f0))) (fun _ hk => hk.2) (.int .i64 ((rd_T44 l0 x12_1).f0.f1))) (fun _ hk => hk.2) (.int .i64 ((rd_T44 l0 x12_1).f1))) (fun _ h_ => h_.1))) hb); have n1_ := Aside0.mk (blk_below (g := gb184) (o := .cells #[.int .i64 ((rd_T44 l0 x12_1).f0.f0), .int .i64 ((rd_T44 l0 x12_1).f0.f1), .int .i64 ((rd_T44 l0 x12_1).f1)] 44 (0, 0)) (by (with_reducible repeat ((refine blk_drew ?_))); refine blk_put (cs := #[.int .i64 ((rd_T44 l0 x12_1).f0.f0), .int .i64 ((rd_T44 l0 x12_1).f0.f1), .int .i64 0]) ?_ 2 _ rfl; (with_reducible repeat ((refine blk_drew ?_))); refine blk_put (cs := #[.int .i64 ((rd_T44 l0 x12_1).f0.f0), .int .i64 0, .int .i64 0]) ?_ 1 _ rfl; (with_reducible repeat ((refine blk_drew ?_))); refine blk_put (cs := #[.int .i64 0, .int .i64 0, .int .i64 0]) ?_ 0 _ rfl; (with_reducible repeat ((refine blk_drew ?_))); exact BK184.out) hb); have n2_ := Aside0.mk (below_step (by repeat ((with_reducible first | exact HB.out | refine below_set ?_ GE184.out))) hb); clear HO_4; clear BK184; clear HB; have HO_4 := n0_; have BK184 := n1_; have HB := n2_; clear n0_ n1_ n2_; (try clear hb); (try clear hb2); (try clear hk); (try clear hi)) | ((with_reducible refine gate_dst (N := 8) rfl ?_); refine box_event ?hg (N := 8) ?hd (cs := #[.int .i64 0, .int .i64 0]) (t := 42) ?hr ?_; (case hd => rfl); (case hg => rfl); (case hr => (go_simp; done)); intro gb188 hg w20 hbox hb; have n0_ := Aside0.mk (Kd.R_below (by (with_reducible repeat ((apply Kd.R_drew))); exact HO_4.out) hb); have n1_ := Aside0.mk (blk_below (g := gb184) (o := .cells #[.int .i64 ((rd_T44 l0 x12_1).f0.f0), .int .i64 ((rd_T44 l0 x12_1).f0.f1), .int .i64 ((rd_T44 l0 x12_1).f1)] 44 (0, 0)) (by (with_reducible repeat ((refine blk_drew ?_))); exact BK184.out) hb); have n2_ := Aside0.mk (below_step (by repeat ((with_reducible (exact HB.out)))) hb); have n3_ := Aside0.mk (hbox); have n4_ := Aside0.mk ((by rw [hg]; exact (below_size (by repeat ((with_reducible (exact HB.out))))) : w.heap.size ≤ gb188)); have n5_ := Aside0.mk ((by rw [hg]; exact (below_size (by repeat ((with_reducible (exact HB.out))))) : w.heap.size ≤ gb188)); have n6_ := Aside0.mk ((by rw [hg]; exact Nat.ne_of_lt (blk_lt (g := gb184) (o := .cells #[.int .i64 ((rd_T44 l0 x12_1).f0.f0), .int .i64 ((rd_T44 l0 x12_1).f0.f1), .int .i64 ((rd_T44 l0 x12_1).f1)] 44 (0, 0)) (by (with_reducible repeat ((refine blk_drew ?_))); exact BK184.out)) : gb184 ≠ gb188)); have n7_ := Aside0.mk ((by rw [hg]; exact Nat.ne_of_gt (blk_lt (g := gb184) (o := .cells #[.int .i64 ((rd_T44 l0 x12_1).f0.f0), .int .i64 ((rd_T44 l0 x12_1).f0.f1), .int .i64 ((rd_T44 l0 x12_1).f1)] 44 (0, 0)) (by (with_reducible repeat ((refine blk_drew ?_))); exact BK184.out)) : gb188 ≠ gb184)); clear HO_4; clear BK184; clear HB; have HO_4 := n0_; have BK184 := n1_; have HB := n2_; have BK188 := n3_; have GW188 := n4_; have GE188 := n5_; have NB184_188 := n6_; have NB188_184 := n7_; clear n0_ n1_ n2_ n3_ n4_ n5_ n6_ n7_; clear hb hbox hg; have hnb21 := NB188_184.out; have hnc21 := NB184_188.out; have hcz22_0 : w20.cell? ⟨gb188, 0, none⟩ = some (.int .i64 0) := (blk_cell BK188.out 0).trans rfl; have hcz22_1 : w20.cell? ⟨gb188, 1, none⟩ = some (.int .i64 0) := (blk_cell BK188.out 1).trans rfl; have hfz22_0 := blk_frozen BK188.out 0; have hfz22_1 := blk_frozen BK188.out 1))
              go_ret2
              exact ⟨_, by (rfl), by (exact Kd.R_nil _ _ _ _ _), by repeat ((with_reducible first | exact HB.out | refine below_set ?_ GE188.out))⟩
          · rw [if_neg c5] at H
            exact absurd H (by simp)
        · rw [if_neg c4] at H
          exact absurd H (by simp)
      · rw [if_neg c3] at H
        have c3b0 : decide (x12_1 < (l0.length : Int)) = false := decide_eq_false c3
        clear c3
        simp only [Option.some.injEq, Prod.mk.injEq] at H
        obtain ⟨rfl, rfl⟩ := H
        go_wp2
        go_ret2
        exact ⟨_, by (rfl), by (with_reducible repeat ((apply Kd.R_drew))); exact HO_4.out, by repeat ((with_reducible (exact HB.out)))⟩

end Go.Proofs.Ytjbnffadfohofaa.P
end

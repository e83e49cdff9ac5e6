/- Shaken: what the claim's theorem needs of our texts, of the printed ones and of the print's words. -/
import Derived.Test.YtjbnffadfohofaaXCarryShowsB
import Derived.Laws.EntriesVeiled
-- MERGED YtjbnffadfohofaaPlaceS
section
namespace Go.Proofs.Ytjbnffadfohofaa.PlaceS
open Go.RowKit Go.Shelf Go.Proofs.Ytjbnffadfohofaa.P Go.Proofs.YtjbnffadfohofaaW.PrintWords Go.Proofs.YtjbnffadfohofaaW.PrintLast Go.Proofs.YtjbnffadfohofaaW.PrintMore Go.Proofs.Ytjbnffadfohofaa.Own Go.Proofs.Ytjbnffadfohofaa.EditL Go.Proofs.Ytjbnffadfohofaa.EditK Go.Proofs.Ytjbnffadfohofaa.RangeG Go.Proofs.Ytjbnffadfohofaa.RangeB Go.Proofs.Ytjbnffadfohofaa.EditJ Go.Proofs.Ytjbnffadfohofaa.EditI Go.Proofs.Ytjbnffadfohofaa.EditR Go.Proofs.Ytjbnffadfohofaa.EditF Go.Proofs.Ytjbnffadfohofaa.PlaceI Go.Proofs.Ytjbnffadfohofaa.PlaceM Go.Proofs.Ytjbnffadfohofaa.PlaceC Go.Proofs.Ytjbnffadfohofaa.VaryR
attribute [local go_sem] Oper.semAt_some max2_int min2_int max_two min_two
set_option linter.unusedSimpArgs false
set_option linter.unusedVariables false
def Sx (BX : Nat) (a b : Int) (w : World) : Prop := w.heap[BX]? = some (.cells #[.int .i64 a, .int .i64 b] 42 (0, 0))
theorem Sx.below {BX : Nat} {a b : Int} {w w' : World} (h : Sx BX a b w) (hb : Below w.heap.size w w') : Sx BX a b w' := (hb.block _ (Array.getElem?_eq_some_iff.1 h).1).trans h
theorem Sx.c0 {BX : Nat} {a b : Int} {w : World} (h : Sx BX a b w) : w.cell? ⟨BX, 0, none⟩ = some (.int .i64 a) := by rw [cell_of_row w _ 0 _ _ _ h]; rfl
theorem Sx.c1 {BX : Nat} {a b : Int} {w : World} (h : Sx BX a b w) : w.cell? ⟨BX, 1, none⟩ = some (.int .i64 b) := by rw [cell_of_row w _ 1 _ _ _ h]; rfl
theorem Sx.fz {BX : Nat} {a b : Int} {w : World} (h : Sx BX a b w) (o : Nat) : w.frozen? ⟨BX, o, none⟩ = false := frozen_of_row w _ o _ _ h
def spS (a b : Int) : List St → Sp → Sp
 | [], m => m
 | s :: l, m => spS a b l (meetL a b s m)
def spanL (op : List Rn) (a b : Int) : (Int × Int) × Bool :=
 if good op = true ∧ 0 ≤ a ∧ a ≤ b ∧ b ≤ inL op then
  (if (spS a b (stepsL op 0 0) ⟨0, 0, false⟩).found then ((spS a b (stepsL op 0 0) ⟨0, 0, false⟩).e0, (spS a b (stepsL op 0 0) ⟨0, 0, false⟩).e1) else ((moveL op a false).1, (moveL op a false).1), true)
 else ((0, 0), false)
def PlaceS.T1 : Bool × List (List Nat × List Nat) := (true, [([], []), ([0], [0]), ([1], [1]), ([2, 1], [2]), ([3], [3]), ([4, 3], [3, 4]), ([5, 3], [3, 5]), ([3, 6], [3, 6]), ([7, 3], [7]), ([8], [8]), ([9, 8], [8, 9]), ([8], [8]), ([11, 8], [8, 11]), ([10, 12, 8], [8, 10, 12]), ([8, 13], [8, 13]), ([14, 8], [14]), ([15], [15]), ([16, 15], [15, 16]), ([15], [15]), ([18, 15, 15], [15, 18]), ([17, 19, 15], [15, 17, 19]), ([15, 20], [15, 20])])
def PlaceS.B1 : List Nat := [0, 1, 3, 7, 15, 31, 63, 127, 255, 511, 1023, 511, 2559, 8191, 16383, 32767, 65535, 131071, 65535, 327679, 1048575, 2097151]
theorem PlaceS.tab1 : rtab .any (opsOf Try.f35 1) = PlaceS.T1 := by kernel_rfl
theorem PlaceS.bits1 : waitsOk PlaceS.T1.2 PlaceS.B1 = true := by kernel_rfl
theorem res_span (tmps : Array Value) (W : World) (BR : Nat) (x y : Int) (b : Bool) (h4 : tmps.getD 4 undef = .pointer (some ⟨BR, 0, none⟩)) (h5 : tmps.getD 5 undef = .bool b) (hB : Sx BR x y W) :
  (results Try.f35 tmps).run Try.prog W = .ok (.tuple #[.agg #[.int .i64 x, .int .i64 y], .bool b]) W := by
 have h4' : tmps[4]?.getD undef = .pointer (some ⟨BR, 0, none⟩) := by simpa using h4
 have h5' : tmps[5]?.getD undef = .bool b := by simpa using h5
 have c0 := hB.c0
 have c1 := hB.c1
 simp [results, Try.results35, h4', h5', c0, c1, go_sem]
def SpanPost (v : (Int × Int) × Bool) (w : World) (e : Ending) (w' : World) : Prop := e = .returned (.tuple #[.agg #[.int .i64 v.1.1, .int .i64 v.1.2], .bool v.2]) ∧ Below w.heap.size w w'
theorem below_set' {B : Nat} {w W : World} (h : Below B w W) {b o : Nat} {u : Value} (hb : B ≤ b) : Below B w (W.setCell ⟨b, o, none⟩ u) := h.setCell (p := ⟨b, o, none⟩) hb u
set_option maxHeartbeats 4000000 in
set_option maxRecDepth 100000 in
theorem span_no1 (A0 : Option Addr) (c0 : Nat) (l0 : List Rn) (xa xb : Int) (w : World) (h : RC w A0 l0) (hc : l0.length ≤ c0) (hl : l0.length ≤ 140737488351232) (hg : good l0 = false) :
  Calls Try.prog 35 #[.slice A0 l0.length c0, .agg #[.int .i64 xa, .int .i64 xb]] w (SpanPost ((0, 0), false) w) := by
 have HG := Aside0.mk (good_c A0 c0 l0 hc hl)
 rw [hg] at HG
 have H0 := Aside0.mk h
 clear h hc hl hg
 go_enter Try.func35, Try.ntmps35
 go_wp2_with fail
 obtain ⟨w2, hw2⟩ : ∃ w2, w2 = (w.alloc (.cells #[.int .i64 xa, .int .i64 xb] 42)).alloc (.cells #[.int .i64 0, .int .i64 0] 42) := ⟨_, rfl⟩
 have hb2 : Below w.heap.size w w2 := by rw [hw2]; exact below_alloc (below_alloc (Below.refl _ _) _) _
 have HB := Aside0.mk hb2
 have HR := Aside0.mk (H0.out.below hb2)
 have X3 := Aside0.mk (show Sx w.heap.size xa xb w2 by rw [hw2]; exact (show Sx w.heap.size xa xb (w.alloc _) from Own.heap_new w _).below (below_alloc (Below.refl _ _) _))
 have X4 := Aside0.mk (show Sx (w.heap.size + 1) 0 0 w2 by
  rw [hw2]
  have := Own.heap_new (w.alloc (.cells #[.int .i64 xa, .int .i64 xb] 42)) (.cells #[.int .i64 0, .int .i64 0] 42)
  rwa [World.size_alloc] at this)
 rw [← hw2]
 clear hw2 hb2
 refine start_ (n := 22) (S := fun w' => True) (ds := []) #[false, false, false, false, false, false, false, false, false, false, false, false, false, false, false, false, false, false, false, false, false, false] (by kernel_rfl) rfl rfl trivial (fun hHeld => ?_); refine with_tabW PlaceS.tab1 PlaceS.bits1 (fun HT_ HW_ => ?_)
 refine inv_at [0, 1, 2, 3, 4, 5, 6, 7, 8, 9, 10, 11, 12, 13, 14, 15, 16, 17, 18, 19, 20, 21] (fun a0_ b a w' => a = putSel a0_ b [(0, 12, (.slice A0 l0.length c0)), (1, 13, (.bool false)), (2, 14, (.bool true)), (3, 15, (.bool true)), (4, 16, undef), (5, 17, undef), (6, 18, undef), (7, 19, (.bool true)), (8, 20, (.bool true)), (9, 21, undef), (10, 22, undef), (11, 23, undef), (12, 24, undef), (13, 25, undef), (14, 26, (.bool true)), (15, 27, (.bool true)), (16, 28, undef), (17, 29, undef), (18, 30, undef), (19, 31, undef), (20, 32, undef), (21, 33, (.bool true))] ∧ (RC w' A0 l0) ∧ (Below w.heap.size w w') ∧ (Sx w.heap.size xa xb w') ∧ (Sx (w.heap.size + 1) 0 0 w')) HT_.out HW_.out (by kernel_rfl) (by kernel_rfl) ?_ ?_ ?_
 ·exact ⟨by simp only [putSel, Bool.false_eq_true, if_false], HR.out.below (below_drew1 (Below.refl _ _)), below_drew1 HB.out, X3.out.below (below_drew1 (Below.refl _ _)), X4.out.below (below_drew1 (Below.refl _ _))⟩
 ·skip
  clear HB HR X3 X4
  refine steps_cons ?_ ?_
  ·rintro b a w' ⟨ha, Q_HR, Q_HB, Q_X3, Q_X4⟩ hb_ hon hoff
   refine ⟨_, rfl, fun K hK => ?_⟩
   have e0 : a.tmps[0]? = some ((.slice A0 l0.length c0)) := by rw [ha]; exact (putSel_off rfl).trans rfl
   replace ha := Aside0.mk ha
   have HR := Aside0.mk Q_HR
   have HB := Aside0.mk Q_HB
   have X3 := Aside0.mk Q_X3
   have X4 := Aside0.mk Q_X4
   refine value_ (w1 := w') (v := (.slice A0 l0.length c0)) (by rfl) rfl ?_ ?_
   ·go_simp
    (try simp only [i64_w])
    try rfl
   refine hK.out _ _ ⟨(by rw [ha.out]; exact putSel_upk 0 hb_ rfl rfl rfl), Q_HR, Q_HB, Q_X3, Q_X4⟩
  refine steps_cons ?_ ?_
  ·rintro b a w' ⟨ha, Q_HR, Q_HB, Q_X3, Q_X4⟩ hb_ hon hoff
   refine ⟨_, rfl, fun K hK => ?_⟩
   have e12 : a.tmps[12]? = some ((.slice A0 l0.length c0)) := by rw [ha]; exact putSel_on (e := (0, 12, (.slice A0 l0.length c0))) 0 rfl rfl (hon 0 (by kernel_rfl)) rfl
   replace ha := Aside0.mk ha
   have HR := Aside0.mk Q_HR
   have HB := Aside0.mk Q_HB
   have X3 := Aside0.mk Q_X3
   have X4 := Aside0.mk Q_X4
   refine goes_ Try.func30 (by kernel_rfl) rfl #[.slice A0 l0.length c0] (by rfl) rfl rfl (by first | (simp only [List.map_toArray, List.map_cons, List.map_nil, Act.eval, Array.getD_eq_getD_getElem?, Option.getD_some, e12]; done) | (simp only [List.map_toArray, List.map_cons, List.map_nil, Act.eval, Array.getD_eq_getD_getElem?, Option.getD_some, e12]; rfl)) ?_
   refine (HG.out _ HR.out).mono ?_
   rintro e w1_ ⟨rfl, hb⟩
   refine ⟨_, rfl, ?_⟩
   refine hK.out _ _ ⟨(by rw [ha.out]; exact putSel_upk 1 hb_ rfl rfl rfl), HR.out.below hb, below_step HB.out hb, X3.out.below hb, X4.out.below hb⟩
  refine steps_cons ?_ ?_
  ·rintro b a w' ⟨ha, Q_HR, Q_HB, Q_X3, Q_X4⟩ hb_ hon hoff
   refine ⟨_, rfl, fun K hK => ?_⟩
   have e13 : a.tmps[13]? = some ((.bool false)) := by rw [ha]; exact putSel_on (e := (1, 13, (.bool false))) 1 rfl rfl (hon 1 (by kernel_rfl)) rfl
   replace ha := Aside0.mk ha
   have HR := Aside0.mk Q_HR
   have HB := Aside0.mk Q_HB
   have X3 := Aside0.mk Q_X3
   have X4 := Aside0.mk Q_X4
   refine value_ (w1 := w') (v := (.bool true)) (by rfl) rfl ?_ ?_
   ·go_simp
    (try simp only [i64_w])
    try rfl
   refine hK.out _ _ ⟨(by rw [ha.out]; exact putSel_upk 2 hb_ rfl rfl rfl), Q_HR, Q_HB, Q_X3, Q_X4⟩
  refine steps_cons ?_ ?_
  ·rintro b a w' ⟨ha, Q_HR, Q_HB, Q_X3, Q_X4⟩ hb_ hon hoff
   refine ⟨_, rfl, fun K hK => ?_⟩
   have e14 : a.tmps[14]? = some ((.bool true)) := by rw [ha]; exact putSel_on (e := (2, 14, (.bool true))) 2 rfl rfl (hon 2 (by kernel_rfl)) rfl
   replace ha := Aside0.mk ha
   have HR := Aside0.mk Q_HR
   have HB := Aside0.mk Q_HB
   have X3 := Aside0.mk Q_X3
   have X4 := Aside0.mk Q_X4
   refine value_ (w1 := w') (v := (.bool true)) (by rfl) rfl ?_ ?_
   ·go_simp
    (try simp only [i64_w])
    try rfl
   refine hK.out _ _ ⟨(by rw [ha.out]; exact putSel_upk 3 hb_ rfl rfl rfl), Q_HR, Q_HB, Q_X3, Q_X4⟩
  refine steps_cons ?_ ?_
  ·rintro b a w' ⟨ha, Q_HR, Q_HB, Q_X3, Q_X4⟩ hb_ hon hoff
   refine ⟨_, rfl, fun K hK => ?_⟩
   have e15 : a.tmps[15]? = some ((.bool true)) := by rw [ha]; exact putSel_on (e := (3, 15, (.bool true))) 3 rfl rfl (hon 3 (by kernel_rfl)) rfl
   replace ha := Aside0.mk ha
   have HR := Aside0.mk Q_HR
   have HB := Aside0.mk Q_HB
   have X3 := Aside0.mk Q_X3
   have X4 := Aside0.mk Q_X4
   refine off_ (wanted_off rfl rfl rfl (e15.trans (by first | rfl | (simp [*]; done)))) ?_
   refine hK.out _ _ ⟨(by rw [ha.out]; exact putSel_upk 4 hb_ rfl rfl rfl), Q_HR, Q_HB, Q_X3, Q_X4⟩
  refine steps_cons ?_ ?_
  ·rintro b a w' ⟨ha, Q_HR, Q_HB, Q_X3, Q_X4⟩ hb_ hon hoff
   refine ⟨_, rfl, fun K hK => ?_⟩
   have e15 : a.tmps[15]? = some ((.bool true)) := by rw [ha]; exact putSel_on (e := (3, 15, (.bool true))) 3 rfl rfl (hon 3 (by kernel_rfl)) rfl
   replace ha := Aside0.mk ha
   have HR := Aside0.mk Q_HR
   have HB := Aside0.mk Q_HB
   have X3 := Aside0.mk Q_X3
   have X4 := Aside0.mk Q_X4
   refine off_ (wanted_off rfl rfl rfl (e15.trans (by first | rfl | (simp [*]; done)))) ?_
   refine hK.out _ _ ⟨(by rw [ha.out]; exact putSel_upk 5 hb_ rfl rfl rfl), Q_HR, Q_HB, Q_X3, Q_X4⟩
  refine steps_cons ?_ ?_
  ·rintro b a w' ⟨ha, Q_HR, Q_HB, Q_X3, Q_X4⟩ hb_ hon hoff
   refine ⟨_, rfl, fun K hK => ?_⟩
   have e15 : a.tmps[15]? = some ((.bool true)) := by rw [ha]; exact putSel_on (e := (3, 15, (.bool true))) 3 rfl rfl (hon 3 (by kernel_rfl)) rfl
   replace ha := Aside0.mk ha
   have HR := Aside0.mk Q_HR
   have HB := Aside0.mk Q_HB
   have X3 := Aside0.mk Q_X3
   have X4 := Aside0.mk Q_X4
   refine off_ (wanted_off rfl rfl rfl (e15.trans (by first | rfl | (simp [*]; done)))) ?_
   refine hK.out _ _ ⟨(by rw [ha.out]; exact putSel_upk 6 hb_ rfl rfl rfl), Q_HR, Q_HB, Q_X3, Q_X4⟩
  refine steps_cons ?_ ?_
  ·rintro b a w' ⟨ha, Q_HR, Q_HB, Q_X3, Q_X4⟩ hb_ hon hoff
   refine ⟨_, rfl, fun K hK => ?_⟩
   have e15 : a.tmps[15]? = some ((.bool true)) := by rw [ha]; exact putSel_on (e := (3, 15, (.bool true))) 3 rfl rfl (hon 3 (by kernel_rfl)) rfl
   have e18 : a.tmps[18]? = some (undef) := by rw [ha]; exact putSel_on (e := (6, 18, undef)) 6 rfl rfl (hon 6 (by kernel_rfl)) rfl
   replace ha := Aside0.mk ha
   have HR := Aside0.mk Q_HR
   have HB := Aside0.mk Q_HB
   have X3 := Aside0.mk Q_X3
   have X4 := Aside0.mk Q_X4
   refine value_ (w1 := w') (v := (.bool true)) (by rfl) rfl ?_ ?_
   ·go_simp
    (try simp only [i64_w])
    try rfl
   refine hK.out _ _ ⟨(by rw [ha.out]; exact putSel_upk 7 hb_ rfl rfl rfl), Q_HR, Q_HB, Q_X3, Q_X4⟩
  refine steps_cons ?_ ?_
  ·rintro b a w' ⟨ha, Q_HR, Q_HB, Q_X3, Q_X4⟩ hb_ hon hoff
   refine ⟨_, rfl, fun K hK => ?_⟩
   have e19 : a.tmps[19]? = some ((.bool true)) := by rw [ha]; exact putSel_on (e := (7, 19, (.bool true))) 7 rfl rfl (hon 7 (by kernel_rfl)) rfl
   replace ha := Aside0.mk ha
   have HR := Aside0.mk Q_HR
   have HB := Aside0.mk Q_HB
   have X3 := Aside0.mk Q_X3
   have X4 := Aside0.mk Q_X4
   refine value_ (w1 := w') (v := (.bool true)) (by rfl) rfl ?_ ?_
   ·go_simp
    (try simp only [i64_w])
    try rfl
   refine hK.out _ _ ⟨(by rw [ha.out]; exact putSel_upk 8 hb_ rfl rfl rfl), Q_HR, Q_HB, Q_X3, Q_X4⟩
  refine steps_cons ?_ ?_
  ·rintro b a w' ⟨ha, Q_HR, Q_HB, Q_X3, Q_X4⟩ hb_ hon hoff
   refine ⟨_, rfl, fun K hK => ?_⟩
   have e20 : a.tmps[20]? = some ((.bool true)) := by rw [ha]; exact putSel_on (e := (8, 20, (.bool true))) 8 rfl rfl (hon 8 (by kernel_rfl)) rfl
   replace ha := Aside0.mk ha
   have HR := Aside0.mk Q_HR
   have HB := Aside0.mk Q_HB
   have X3 := Aside0.mk Q_X3
   have X4 := Aside0.mk Q_X4
   refine off_ (wanted_off rfl rfl rfl (e20.trans (by first | rfl | (simp [*]; done)))) ?_
   refine hK.out _ _ ⟨(by rw [ha.out]; exact putSel_upk 9 hb_ rfl rfl rfl), Q_HR, Q_HB, Q_X3, Q_X4⟩
  refine steps_cons ?_ ?_
  ·rintro b a w' ⟨ha, Q_HR, Q_HB, Q_X3, Q_X4⟩ hb_ hon hoff
   refine ⟨_, rfl, fun K hK => ?_⟩
   have e20 : a.tmps[20]? = some ((.bool true)) := by rw [ha]; exact putSel_on (e := (8, 20, (.bool true))) 8 rfl rfl (hon 8 (by kernel_rfl)) rfl
   replace ha := Aside0.mk ha
   have HR := Aside0.mk Q_HR
   have HB := Aside0.mk Q_HB
   have X3 := Aside0.mk Q_X3
   have X4 := Aside0.mk Q_X4
   refine off_ (wanted_off rfl rfl rfl (e20.trans (by first | rfl | (simp [*]; done)))) ?_
   refine hK.out _ _ ⟨(by rw [ha.out]; exact putSel_upk 10 hb_ rfl rfl rfl), Q_HR, Q_HB, Q_X3, Q_X4⟩
  refine steps_cons ?_ ?_
  ·rintro b a w' ⟨ha, Q_HR, Q_HB, Q_X3, Q_X4⟩ hb_ hon hoff
   refine ⟨_, rfl, fun K hK => ?_⟩
   have e20 : a.tmps[20]? = some ((.bool true)) := by rw [ha]; exact putSel_on (e := (8, 20, (.bool true))) 8 rfl rfl (hon 8 (by kernel_rfl)) rfl
   replace ha := Aside0.mk ha
   have HR := Aside0.mk Q_HR
   have HB := Aside0.mk Q_HB
   have X3 := Aside0.mk Q_X3
   have X4 := Aside0.mk Q_X4
   refine off_ (wanted_off rfl rfl rfl (e20.trans (by first | rfl | (simp [*]; done)))) ?_
   refine hK.out _ _ ⟨(by rw [ha.out]; exact putSel_upk 11 hb_ rfl rfl rfl), Q_HR, Q_HB, Q_X3, Q_X4⟩
  refine steps_cons ?_ ?_
  ·rintro b a w' ⟨ha, Q_HR, Q_HB, Q_X3, Q_X4⟩ hb_ hon hoff
   refine ⟨_, rfl, fun K hK => ?_⟩
   have e20 : a.tmps[20]? = some ((.bool true)) := by rw [ha]; exact putSel_on (e := (8, 20, (.bool true))) 8 rfl rfl (hon 8 (by kernel_rfl)) rfl
   replace ha := Aside0.mk ha
   have HR := Aside0.mk Q_HR
   have HB := Aside0.mk Q_HB
   have X3 := Aside0.mk Q_X3
   have X4 := Aside0.mk Q_X4
   refine off_ (wanted_off rfl rfl rfl (e20.trans (by first | rfl | (simp [*]; done)))) ?_
   refine hK.out _ _ ⟨(by rw [ha.out]; exact putSel_upk 12 hb_ rfl rfl rfl), Q_HR, Q_HB, Q_X3, Q_X4⟩
  refine steps_cons ?_ ?_
  ·rintro b a w' ⟨ha, Q_HR, Q_HB, Q_X3, Q_X4⟩ hb_ hon hoff
   refine ⟨_, rfl, fun K hK => ?_⟩
   have e20 : a.tmps[20]? = some ((.bool true)) := by rw [ha]; exact putSel_on (e := (8, 20, (.bool true))) 8 rfl rfl (hon 8 (by kernel_rfl)) rfl
   replace ha := Aside0.mk ha
   have HR := Aside0.mk Q_HR
   have HB := Aside0.mk Q_HB
   have X3 := Aside0.mk Q_X3
   have X4 := Aside0.mk Q_X4
   refine off_ (wanted_off rfl rfl rfl (e20.trans (by first | rfl | (simp [*]; done)))) ?_
   refine hK.out _ _ ⟨(by rw [ha.out]; exact putSel_upk 13 hb_ rfl rfl rfl), Q_HR, Q_HB, Q_X3, Q_X4⟩
  refine steps_cons ?_ ?_
  ·rintro b a w' ⟨ha, Q_HR, Q_HB, Q_X3, Q_X4⟩ hb_ hon hoff
   refine ⟨_, rfl, fun K hK => ?_⟩
   have e20 : a.tmps[20]? = some ((.bool true)) := by rw [ha]; exact putSel_on (e := (8, 20, (.bool true))) 8 rfl rfl (hon 8 (by kernel_rfl)) rfl
   have e25 : a.tmps[25]? = some (undef) := by rw [ha]; exact putSel_on (e := (13, 25, undef)) 13 rfl rfl (hon 13 (by kernel_rfl)) rfl
   replace ha := Aside0.mk ha
   have HR := Aside0.mk Q_HR
   have HB := Aside0.mk Q_HB
   have X3 := Aside0.mk Q_X3
   have X4 := Aside0.mk Q_X4
   refine value_ (w1 := w') (v := (.bool true)) (by rfl) rfl ?_ ?_
   ·go_simp
    (try simp only [i64_w])
    try rfl
   refine hK.out _ _ ⟨(by rw [ha.out]; exact putSel_upk 14 hb_ rfl rfl rfl), Q_HR, Q_HB, Q_X3, Q_X4⟩
  refine steps_cons ?_ ?_
  ·rintro b a w' ⟨ha, Q_HR, Q_HB, Q_X3, Q_X4⟩ hb_ hon hoff
   refine ⟨_, rfl, fun K hK => ?_⟩
   have e26 : a.tmps[26]? = some ((.bool true)) := by rw [ha]; exact putSel_on (e := (14, 26, (.bool true))) 14 rfl rfl (hon 14 (by kernel_rfl)) rfl
   replace ha := Aside0.mk ha
   have HR := Aside0.mk Q_HR
   have HB := Aside0.mk Q_HB
   have X3 := Aside0.mk Q_X3
   have X4 := Aside0.mk Q_X4
   refine value_ (w1 := w') (v := (.bool true)) (by rfl) rfl ?_ ?_
   ·go_simp
    (try simp only [i64_w])
    try rfl
   refine hK.out _ _ ⟨(by rw [ha.out]; exact putSel_upk 15 hb_ rfl rfl rfl), Q_HR, Q_HB, Q_X3, Q_X4⟩
  refine steps_cons ?_ ?_
  ·rintro b a w' ⟨ha, Q_HR, Q_HB, Q_X3, Q_X4⟩ hb_ hon hoff
   refine ⟨_, rfl, fun K hK => ?_⟩
   have e27 : a.tmps[27]? = some ((.bool true)) := by rw [ha]; exact putSel_on (e := (15, 27, (.bool true))) 15 rfl rfl (hon 15 (by kernel_rfl)) rfl
   replace ha := Aside0.mk ha
   have HR := Aside0.mk Q_HR
   have HB := Aside0.mk Q_HB
   have X3 := Aside0.mk Q_X3
   have X4 := Aside0.mk Q_X4
   refine off_ (wanted_off rfl rfl rfl (e27.trans (by first | rfl | (simp [*]; done)))) ?_
   refine hK.out _ _ ⟨(by rw [ha.out]; exact putSel_upk 16 hb_ rfl rfl rfl), Q_HR, Q_HB, Q_X3, Q_X4⟩
  refine steps_cons ?_ ?_
  ·rintro b a w' ⟨ha, Q_HR, Q_HB, Q_X3, Q_X4⟩ hb_ hon hoff
   refine ⟨_, rfl, fun K hK => ?_⟩
   have e27 : a.tmps[27]? = some ((.bool true)) := by rw [ha]; exact putSel_on (e := (15, 27, (.bool true))) 15 rfl rfl (hon 15 (by kernel_rfl)) rfl
   replace ha := Aside0.mk ha
   have HR := Aside0.mk Q_HR
   have HB := Aside0.mk Q_HB
   have X3 := Aside0.mk Q_X3
   have X4 := Aside0.mk Q_X4
   refine off_ (wanted_off rfl rfl rfl (e27.trans (by first | rfl | (simp [*]; done)))) ?_
   refine hK.out _ _ ⟨(by rw [ha.out]; exact putSel_upk 17 hb_ rfl rfl rfl), Q_HR, Q_HB, Q_X3, Q_X4⟩
  refine steps_cons ?_ ?_
  ·rintro b a w' ⟨ha, Q_HR, Q_HB, Q_X3, Q_X4⟩ hb_ hon hoff
   refine ⟨_, rfl, fun K hK => ?_⟩
   have e27 : a.tmps[27]? = some ((.bool true)) := by rw [ha]; exact putSel_on (e := (15, 27, (.bool true))) 15 rfl rfl (hon 15 (by kernel_rfl)) rfl
   replace ha := Aside0.mk ha
   have HR := Aside0.mk Q_HR
   have HB := Aside0.mk Q_HB
   have X3 := Aside0.mk Q_X3
   have X4 := Aside0.mk Q_X4
   refine off_ (wanted_off rfl rfl rfl (e27.trans (by first | rfl | (simp [*]; done)))) ?_
   refine hK.out _ _ ⟨(by rw [ha.out]; exact putSel_upk 18 hb_ rfl rfl rfl), Q_HR, Q_HB, Q_X3, Q_X4⟩
  refine steps_cons ?_ ?_
  ·rintro b a w' ⟨ha, Q_HR, Q_HB, Q_X3, Q_X4⟩ hb_ hon hoff
   refine ⟨_, rfl, fun K hK => ?_⟩
   have e27 : a.tmps[27]? = some ((.bool true)) := by rw [ha]; exact putSel_on (e := (15, 27, (.bool true))) 15 rfl rfl (hon 15 (by kernel_rfl)) rfl
   replace ha := Aside0.mk ha
   have HR := Aside0.mk Q_HR
   have HB := Aside0.mk Q_HB
   have X3 := Aside0.mk Q_X3
   have X4 := Aside0.mk Q_X4
   refine off_ (wanted_off rfl rfl rfl (e27.trans (by first | rfl | (simp [*]; done)))) ?_
   refine hK.out _ _ ⟨(by rw [ha.out]; exact putSel_upk 19 hb_ rfl rfl rfl), Q_HR, Q_HB, Q_X3, Q_X4⟩
  refine steps_cons ?_ ?_
  ·rintro b a w' ⟨ha, Q_HR, Q_HB, Q_X3, Q_X4⟩ hb_ hon hoff
   refine ⟨_, rfl, fun K hK => ?_⟩
   have e27 : a.tmps[27]? = some ((.bool true)) := by rw [ha]; exact putSel_on (e := (15, 27, (.bool true))) 15 rfl rfl (hon 15 (by kernel_rfl)) rfl
   replace ha := Aside0.mk ha
   have HR := Aside0.mk Q_HR
   have HB := Aside0.mk Q_HB
   have X3 := Aside0.mk Q_X3
   have X4 := Aside0.mk Q_X4
   refine off_ (wanted_off rfl rfl rfl (e27.trans (by first | rfl | (simp [*]; done)))) ?_
   refine hK.out _ _ ⟨(by rw [ha.out]; exact putSel_upk 20 hb_ rfl rfl rfl), Q_HR, Q_HB, Q_X3, Q_X4⟩
  refine steps_cons ?_ ?_
  ·rintro b a w' ⟨ha, Q_HR, Q_HB, Q_X3, Q_X4⟩ hb_ hon hoff
   refine ⟨_, rfl, fun K hK => ?_⟩
   have e27 : a.tmps[27]? = some ((.bool true)) := by rw [ha]; exact putSel_on (e := (15, 27, (.bool true))) 15 rfl rfl (hon 15 (by kernel_rfl)) rfl
   have e32 : a.tmps[32]? = some (undef) := by rw [ha]; exact putSel_on (e := (20, 32, undef)) 20 rfl rfl (hon 20 (by kernel_rfl)) rfl
   replace ha := Aside0.mk ha
   have HR := Aside0.mk Q_HR
   have HB := Aside0.mk Q_HB
   have X3 := Aside0.mk Q_X3
   have X4 := Aside0.mk Q_X4
   refine value_ (w1 := w') (v := (.bool true)) (by rfl) rfl ?_ ?_
   ·go_simp
    (try simp only [i64_w])
    try rfl
   refine hK.out _ _ ⟨(by rw [ha.out]; exact putSel_upk 21 hb_ rfl rfl rfl), Q_HR, Q_HB, Q_X3, Q_X4⟩
  exact steps_nil
 rintro b a we hall ⟨ha, Q_HR, Q_HB, Q_X3, Q_X4⟩
 clear HB HR X3 X4
 have hb0_ := hall 0 (by kernel_rfl)
 have hb1_ := hall 1 (by kernel_rfl)
 have hb2_ := hall 2 (by kernel_rfl)
 have hb3_ := hall 3 (by kernel_rfl)
 have hb4_ := hall 4 (by kernel_rfl)
 have hb5_ := hall 5 (by kernel_rfl)
 have hb6_ := hall 6 (by kernel_rfl)
 have hb7_ := hall 7 (by kernel_rfl)
 have hb8_ := hall 8 (by kernel_rfl)
 have hb9_ := hall 9 (by kernel_rfl)
 have hb10_ := hall 10 (by kernel_rfl)
 have hb11_ := hall 11 (by kernel_rfl)
 have hb12_ := hall 12 (by kernel_rfl)
 have hb13_ := hall 13 (by kernel_rfl)
 have hb14_ := hall 14 (by kernel_rfl)
 have hb15_ := hall 15 (by kernel_rfl)
 have hb16_ := hall 16 (by kernel_rfl)
 have hb17_ := hall 17 (by kernel_rfl)
 have hb18_ := hall 18 (by kernel_rfl)
 have hb19_ := hall 19 (by kernel_rfl)
 have hb20_ := hall 20 (by kernel_rfl)
 have hb21_ := hall 21 (by kernel_rfl)
 subst ha
 simp only [putSel, hb0_, hb1_, hb2_, hb3_, hb4_, hb5_, hb6_, hb7_, hb8_, hb9_, hb10_, hb11_, hb12_, hb13_, hb14_, hb15_, hb16_, hb17_, hb18_, hb19_, hb20_, hb21_, if_true, Act.put, List.setIfInBounds_toArray, List.set_cons_zero, List.set_cons_succ]
 have HR := Aside0.mk Q_HR
 clear Q_HR
 have HB := Aside0.mk Q_HB
 clear Q_HB
 have X3 := Aside0.mk Q_X3
 clear Q_X3
 have X4 := Aside0.mk Q_X4
 clear Q_X4
 clear hall hb0_ hb1_ hb2_ hb3_ hb4_ hb5_ hb6_ hb7_ hb8_ hb9_ hb10_ hb11_ hb12_ hb13_ hb14_ hb15_ hb16_ hb17_ hb18_ hb19_ hb20_ hb21_
 have c40 := X4.out.c0
 have c41 := X4.out.c1
 have f40 := X4.out.fz 0
 have f41 := X4.out.fz 1
 go_wp2_with fail
 refine bodyPost_ret (res_span _ _ (w.heap.size + 1) 0 0 false rfl rfl (blk_put (blk_put X4.out 0 _ rfl) 1 _ rfl)) rfl ?_
 exact ⟨rfl, below_set' (below_set' HB.out (by omega)) (by omega)⟩
set_option maxHeartbeats 4000000 in
set_option maxRecDepth 100000 in
theorem span_no2 (A0 : Option Addr) (c0 : Nat) (l0 : List Rn) (xa xb : Int) (w : World) (h : RC w A0 l0) (hc : l0.length ≤ c0) (hl : l0.length ≤ 140737488351232) (hg : good l0 = true) (ha : xa < 0) :
  Calls Try.prog 35 #[.slice A0 l0.length c0, .agg #[.int .i64 xa, .int .i64 xb]] w (SpanPost ((0, 0), false) w) := by
 have HG := Aside0.mk (good_c A0 c0 l0 hc hl)
 have HI := Aside0.mk (in_c A0 c0 l0 hc hl hg)
 rw [hg] at HG
 have H0 := Aside0.mk h
 clear h hc hl hg
 go_enter Try.func35, Try.ntmps35
 go_wp2_with fail
 obtain ⟨w2, hw2⟩ : ∃ w2, w2 = (w.alloc (.cells #[.int .i64 xa, .int .i64 xb] 42)).alloc (.cells #[.int .i64 0, .int .i64 0] 42) := ⟨_, rfl⟩
 have hb2 : Below w.heap.size w w2 := by rw [hw2]; exact below_alloc (below_alloc (Below.refl _ _) _) _
 have HB := Aside0.mk hb2
 have HR := Aside0.mk (H0.out.below hb2)
 have X3 := Aside0.mk (show Sx w.heap.size xa xb w2 by rw [hw2]; exact (show Sx w.heap.size xa xb (w.alloc _) from Own.heap_new w _).below (below_alloc (Below.refl _ _) _))
 have X4 := Aside0.mk (show Sx (w.heap.size + 1) 0 0 w2 by
  rw [hw2]
  have := Own.heap_new (w.alloc (.cells #[.int .i64 xa, .int .i64 xb] 42)) (.cells #[.int .i64 0, .int .i64 0] 42)
  rwa [World.size_alloc] at this)
 rw [← hw2]
 clear hw2 hb2
 refine start_ (n := 22) (S := fun w' => True) (ds := []) #[false, false, false, false, false, false, false, false, false, false, false, false, false, false, false, false, false, false, false, false, false, false] (by kernel_rfl) rfl rfl trivial (fun hHeld => ?_); refine with_tabW PlaceS.tab1 PlaceS.bits1 (fun HT_ HW_ => ?_)
 refine inv_at [0, 1, 2, 3, 4, 5, 6, 7, 8, 9, 10, 11, 12, 13, 14, 15, 16, 17, 18, 19, 20, 21] (fun a0_ b a w' => a = putSel a0_ b [(0, 12, (.slice A0 l0.length c0)), (1, 13, (.bool true)), (2, 14, (.bool false)), (3, 15, (.bool false)), (4, 16, (.pointer (some ⟨w.heap.size, 0, none⟩))), (5, 17, (.int .i64 xa)), (6, 18, (.bool true)), (7, 19, (.bool true)), (8, 20, (.bool true)), (9, 21, undef), (10, 22, undef), (11, 23, undef), (12, 24, undef), (13, 25, undef), (14, 26, (.bool true)), (15, 27, (.bool true)), (16, 28, undef), (17, 29, undef), (18, 30, undef), (19, 31, undef), (20, 32, undef), (21, 33, (.bool true))] ∧ (RC w' A0 l0) ∧ (Below w.heap.size w w') ∧ (Sx w.heap.size xa xb w') ∧ (Sx (w.heap.size + 1) 0 0 w')) HT_.out HW_.out (by kernel_rfl) (by kernel_rfl) ?_ ?_ ?_
 ·exact ⟨by simp only [putSel, Bool.false_eq_true, if_false], HR.out.below (below_drew1 (Below.refl _ _)), below_drew1 HB.out, X3.out.below (below_drew1 (Below.refl _ _)), X4.out.below (below_drew1 (Below.refl _ _))⟩
 ·skip
  clear HB HR X3 X4
  refine steps_cons ?_ ?_
  ·rintro b a w' ⟨ha, Q_HR, Q_HB, Q_X3, Q_X4⟩ hb_ hon hoff
   refine ⟨_, rfl, fun K hK => ?_⟩
   have e0 : a.tmps[0]? = some ((.slice A0 l0.length c0)) := by rw [ha]; exact (putSel_off rfl).trans rfl
   replace ha := Aside0.mk ha
   have HR := Aside0.mk Q_HR
   have HB := Aside0.mk Q_HB
   have X3 := Aside0.mk Q_X3
   have X4 := Aside0.mk Q_X4
   refine value_ (w1 := w') (v := (.slice A0 l0.length c0)) (by rfl) rfl ?_ ?_
   ·go_simp
    (try simp only [i64_w])
    try rfl
   refine hK.out _ _ ⟨(by rw [ha.out]; exact putSel_upk 0 hb_ rfl rfl rfl), Q_HR, Q_HB, Q_X3, Q_X4⟩
  refine steps_cons ?_ ?_
  ·rintro b a w' ⟨ha, Q_HR, Q_HB, Q_X3, Q_X4⟩ hb_ hon hoff
   refine ⟨_, rfl, fun K hK => ?_⟩
   have e12 : a.tmps[12]? = some ((.slice A0 l0.length c0)) := by rw [ha]; exact putSel_on (e := (0, 12, (.slice A0 l0.length c0))) 0 rfl rfl (hon 0 (by kernel_rfl)) rfl
   replace ha := Aside0.mk ha
   have HR := Aside0.mk Q_HR
   have HB := Aside0.mk Q_HB
   have X3 := Aside0.mk Q_X3
   have X4 := Aside0.mk Q_X4
   refine goes_ Try.func30 (by kernel_rfl) rfl #[.slice A0 l0.length c0] (by rfl) rfl rfl (by first | (simp only [List.map_toArray, List.map_cons, List.map_nil, Act.eval, Array.getD_eq_getD_getElem?, Option.getD_some, e12]; done) | (simp only [List.map_toArray, List.map_cons, List.map_nil, Act.eval, Array.getD_eq_getD_getElem?, Option.getD_some, e12]; rfl)) ?_
   refine (HG.out _ HR.out).mono ?_
   rintro e w1_ ⟨rfl, hb⟩
   refine ⟨_, rfl, ?_⟩
   refine hK.out _ _ ⟨(by rw [ha.out]; exact putSel_upk 1 hb_ rfl rfl rfl), HR.out.below hb, below_step HB.out hb, X3.out.below hb, X4.out.below hb⟩
  refine steps_cons ?_ ?_
  ·rintro b a w' ⟨ha, Q_HR, Q_HB, Q_X3, Q_X4⟩ hb_ hon hoff
   refine ⟨_, rfl, fun K hK => ?_⟩
   have e13 : a.tmps[13]? = some ((.bool true)) := by rw [ha]; exact putSel_on (e := (1, 13, (.bool true))) 1 rfl rfl (hon 1 (by kernel_rfl)) rfl
   replace ha := Aside0.mk ha
   have HR := Aside0.mk Q_HR
   have HB := Aside0.mk Q_HB
   have X3 := Aside0.mk Q_X3
   have X4 := Aside0.mk Q_X4
   refine value_ (w1 := w') (v := (.bool false)) (by rfl) rfl ?_ ?_
   ·go_simp
    (try simp only [i64_w])
    try rfl
   refine hK.out _ _ ⟨(by rw [ha.out]; exact putSel_upk 2 hb_ rfl rfl rfl), Q_HR, Q_HB, Q_X3, Q_X4⟩
  refine steps_cons ?_ ?_
  ·rintro b a w' ⟨ha, Q_HR, Q_HB, Q_X3, Q_X4⟩ hb_ hon hoff
   refine ⟨_, rfl, fun K hK => ?_⟩
   have e14 : a.tmps[14]? = some ((.bool false)) := by rw [ha]; exact putSel_on (e := (2, 14, (.bool false))) 2 rfl rfl (hon 2 (by kernel_rfl)) rfl
   replace ha := Aside0.mk ha
   have HR := Aside0.mk Q_HR
   have HB := Aside0.mk Q_HB
   have X3 := Aside0.mk Q_X3
   have X4 := Aside0.mk Q_X4
   refine value_ (w1 := w') (v := (.bool false)) (by rfl) rfl ?_ ?_
   ·go_simp
    (try simp only [i64_w])
    try rfl
   refine hK.out _ _ ⟨(by rw [ha.out]; exact putSel_upk 3 hb_ rfl rfl rfl), Q_HR, Q_HB, Q_X3, Q_X4⟩
  refine steps_cons ?_ ?_
  ·rintro b a w' ⟨ha, Q_HR, Q_HB, Q_X3, Q_X4⟩ hb_ hon hoff
   refine ⟨_, rfl, fun K hK => ?_⟩
   have e3 : a.tmps[3]? = some ((.pointer (some ⟨w.heap.size, 0, none⟩))) := by rw [ha]; exact (putSel_off rfl).trans rfl
   have e15 : a.tmps[15]? = some ((.bool false)) := by rw [ha]; exact putSel_on (e := (3, 15, (.bool false))) 3 rfl rfl (hon 3 (by kernel_rfl)) rfl
   replace ha := Aside0.mk ha
   have HR := Aside0.mk Q_HR
   have HB := Aside0.mk Q_HB
   have X3 := Aside0.mk Q_X3
   have X4 := Aside0.mk Q_X4
   refine value_ (w1 := w') (v := (.pointer (some ⟨w.heap.size, 0, none⟩))) (wanted_on rfl rfl rfl (e15.trans (by first | rfl | (simp [*]; done)))) rfl ?_ ?_
   ·go_simp
    (try simp only [i64_w])
    try rfl
   refine hK.out _ _ ⟨(by rw [ha.out]; exact putSel_upk 4 hb_ rfl rfl rfl), Q_HR, Q_HB, Q_X3, Q_X4⟩
  refine steps_cons ?_ ?_
  ·rintro b a w' ⟨ha, Q_HR, Q_HB, Q_X3, Q_X4⟩ hb_ hon hoff
   refine ⟨_, rfl, fun K hK => ?_⟩
   have e16 : a.tmps[16]? = some ((.pointer (some ⟨w.heap.size, 0, none⟩))) := by rw [ha]; exact putSel_on (e := (4, 16, (.pointer (some ⟨w.heap.size, 0, none⟩)))) 4 rfl rfl (hon 4 (by kernel_rfl)) rfl
   have e15 : a.tmps[15]? = some ((.bool false)) := by rw [ha]; exact putSel_on (e := (3, 15, (.bool false))) 3 rfl rfl (hon 3 (by kernel_rfl)) rfl
   replace ha := Aside0.mk ha
   have HR := Aside0.mk Q_HR
   have HB := Aside0.mk Q_HB
   have X3 := Aside0.mk Q_X3
   have X4 := Aside0.mk Q_X4
   have hc_ := X3.out.c0
   refine value_ (w1 := w') (v := (.int .i64 xa)) (wanted_on rfl rfl rfl (e15.trans (by first | rfl | (simp [*]; done)))) rfl ?_ ?_
   ·go_simp
    (try simp only [i64_w])
    try rfl
   refine hK.out _ _ ⟨(by rw [ha.out]; exact putSel_upk 5 hb_ rfl rfl rfl), Q_HR, Q_HB, Q_X3, Q_X4⟩
  refine steps_cons ?_ ?_
  ·rintro b a w' ⟨ha, Q_HR, Q_HB, Q_X3, Q_X4⟩ hb_ hon hoff
   refine ⟨_, rfl, fun K hK => ?_⟩
   have e17 : a.tmps[17]? = some ((.int .i64 xa)) := by rw [ha]; exact putSel_on (e := (5, 17, (.int .i64 xa))) 5 rfl rfl (hon 5 (by kernel_rfl)) rfl
   have e15 : a.tmps[15]? = some ((.bool false)) := by rw [ha]; exact putSel_on (e := (3, 15, (.bool false))) 3 rfl rfl (hon 3 (by kernel_rfl)) rfl
   replace ha := Aside0.mk ha
   have HR := Aside0.mk Q_HR
   have HB := Aside0.mk Q_HB
   have X3 := Aside0.mk Q_X3
   have X4 := Aside0.mk Q_X4
   refine value_ (w1 := w') (v := (.bool true)) (wanted_on rfl rfl rfl (e15.trans (by first | rfl | (simp [*]; done)))) rfl ?_ ?_
   ·go_simp
    (try simp only [i64_w])
    try rfl
   refine hK.out _ _ ⟨(by rw [ha.out]; exact putSel_upk 6 hb_ rfl rfl rfl), Q_HR, Q_HB, Q_X3, Q_X4⟩
  refine steps_cons ?_ ?_
  ·rintro b a w' ⟨ha, Q_HR, Q_HB, Q_X3, Q_X4⟩ hb_ hon hoff
   refine ⟨_, rfl, fun K hK => ?_⟩
   have e15 : a.tmps[15]? = some ((.bool false)) := by rw [ha]; exact putSel_on (e := (3, 15, (.bool false))) 3 rfl rfl (hon 3 (by kernel_rfl)) rfl
   have e18 : a.tmps[18]? = some ((.bool true)) := by rw [ha]; exact putSel_on (e := (6, 18, (.bool true))) 6 rfl rfl (hon 6 (by kernel_rfl)) rfl
   replace ha := Aside0.mk ha
   have HR := Aside0.mk Q_HR
   have HB := Aside0.mk Q_HB
   have X3 := Aside0.mk Q_X3
   have X4 := Aside0.mk Q_X4
   refine value_ (w1 := w') (v := (.bool true)) (by rfl) rfl ?_ ?_
   ·go_simp
    (try simp only [i64_w])
    try rfl
   refine hK.out _ _ ⟨(by rw [ha.out]; exact putSel_upk 7 hb_ rfl rfl rfl), Q_HR, Q_HB, Q_X3, Q_X4⟩
  refine steps_cons ?_ ?_
  ·rintro b a w' ⟨ha, Q_HR, Q_HB, Q_X3, Q_X4⟩ hb_ hon hoff
   refine ⟨_, rfl, fun K hK => ?_⟩
   have e19 : a.tmps[19]? = some ((.bool true)) := by rw [ha]; exact putSel_on (e := (7, 19, (.bool true))) 7 rfl rfl (hon 7 (by kernel_rfl)) rfl
   replace ha := Aside0.mk ha
   have HR := Aside0.mk Q_HR
   have HB := Aside0.mk Q_HB
   have X3 := Aside0.mk Q_X3
   have X4 := Aside0.mk Q_X4
   refine value_ (w1 := w') (v := (.bool true)) (by rfl) rfl ?_ ?_
   ·go_simp
    (try simp only [i64_w])
    try rfl
   refine hK.out _ _ ⟨(by rw [ha.out]; exact putSel_upk 8 hb_ rfl rfl rfl), Q_HR, Q_HB, Q_X3, Q_X4⟩
  refine steps_cons ?_ ?_
  ·rintro b a w' ⟨ha, Q_HR, Q_HB, Q_X3, Q_X4⟩ hb_ hon hoff
   refine ⟨_, rfl, fun K hK => ?_⟩
   have e20 : a.tmps[20]? = some ((.bool true)) := by rw [ha]; exact putSel_on (e := (8, 20, (.bool true))) 8 rfl rfl (hon 8 (by kernel_rfl)) rfl
   replace ha := Aside0.mk ha
   have HR := Aside0.mk Q_HR
   have HB := Aside0.mk Q_HB
   have X3 := Aside0.mk Q_X3
   have X4 := Aside0.mk Q_X4
   refine off_ (wanted_off rfl rfl rfl (e20.trans (by first | rfl | (simp [*]; done)))) ?_
   refine hK.out _ _ ⟨(by rw [ha.out]; exact putSel_upk 9 hb_ rfl rfl rfl), Q_HR, Q_HB, Q_X3, Q_X4⟩
  refine steps_cons ?_ ?_
  ·rintro b a w' ⟨ha, Q_HR, Q_HB, Q_X3, Q_X4⟩ hb_ hon hoff
   refine ⟨_, rfl, fun K hK => ?_⟩
   have e20 : a.tmps[20]? = some ((.bool true)) := by rw [ha]; exact putSel_on (e := (8, 20, (.bool true))) 8 rfl rfl (hon 8 (by kernel_rfl)) rfl
   replace ha := Aside0.mk ha
   have HR := Aside0.mk Q_HR
   have HB := Aside0.mk Q_HB
   have X3 := Aside0.mk Q_X3
   have X4 := Aside0.mk Q_X4
   refine off_ (wanted_off rfl rfl rfl (e20.trans (by first | rfl | (simp [*]; done)))) ?_
   refine hK.out _ _ ⟨(by rw [ha.out]; exact putSel_upk 10 hb_ rfl rfl rfl), Q_HR, Q_HB, Q_X3, Q_X4⟩
  refine steps_cons ?_ ?_
  ·rintro b a w' ⟨ha, Q_HR, Q_HB, Q_X3, Q_X4⟩ hb_ hon hoff
   refine ⟨_, rfl, fun K hK => ?_⟩
   have e20 : a.tmps[20]? = some ((.bool true)) := by rw [ha]; exact putSel_on (e := (8, 20, (.bool true))) 8 rfl rfl (hon 8 (by kernel_rfl)) rfl
   replace ha := Aside0.mk ha
   have HR := Aside0.mk Q_HR
   have HB := Aside0.mk Q_HB
   have X3 := Aside0.mk Q_X3
   have X4 := Aside0.mk Q_X4
   refine off_ (wanted_off rfl rfl rfl (e20.trans (by first | rfl | (simp [*]; done)))) ?_
   refine hK.out _ _ ⟨(by rw [ha.out]; exact putSel_upk 11 hb_ rfl rfl rfl), Q_HR, Q_HB, Q_X3, Q_X4⟩
  refine steps_cons ?_ ?_
  ·rintro b a w' ⟨ha, Q_HR, Q_HB, Q_X3, Q_X4⟩ hb_ hon hoff
   refine ⟨_, rfl, fun K hK => ?_⟩
   have e20 : a.tmps[20]? = some ((.bool true)) := by rw [ha]; exact putSel_on (e := (8, 20, (.bool true))) 8 rfl rfl (hon 8 (by kernel_rfl)) rfl
   replace ha := Aside0.mk ha
   have HR := Aside0.mk Q_HR
   have HB := Aside0.mk Q_HB
   have X3 := Aside0.mk Q_X3
   have X4 := Aside0.mk Q_X4
   refine off_ (wanted_off rfl rfl rfl (e20.trans (by first | rfl | (simp [*]; done)))) ?_
   refine hK.out _ _ ⟨(by rw [ha.out]; exact putSel_upk 12 hb_ rfl rfl rfl), Q_HR, Q_HB, Q_X3, Q_X4⟩
  refine steps_cons ?_ ?_
  ·rintro b a w' ⟨ha, Q_HR, Q_HB, Q_X3, Q_X4⟩ hb_ hon hoff
   refine ⟨_, rfl, fun K hK => ?_⟩
   have e20 : a.tmps[20]? = some ((.bool true)) := by rw [ha]; exact putSel_on (e := (8, 20, (.bool true))) 8 rfl rfl (hon 8 (by kernel_rfl)) rfl
   replace ha := Aside0.mk ha
   have HR := Aside0.mk Q_HR
   have HB := Aside0.mk Q_HB
   have X3 := Aside0.mk Q_X3
   have X4 := Aside0.mk Q_X4
   refine off_ (wanted_off rfl rfl rfl (e20.trans (by first | rfl | (simp [*]; done)))) ?_
   refine hK.out _ _ ⟨(by rw [ha.out]; exact putSel_upk 13 hb_ rfl rfl rfl), Q_HR, Q_HB, Q_X3, Q_X4⟩
  refine steps_cons ?_ ?_
  ·rintro b a w' ⟨ha, Q_HR, Q_HB, Q_X3, Q_X4⟩ hb_ hon hoff
   refine ⟨_, rfl, fun K hK => ?_⟩
   have e20 : a.tmps[20]? = some ((.bool true)) := by rw [ha]; exact putSel_on (e := (8, 20, (.bool true))) 8 rfl rfl (hon 8 (by kernel_rfl)) rfl
   have e25 : a.tmps[25]? = some (undef) := by rw [ha]; exact putSel_on (e := (13, 25, undef)) 13 rfl rfl (hon 13 (by kernel_rfl)) rfl
   replace ha := Aside0.mk ha
   have HR := Aside0.mk Q_HR
   have HB := Aside0.mk Q_HB
   have X3 := Aside0.mk Q_X3
   have X4 := Aside0.mk Q_X4
   refine value_ (w1 := w') (v := (.bool true)) (by rfl) rfl ?_ ?_
   ·go_simp
    (try simp only [i64_w])
    try rfl
   refine hK.out _ _ ⟨(by rw [ha.out]; exact putSel_upk 14 hb_ rfl rfl rfl), Q_HR, Q_HB, Q_X3, Q_X4⟩
  refine steps_cons ?_ ?_
  ·rintro b a w' ⟨ha, Q_HR, Q_HB, Q_X3, Q_X4⟩ hb_ hon hoff
   refine ⟨_, rfl, fun K hK => ?_⟩
   have e26 : a.tmps[26]? = some ((.bool true)) := by rw [ha]; exact putSel_on (e := (14, 26, (.bool true))) 14 rfl rfl (hon 14 (by kernel_rfl)) rfl
   replace ha := Aside0.mk ha
   have HR := Aside0.mk Q_HR
   have HB := Aside0.mk Q_HB
   have X3 := Aside0.mk Q_X3
   have X4 := Aside0.mk Q_X4
   refine value_ (w1 := w') (v := (.bool true)) (by rfl) rfl ?_ ?_
   ·go_simp
    (try simp only [i64_w])
    try rfl
   refine hK.out _ _ ⟨(by rw [ha.out]; exact putSel_upk 15 hb_ rfl rfl rfl), Q_HR, Q_HB, Q_X3, Q_X4⟩
  refine steps_cons ?_ ?_
  ·rintro b a w' ⟨ha, Q_HR, Q_HB, Q_X3, Q_X4⟩ hb_ hon hoff
   refine ⟨_, rfl, fun K hK => ?_⟩
   have e27 : a.tmps[27]? = some ((.bool true)) := by rw [ha]; exact putSel_on (e := (15, 27, (.bool true))) 15 rfl rfl (hon 15 (by kernel_rfl)) rfl
   replace ha := Aside0.mk ha
   have HR := Aside0.mk Q_HR
   have HB := Aside0.mk Q_HB
   have X3 := Aside0.mk Q_X3
   have X4 := Aside0.mk Q_X4
   refine off_ (wanted_off rfl rfl rfl (e27.trans (by first | rfl | (simp [*]; done)))) ?_
   refine hK.out _ _ ⟨(by rw [ha.out]; exact putSel_upk 16 hb_ rfl rfl rfl), Q_HR, Q_HB, Q_X3, Q_X4⟩
  refine steps_cons ?_ ?_
  ·rintro b a w' ⟨ha, Q_HR, Q_HB, Q_X3, Q_X4⟩ hb_ hon hoff
   refine ⟨_, rfl, fun K hK => ?_⟩
   have e27 : a.tmps[27]? = some ((.bool true)) := by rw [ha]; exact putSel_on (e := (15, 27, (.bool true))) 15 rfl rfl (hon 15 (by kernel_rfl)) rfl
   replace ha := Aside0.mk ha
   have HR := Aside0.mk Q_HR
   have HB := Aside0.mk Q_HB
   have X3 := Aside0.mk Q_X3
   have X4 := Aside0.mk Q_X4
   refine off_ (wanted_off rfl rfl rfl (e27.trans (by first | rfl | (simp [*]; done)))) ?_
   refine hK.out _ _ ⟨(by rw [ha.out]; exact putSel_upk 17 hb_ rfl rfl rfl), Q_HR, Q_HB, Q_X3, Q_X4⟩
  refine steps_cons ?_ ?_
  ·rintro b a w' ⟨ha, Q_HR, Q_HB, Q_X3, Q_X4⟩ hb_ hon hoff
   refine ⟨_, rfl, fun K hK => ?_⟩
   have e27 : a.tmps[27]? = some ((.bool true)) := by rw [ha]; exact putSel_on (e := (15, 27, (.bool true))) 15 rfl rfl (hon 15 (by kernel_rfl)) rfl
   replace ha := Aside0.mk ha
   have HR := Aside0.mk Q_HR
   have HB := Aside0.mk Q_HB
   have X3 := Aside0.mk Q_X3
   have X4 := Aside0.mk Q_X4
   refine off_ (wanted_off rfl rfl rfl (e27.trans (by first | rfl | (simp [*]; done)))) ?_
   refine hK.out _ _ ⟨(by rw [ha.out]; exact putSel_upk 18 hb_ rfl rfl rfl), Q_HR, Q_HB, Q_X3, Q_X4⟩
  refine steps_cons ?_ ?_
  ·rintro b a w' ⟨ha, Q_HR, Q_HB, Q_X3, Q_X4⟩ hb_ hon hoff
   refine ⟨_, rfl, fun K hK => ?_⟩
   have e27 : a.tmps[27]? = some ((.bool true)) := by rw [ha]; exact putSel_on (e := (15, 27, (.bool true))) 15 rfl rfl (hon 15 (by kernel_rfl)) rfl
   replace ha := Aside0.mk ha
   have HR := Aside0.mk Q_HR
   have HB := Aside0.mk Q_HB
   have X3 := Aside0.mk Q_X3
   have X4 := Aside0.mk Q_X4
   refine off_ (wanted_off rfl rfl rfl (e27.trans (by first | rfl | (simp [*]; done)))) ?_
   refine hK.out _ _ ⟨(by rw [ha.out]; exact putSel_upk 19 hb_ rfl rfl rfl), Q_HR, Q_HB, Q_X3, Q_X4⟩
  refine steps_cons ?_ ?_
  ·rintro b a w' ⟨ha, Q_HR, Q_HB, Q_X3, Q_X4⟩ hb_ hon hoff
   refine ⟨_, rfl, fun K hK => ?_⟩
   have e27 : a.tmps[27]? = some ((.bool true)) := by rw [ha]; exact putSel_on (e := (15, 27, (.bool true))) 15 rfl rfl (hon 15 (by kernel_rfl)) rfl
   replace ha := Aside0.mk ha
   have HR := Aside0.mk Q_HR
   have HB := Aside0.mk Q_HB
   have X3 := Aside0.mk Q_X3
   have X4 := Aside0.mk Q_X4
   refine off_ (wanted_off rfl rfl rfl (e27.trans (by first | rfl | (simp [*]; done)))) ?_
   refine hK.out _ _ ⟨(by rw [ha.out]; exact putSel_upk 20 hb_ rfl rfl rfl), Q_HR, Q_HB, Q_X3, Q_X4⟩
  refine steps_cons ?_ ?_
  ·rintro b a w' ⟨ha, Q_HR, Q_HB, Q_X3, Q_X4⟩ hb_ hon hoff
   refine ⟨_, rfl, fun K hK => ?_⟩
   have e27 : a.tmps[27]? = some ((.bool true)) := by rw [ha]; exact putSel_on (e := (15, 27, (.bool true))) 15 rfl rfl (hon 15 (by kernel_rfl)) rfl
   have e32 : a.tmps[32]? = some (undef) := by rw [ha]; exact putSel_on (e := (20, 32, undef)) 20 rfl rfl (hon 20 (by kernel_rfl)) rfl
   replace ha := Aside0.mk ha
   have HR := Aside0.mk Q_HR
   have HB := Aside0.mk Q_HB
   have X3 := Aside0.mk Q_X3
   have X4 := Aside0.mk Q_X4
   refine value_ (w1 := w') (v := (.bool true)) (by rfl) rfl ?_ ?_
   ·go_simp
    (try simp only [i64_w])
    try rfl
   refine hK.out _ _ ⟨(by rw [ha.out]; exact putSel_upk 21 hb_ rfl rfl rfl), Q_HR, Q_HB, Q_X3, Q_X4⟩
  exact steps_nil
 rintro b a we hall ⟨ha, Q_HR, Q_HB, Q_X3, Q_X4⟩
 clear HB HR X3 X4
 have hb0_ := hall 0 (by kernel_rfl)
 have hb1_ := hall 1 (by kernel_rfl)
 have hb2_ := hall 2 (by kernel_rfl)
 have hb3_ := hall 3 (by kernel_rfl)
 have hb4_ := hall 4 (by kernel_rfl)
 have hb5_ := hall 5 (by kernel_rfl)
 have hb6_ := hall 6 (by kernel_rfl)
 have hb7_ := hall 7 (by kernel_rfl)
 have hb8_ := hall 8 (by kernel_rfl)
 have hb9_ := hall 9 (by kernel_rfl)
 have hb10_ := hall 10 (by kernel_rfl)
 have hb11_ := hall 11 (by kernel_rfl)
 have hb12_ := hall 12 (by kernel_rfl)
 have hb13_ := hall 13 (by kernel_rfl)
 have hb14_ := hall 14 (by kernel_rfl)
 have hb15_ := hall 15 (by kernel_rfl)
 have hb16_ := hall 16 (by kernel_rfl)
 have hb17_ := hall 17 (by kernel_rfl)
 have hb18_ := hall 18 (by kernel_rfl)
 have hb19_ := hall 19 (by kernel_rfl)
 have hb20_ := hall 20 (by kernel_rfl)
 have hb21_ := hall 21 (by kernel_rfl)
 subst ha
 simp only [putSel, hb0_, hb1_, hb2_, hb3_, hb4_, hb5_, hb6_, hb7_, hb8_, hb9_, hb10_, hb11_, hb12_, hb13_, hb14_, hb15_, hb16_, hb17_, hb18_, hb19_, hb20_, hb21_, if_true, Act.put, List.setIfInBounds_toArray, List.set_cons_zero, List.set_cons_succ]
 have HR := Aside0.mk Q_HR
 clear Q_HR
 have HB := Aside0.mk Q_HB
 clear Q_HB
 have X3 := Aside0.mk Q_X3
 clear Q_X3
 have X4 := Aside0.mk Q_X4
 clear Q_X4
 clear hall hb0_ hb1_ hb2_ hb3_ hb4_ hb5_ hb6_ hb7_ hb8_ hb9_ hb10_ hb11_ hb12_ hb13_ hb14_ hb15_ hb16_ hb17_ hb18_ hb19_ hb20_ hb21_
 have c40 := X4.out.c0
 have c41 := X4.out.c1
 have f40 := X4.out.fz 0
 have f41 := X4.out.fz 1
 go_wp2_with fail
 refine bodyPost_ret (res_span _ _ (w.heap.size + 1) 0 0 false rfl rfl (blk_put (blk_put X4.out 0 _ rfl) 1 _ rfl)) rfl ?_
 exact ⟨rfl, below_set' (below_set' HB.out (by omega)) (by omega)⟩
set_option maxHeartbeats 4000000 in
set_option maxRecDepth 100000 in
theorem span_no3 (A0 : Option Addr) (c0 : Nat) (l0 : List Rn) (xa xb : Int) (w : World) (h : RC w A0 l0) (hc : l0.length ≤ c0) (hl : l0.length ≤ 140737488351232) (hg : good l0 = true) (ha : 0 ≤ xa) (hab : xb < xa) :
  Calls Try.prog 35 #[.slice A0 l0.length c0, .agg #[.int .i64 xa, .int .i64 xb]] w (SpanPost ((0, 0), false) w) := by
 have HG := Aside0.mk (good_c A0 c0 l0 hc hl)
 have HI := Aside0.mk (in_c A0 c0 l0 hc hl hg)
 rw [hg] at HG
 have H0 := Aside0.mk h
 have a1 : decide (xa < 0) = false := by simp; omega
 have a2 : decide (xb < xa) = true := by simpa using hab
 clear h hc hl hg
 go_enter Try.func35, Try.ntmps35
 go_wp2_with fail
 obtain ⟨w2, hw2⟩ : ∃ w2, w2 = (w.alloc (.cells #[.int .i64 xa, .int .i64 xb] 42)).alloc (.cells #[.int .i64 0, .int .i64 0] 42) := ⟨_, rfl⟩
 have hb2 : Below w.heap.size w w2 := by rw [hw2]; exact below_alloc (below_alloc (Below.refl _ _) _) _
 have HB := Aside0.mk hb2
 have HR := Aside0.mk (H0.out.below hb2)
 have X3 := Aside0.mk (show Sx w.heap.size xa xb w2 by rw [hw2]; exact (show Sx w.heap.size xa xb (w.alloc _) from Own.heap_new w _).below (below_alloc (Below.refl _ _) _))
 have X4 := Aside0.mk (show Sx (w.heap.size + 1) 0 0 w2 by
  rw [hw2]
  have := Own.heap_new (w.alloc (.cells #[.int .i64 xa, .int .i64 xb] 42)) (.cells #[.int .i64 0, .int .i64 0] 42)
  rwa [World.size_alloc] at this)
 rw [← hw2]
 clear hw2 hb2
 refine start_ (n := 22) (S := fun w' => True) (ds := []) #[false, false, false, false, false, false, false, false, false, false, false, false, false, false, false, false, false, false, false, false, false, false] (by kernel_rfl) rfl rfl trivial (fun hHeld => ?_); refine with_tabW PlaceS.tab1 PlaceS.bits1 (fun HT_ HW_ => ?_)
 refine inv_at [0, 1, 2, 3, 4, 5, 6, 7, 8, 9, 10, 11, 12, 13, 14, 15, 16, 17, 18, 19, 20, 21] (fun a0_ b a w' => a = putSel a0_ b [(0, 12, (.slice A0 l0.length c0)), (1, 13, (.bool true)), (2, 14, (.bool false)), (3, 15, (.bool false)), (4, 16, (.pointer (some ⟨w.heap.size, 0, none⟩))), (5, 17, (.int .i64 xa)), (6, 18, (.bool false)), (7, 19, (.bool false)), (8, 20, (.bool false)), (9, 21, (.pointer (some ⟨w.heap.size, 0, none⟩))), (10, 22, (.int .i64 xa)), (11, 23, (.pointer (some ⟨w.heap.size, 1, none⟩))), (12, 24, (.int .i64 xb)), (13, 25, (.bool true)), (14, 26, (.bool true)), (15, 27, (.bool true)), (16, 28, undef), (17, 29, undef), (18, 30, undef), (19, 31, undef), (20, 32, undef), (21, 33, (.bool true))] ∧ (RC w' A0 l0) ∧ (Below w.heap.size w w') ∧ (Sx w.heap.size xa xb w') ∧ (Sx (w.heap.size + 1) 0 0 w')) HT_.out HW_.out (by kernel_rfl) (by kernel_rfl) ?_ ?_ ?_
 ·exact ⟨by simp only [putSel, Bool.false_eq_true, if_false], HR.out.below (below_drew1 (Below.refl _ _)), below_drew1 HB.out, X3.out.below (below_drew1 (Below.refl _ _)), X4.out.below (below_drew1 (Below.refl _ _))⟩
 ·skip
  clear HB HR X3 X4
  refine steps_cons ?_ ?_
  ·rintro b a w' ⟨ha, Q_HR, Q_HB, Q_X3, Q_X4⟩ hb_ hon hoff
   refine ⟨_, rfl, fun K hK => ?_⟩
   have e0 : a.tmps[0]? = some ((.slice A0 l0.length c0)) := by rw [ha]; exact (putSel_off rfl).trans rfl
   replace ha := Aside0.mk ha
   have HR := Aside0.mk Q_HR
   have HB := Aside0.mk Q_HB
   have X3 := Aside0.mk Q_X3
   have X4 := Aside0.mk Q_X4
   refine value_ (w1 := w') (v := (.slice A0 l0.length c0)) (by rfl) rfl ?_ ?_
   ·go_simp
    (try simp only [i64_w])
    try rfl
   refine hK.out _ _ ⟨(by rw [ha.out]; exact putSel_upk 0 hb_ rfl rfl rfl), Q_HR, Q_HB, Q_X3, Q_X4⟩
  refine steps_cons ?_ ?_
  ·rintro b a w' ⟨ha, Q_HR, Q_HB, Q_X3, Q_X4⟩ hb_ hon hoff
   refine ⟨_, rfl, fun K hK => ?_⟩
   have e12 : a.tmps[12]? = some ((.slice A0 l0.length c0)) := by rw [ha]; exact putSel_on (e := (0, 12, (.slice A0 l0.length c0))) 0 rfl rfl (hon 0 (by kernel_rfl)) rfl
   replace ha := Aside0.mk ha
   have HR := Aside0.mk Q_HR
   have HB := Aside0.mk Q_HB
   have X3 := Aside0.mk Q_X3
   have X4 := Aside0.mk Q_X4
   refine goes_ Try.func30 (by kernel_rfl) rfl #[.slice A0 l0.length c0] (by rfl) rfl rfl (by first | (simp only [List.map_toArray, List.map_cons, List.map_nil, Act.eval, Array.getD_eq_getD_getElem?, Option.getD_some, e12]; done) | (simp only [List.map_toArray, List.map_cons, List.map_nil, Act.eval, Array.getD_eq_getD_getElem?, Option.getD_some, e12]; rfl)) ?_
   refine (HG.out _ HR.out).mono ?_
   rintro e w1_ ⟨rfl, hb⟩
   refine ⟨_, rfl, ?_⟩
   refine hK.out _ _ ⟨(by rw [ha.out]; exact putSel_upk 1 hb_ rfl rfl rfl), HR.out.below hb, below_step HB.out hb, X3.out.below hb, X4.out.below hb⟩
  refine steps_cons ?_ ?_
  ·rintro b a w' ⟨ha, Q_HR, Q_HB, Q_X3, Q_X4⟩ hb_ hon hoff
   refine ⟨_, rfl, fun K hK => ?_⟩
   have e13 : a.tmps[13]? = some ((.bool true)) := by rw [ha]; exact putSel_on (e := (1, 13, (.bool true))) 1 rfl rfl (hon 1 (by kernel_rfl)) rfl
   replace ha := Aside0.mk ha
   have HR := Aside0.mk Q_HR
   have HB := Aside0.mk Q_HB
   have X3 := Aside0.mk Q_X3
   have X4 := Aside0.mk Q_X4
   refine value_ (w1 := w') (v := (.bool false)) (by rfl) rfl ?_ ?_
   ·go_simp
    (try simp only [i64_w])
    try rfl
   refine hK.out _ _ ⟨(by rw [ha.out]; exact putSel_upk 2 hb_ rfl rfl rfl), Q_HR, Q_HB, Q_X3, Q_X4⟩
  refine steps_cons ?_ ?_
  ·rintro b a w' ⟨ha, Q_HR, Q_HB, Q_X3, Q_X4⟩ hb_ hon hoff
   refine ⟨_, rfl, fun K hK => ?_⟩
   have e14 : a.tmps[14]? = some ((.bool false)) := by rw [ha]; exact putSel_on (e := (2, 14, (.bool false))) 2 rfl rfl (hon 2 (by kernel_rfl)) rfl
   replace ha := Aside0.mk ha
   have HR := Aside0.mk Q_HR
   have HB := Aside0.mk Q_HB
   have X3 := Aside0.mk Q_X3
   have X4 := Aside0.mk Q_X4
   refine value_ (w1 := w') (v := (.bool false)) (by rfl) rfl ?_ ?_
   ·go_simp
    (try simp only [i64_w])
    try rfl
   refine hK.out _ _ ⟨(by rw [ha.out]; exact putSel_upk 3 hb_ rfl rfl rfl), Q_HR, Q_HB, Q_X3, Q_X4⟩
  refine steps_cons ?_ ?_
  ·rintro b a w' ⟨ha, Q_HR, Q_HB, Q_X3, Q_X4⟩ hb_ hon hoff
   refine ⟨_, rfl, fun K hK => ?_⟩
   have e3 : a.tmps[3]? = some ((.pointer (some ⟨w.heap.size, 0, none⟩))) := by rw [ha]; exact (putSel_off rfl).trans rfl
   have e15 : a.tmps[15]? = some ((.bool false)) := by rw [ha]; exact putSel_on (e := (3, 15, (.bool false))) 3 rfl rfl (hon 3 (by kernel_rfl)) rfl
   replace ha := Aside0.mk ha
   have HR := Aside0.mk Q_HR
   have HB := Aside0.mk Q_HB
   have X3 := Aside0.mk Q_X3
   have X4 := Aside0.mk Q_X4
   refine value_ (w1 := w') (v := (.pointer (some ⟨w.heap.size, 0, none⟩))) (wanted_on rfl rfl rfl (e15.trans (by first | rfl | (simp [*]; done)))) rfl ?_ ?_
   ·go_simp
    (try simp only [i64_w])
    try rfl
   refine hK.out _ _ ⟨(by rw [ha.out]; exact putSel_upk 4 hb_ rfl rfl rfl), Q_HR, Q_HB, Q_X3, Q_X4⟩
  refine steps_cons ?_ ?_
  ·rintro b a w' ⟨ha, Q_HR, Q_HB, Q_X3, Q_X4⟩ hb_ hon hoff
   refine ⟨_, rfl, fun K hK => ?_⟩
   have e16 : a.tmps[16]? = some ((.pointer (some ⟨w.heap.size, 0, none⟩))) := by rw [ha]; exact putSel_on (e := (4, 16, (.pointer (some ⟨w.heap.size, 0, none⟩)))) 4 rfl rfl (hon 4 (by kernel_rfl)) rfl
   have e15 : a.tmps[15]? = some ((.bool false)) := by rw [ha]; exact putSel_on (e := (3, 15, (.bool false))) 3 rfl rfl (hon 3 (by kernel_rfl)) rfl
   replace ha := Aside0.mk ha
   have HR := Aside0.mk Q_HR
   have HB := Aside0.mk Q_HB
   have X3 := Aside0.mk Q_X3
   have X4 := Aside0.mk Q_X4
   have hc_ := X3.out.c0
   refine value_ (w1 := w') (v := (.int .i64 xa)) (wanted_on rfl rfl rfl (e15.trans (by first | rfl | (simp [*]; done)))) rfl ?_ ?_
   ·go_simp
    (try simp only [i64_w])
    try rfl
   refine hK.out _ _ ⟨(by rw [ha.out]; exact putSel_upk 5 hb_ rfl rfl rfl), Q_HR, Q_HB, Q_X3, Q_X4⟩
  refine steps_cons ?_ ?_
  ·rintro b a w' ⟨ha, Q_HR, Q_HB, Q_X3, Q_X4⟩ hb_ hon hoff
   refine ⟨_, rfl, fun K hK => ?_⟩
   have e17 : a.tmps[17]? = some ((.int .i64 xa)) := by rw [ha]; exact putSel_on (e := (5, 17, (.int .i64 xa))) 5 rfl rfl (hon 5 (by kernel_rfl)) rfl
   have e15 : a.tmps[15]? = some ((.bool false)) := by rw [ha]; exact putSel_on (e := (3, 15, (.bool false))) 3 rfl rfl (hon 3 (by kernel_rfl)) rfl
   replace ha := Aside0.mk ha
   have HR := Aside0.mk Q_HR
   have HB := Aside0.mk Q_HB
   have X3 := Aside0.mk Q_X3
   have X4 := Aside0.mk Q_X4
   refine value_ (w1 := w') (v := (.bool false)) (wanted_on rfl rfl rfl (e15.trans (by first | rfl | (simp [*]; done)))) rfl ?_ ?_
   ·go_simp
    (try simp only [i64_w])
    try rfl
   refine hK.out _ _ ⟨(by rw [ha.out]; exact putSel_upk 6 hb_ rfl rfl rfl), Q_HR, Q_HB, Q_X3, Q_X4⟩
  refine steps_cons ?_ ?_
  ·rintro b a w' ⟨ha, Q_HR, Q_HB, Q_X3, Q_X4⟩ hb_ hon hoff
   refine ⟨_, rfl, fun K hK => ?_⟩
   have e15 : a.tmps[15]? = some ((.bool false)) := by rw [ha]; exact putSel_on (e := (3, 15, (.bool false))) 3 rfl rfl (hon 3 (by kernel_rfl)) rfl
   have e18 : a.tmps[18]? = some ((.bool false)) := by rw [ha]; exact putSel_on (e := (6, 18, (.bool false))) 6 rfl rfl (hon 6 (by kernel_rfl)) rfl
   replace ha := Aside0.mk ha
   have HR := Aside0.mk Q_HR
   have HB := Aside0.mk Q_HB
   have X3 := Aside0.mk Q_X3
   have X4 := Aside0.mk Q_X4
   refine value_ (w1 := w') (v := (.bool false)) (by rfl) rfl ?_ ?_
   ·go_simp
    (try simp only [i64_w])
    try rfl
   refine hK.out _ _ ⟨(by rw [ha.out]; exact putSel_upk 7 hb_ rfl rfl rfl), Q_HR, Q_HB, Q_X3, Q_X4⟩
  refine steps_cons ?_ ?_
  ·rintro b a w' ⟨ha, Q_HR, Q_HB, Q_X3, Q_X4⟩ hb_ hon hoff
   refine ⟨_, rfl, fun K hK => ?_⟩
   have e19 : a.tmps[19]? = some ((.bool false)) := by rw [ha]; exact putSel_on (e := (7, 19, (.bool false))) 7 rfl rfl (hon 7 (by kernel_rfl)) rfl
   replace ha := Aside0.mk ha
   have HR := Aside0.mk Q_HR
   have HB := Aside0.mk Q_HB
   have X3 := Aside0.mk Q_X3
   have X4 := Aside0.mk Q_X4
   refine value_ (w1 := w') (v := (.bool false)) (by rfl) rfl ?_ ?_
   ·go_simp
    (try simp only [i64_w])
    try rfl
   refine hK.out _ _ ⟨(by rw [ha.out]; exact putSel_upk 8 hb_ rfl rfl rfl), Q_HR, Q_HB, Q_X3, Q_X4⟩
  refine steps_cons ?_ ?_
  ·rintro b a w' ⟨ha, Q_HR, Q_HB, Q_X3, Q_X4⟩ hb_ hon hoff
   refine ⟨_, rfl, fun K hK => ?_⟩
   have e3 : a.tmps[3]? = some ((.pointer (some ⟨w.heap.size, 0, none⟩))) := by rw [ha]; exact (putSel_off rfl).trans rfl
   have e20 : a.tmps[20]? = some ((.bool false)) := by rw [ha]; exact putSel_on (e := (8, 20, (.bool false))) 8 rfl rfl (hon 8 (by kernel_rfl)) rfl
   replace ha := Aside0.mk ha
   have HR := Aside0.mk Q_HR
   have HB := Aside0.mk Q_HB
   have X3 := Aside0.mk Q_X3
   have X4 := Aside0.mk Q_X4
   refine value_ (w1 := w') (v := (.pointer (some ⟨w.heap.size, 0, none⟩))) (wanted_on rfl rfl rfl (e20.trans (by first | rfl | (simp [*]; done)))) rfl ?_ ?_
   ·go_simp
    (try simp only [i64_w])
    try rfl
   refine hK.out _ _ ⟨(by rw [ha.out]; exact putSel_upk 9 hb_ rfl rfl rfl), Q_HR, Q_HB, Q_X3, Q_X4⟩
  refine steps_cons ?_ ?_
  ·rintro b a w' ⟨ha, Q_HR, Q_HB, Q_X3, Q_X4⟩ hb_ hon hoff
   refine ⟨_, rfl, fun K hK => ?_⟩
   have e21 : a.tmps[21]? = some ((.pointer (some ⟨w.heap.size, 0, none⟩))) := by rw [ha]; exact putSel_on (e := (9, 21, (.pointer (some ⟨w.heap.size, 0, none⟩)))) 9 rfl rfl (hon 9 (by kernel_rfl)) rfl
   have e20 : a.tmps[20]? = some ((.bool false)) := by rw [ha]; exact putSel_on (e := (8, 20, (.bool false))) 8 rfl rfl (hon 8 (by kernel_rfl)) rfl
   replace ha := Aside0.mk ha
   have HR := Aside0.mk Q_HR
   have HB := Aside0.mk Q_HB
   have X3 := Aside0.mk Q_X3
   have X4 := Aside0.mk Q_X4
   have hc_ := X3.out.c0
   refine value_ (w1 := w') (v := (.int .i64 xa)) (wanted_on rfl rfl rfl (e20.trans (by first | rfl | (simp [*]; done)))) rfl ?_ ?_
   ·go_simp
    (try simp only [i64_w])
    try rfl
   refine hK.out _ _ ⟨(by rw [ha.out]; exact putSel_upk 10 hb_ rfl rfl rfl), Q_HR, Q_HB, Q_X3, Q_X4⟩
  refine steps_cons ?_ ?_
  ·rintro b a w' ⟨ha, Q_HR, Q_HB, Q_X3, Q_X4⟩ hb_ hon hoff
   refine ⟨_, rfl, fun K hK => ?_⟩
   have e3 : a.tmps[3]? = some ((.pointer (some ⟨w.heap.size, 0, none⟩))) := by rw [ha]; exact (putSel_off rfl).trans rfl
   have e20 : a.tmps[20]? = some ((.bool false)) := by rw [ha]; exact putSel_on (e := (8, 20, (.bool false))) 8 rfl rfl (hon 8 (by kernel_rfl)) rfl
   replace ha := Aside0.mk ha
   have HR := Aside0.mk Q_HR
   have HB := Aside0.mk Q_HB
   have X3 := Aside0.mk Q_X3
   have X4 := Aside0.mk Q_X4
   refine value_ (w1 := w') (v := (.pointer (some ⟨w.heap.size, 1, none⟩))) (wanted_on rfl rfl rfl (e20.trans (by first | rfl | (simp [*]; done)))) rfl ?_ ?_
   ·go_simp
    (try simp only [i64_w])
    try rfl
   refine hK.out _ _ ⟨(by rw [ha.out]; exact putSel_upk 11 hb_ rfl rfl rfl), Q_HR, Q_HB, Q_X3, Q_X4⟩
  refine steps_cons ?_ ?_
  ·rintro b a w' ⟨ha, Q_HR, Q_HB, Q_X3, Q_X4⟩ hb_ hon hoff
   refine ⟨_, rfl, fun K hK => ?_⟩
   have e23 : a.tmps[23]? = some ((.pointer (some ⟨w.heap.size, 1, none⟩))) := by rw [ha]; exact putSel_on (e := (11, 23, (.pointer (some ⟨w.heap.size, 1, none⟩)))) 11 rfl rfl (hon 11 (by kernel_rfl)) rfl
   have e20 : a.tmps[20]? = some ((.bool false)) := by rw [ha]; exact putSel_on (e := (8, 20, (.bool false))) 8 rfl rfl (hon 8 (by kernel_rfl)) rfl
   replace ha := Aside0.mk ha
   have HR := Aside0.mk Q_HR
   have HB := Aside0.mk Q_HB
   have X3 := Aside0.mk Q_X3
   have X4 := Aside0.mk Q_X4
   have hc_ := X3.out.c1
   refine value_ (w1 := w') (v := (.int .i64 xb)) (wanted_on rfl rfl rfl (e20.trans (by first | rfl | (simp [*]; done)))) rfl ?_ ?_
   ·go_simp
    (try simp only [i64_w])
    try rfl
   refine hK.out _ _ ⟨(by rw [ha.out]; exact putSel_upk 12 hb_ rfl rfl rfl), Q_HR, Q_HB, Q_X3, Q_X4⟩
  refine steps_cons ?_ ?_
  ·rintro b a w' ⟨ha, Q_HR, Q_HB, Q_X3, Q_X4⟩ hb_ hon hoff
   refine ⟨_, rfl, fun K hK => ?_⟩
   have e22 : a.tmps[22]? = some ((.int .i64 xa)) := by rw [ha]; exact putSel_on (e := (10, 22, (.int .i64 xa))) 10 rfl rfl (hon 10 (by kernel_rfl)) rfl
   have e24 : a.tmps[24]? = some ((.int .i64 xb)) := by rw [ha]; exact putSel_on (e := (12, 24, (.int .i64 xb))) 12 rfl rfl (hon 12 (by kernel_rfl)) rfl
   have e20 : a.tmps[20]? = some ((.bool false)) := by rw [ha]; exact putSel_on (e := (8, 20, (.bool false))) 8 rfl rfl (hon 8 (by kernel_rfl)) rfl
   replace ha := Aside0.mk ha
   have HR := Aside0.mk Q_HR
   have HB := Aside0.mk Q_HB
   have X3 := Aside0.mk Q_X3
   have X4 := Aside0.mk Q_X4
   refine value_ (w1 := w') (v := (.bool true)) (wanted_on rfl rfl rfl (e20.trans (by first | rfl | (simp [*]; done)))) rfl ?_ ?_
   ·go_simp
    (try simp only [i64_w])
    try rfl
   refine hK.out _ _ ⟨(by rw [ha.out]; exact putSel_upk 13 hb_ rfl rfl rfl), Q_HR, Q_HB, Q_X3, Q_X4⟩
  refine steps_cons ?_ ?_
  ·rintro b a w' ⟨ha, Q_HR, Q_HB, Q_X3, Q_X4⟩ hb_ hon hoff
   refine ⟨_, rfl, fun K hK => ?_⟩
   have e20 : a.tmps[20]? = some ((.bool false)) := by rw [ha]; exact putSel_on (e := (8, 20, (.bool false))) 8 rfl rfl (hon 8 (by kernel_rfl)) rfl
   have e25 : a.tmps[25]? = some ((.bool true)) := by rw [ha]; exact putSel_on (e := (13, 25, (.bool true))) 13 rfl rfl (hon 13 (by kernel_rfl)) rfl
   replace ha := Aside0.mk ha
   have HR := Aside0.mk Q_HR
   have HB := Aside0.mk Q_HB
   have X3 := Aside0.mk Q_X3
   have X4 := Aside0.mk Q_X4
   refine value_ (w1 := w') (v := (.bool true)) (by rfl) rfl ?_ ?_
   ·go_simp
    (try simp only [i64_w])
    try rfl
   refine hK.out _ _ ⟨(by rw [ha.out]; exact putSel_upk 14 hb_ rfl rfl rfl), Q_HR, Q_HB, Q_X3, Q_X4⟩
  refine steps_cons ?_ ?_
  ·rintro b a w' ⟨ha, Q_HR, Q_HB, Q_X3, Q_X4⟩ hb_ hon hoff
   refine ⟨_, rfl, fun K hK => ?_⟩
   have e26 : a.tmps[26]? = some ((.bool true)) := by rw [ha]; exact putSel_on (e := (14, 26, (.bool true))) 14 rfl rfl (hon 14 (by kernel_rfl)) rfl
   replace ha := Aside0.mk ha
   have HR := Aside0.mk Q_HR
   have HB := Aside0.mk Q_HB
   have X3 := Aside0.mk Q_X3
   have X4 := Aside0.mk Q_X4
   refine value_ (w1 := w') (v := (.bool true)) (by rfl) rfl ?_ ?_
   ·go_simp
    (try simp only [i64_w])
    try rfl
   refine hK.out _ _ ⟨(by rw [ha.out]; exact putSel_upk 15 hb_ rfl rfl rfl), Q_HR, Q_HB, Q_X3, Q_X4⟩
  refine steps_cons ?_ ?_
  ·rintro b a w' ⟨ha, Q_HR, Q_HB, Q_X3, Q_X4⟩ hb_ hon hoff
   refine ⟨_, rfl, fun K hK => ?_⟩
   have e27 : a.tmps[27]? = some ((.bool true)) := by rw [ha]; exact putSel_on (e := (15, 27, (.bool true))) 15 rfl rfl (hon 15 (by kernel_rfl)) rfl
   replace ha := Aside0.mk ha
   have HR := Aside0.mk Q_HR
   have HB := Aside0.mk Q_HB
   have X3 := Aside0.mk Q_X3
   have X4 := Aside0.mk Q_X4
   refine off_ (wanted_off rfl rfl rfl (e27.trans (by first | rfl | (simp [*]; done)))) ?_
   refine hK.out _ _ ⟨(by rw [ha.out]; exact putSel_upk 16 hb_ rfl rfl rfl), Q_HR, Q_HB, Q_X3, Q_X4⟩
  refine steps_cons ?_ ?_
  ·rintro b a w' ⟨ha, Q_HR, Q_HB, Q_X3, Q_X4⟩ hb_ hon hoff
   refine ⟨_, rfl, fun K hK => ?_⟩
   have e27 : a.tmps[27]? = some ((.bool true)) := by rw [ha]; exact putSel_on (e := (15, 27, (.bool true))) 15 rfl rfl (hon 15 (by kernel_rfl)) rfl
   replace ha := Aside0.mk ha
   have HR := Aside0.mk Q_HR
   have HB := Aside0.mk Q_HB
   have X3 := Aside0.mk Q_X3
   have X4 := Aside0.mk Q_X4
   refine off_ (wanted_off rfl rfl rfl (e27.trans (by first | rfl | (simp [*]; done)))) ?_
   refine hK.out _ _ ⟨(by rw [ha.out]; exact putSel_upk 17 hb_ rfl rfl rfl), Q_HR, Q_HB, Q_X3, Q_X4⟩
  refine steps_cons ?_ ?_
  ·rintro b a w' ⟨ha, Q_HR, Q_HB, Q_X3, Q_X4⟩ hb_ hon hoff
   refine ⟨_, rfl, fun K hK => ?_⟩
   have e27 : a.tmps[27]? = some ((.bool true)) := by rw [ha]; exact putSel_on (e := (15, 27, (.bool true))) 15 rfl rfl (hon 15 (by kernel_rfl)) rfl
   replace ha := Aside0.mk ha
   have HR := Aside0.mk Q_HR
   have HB := Aside0.mk Q_HB
   have X3 := Aside0.mk Q_X3
   have X4 := Aside0.mk Q_X4
   refine off_ (wanted_off rfl rfl rfl (e27.trans (by first | rfl | (simp [*]; done)))) ?_
   refine hK.out _ _ ⟨(by rw [ha.out]; exact putSel_upk 18 hb_ rfl rfl rfl), Q_HR, Q_HB, Q_X3, Q_X4⟩
  refine steps_cons ?_ ?_
  ·rintro b a w' ⟨ha, Q_HR, Q_HB, Q_X3, Q_X4⟩ hb_ hon hoff
   refine ⟨_, rfl, fun K hK => ?_⟩
   have e27 : a.tmps[27]? = some ((.bool true)) := by rw [ha]; exact putSel_on (e := (15, 27, (.bool true))) 15 rfl rfl (hon 15 (by kernel_rfl)) rfl
   replace ha := Aside0.mk ha
   have HR := Aside0.mk Q_HR
   have HB := Aside0.mk Q_HB
   have X3 := Aside0.mk Q_X3
   have X4 := Aside0.mk Q_X4
   refine off_ (wanted_off rfl rfl rfl (e27.trans (by first | rfl | (simp [*]; done)))) ?_
   refine hK.out _ _ ⟨(by rw [ha.out]; exact putSel_upk 19 hb_ rfl rfl rfl), Q_HR, Q_HB, Q_X3, Q_X4⟩
  refine steps_cons ?_ ?_
  ·rintro b a w' ⟨ha, Q_HR, Q_HB, Q_X3, Q_X4⟩ hb_ hon hoff
   refine ⟨_, rfl, fun K hK => ?_⟩
   have e27 : a.tmps[27]? = some ((.bool true)) := by rw [ha]; exact putSel_on (e := (15, 27, (.bool true))) 15 rfl rfl (hon 15 (by kernel_rfl)) rfl
   replace ha := Aside0.mk ha
   have HR := Aside0.mk Q_HR
   have HB := Aside0.mk Q_HB
   have X3 := Aside0.mk Q_X3
   have X4 := Aside0.mk Q_X4
   refine off_ (wanted_off rfl rfl rfl (e27.trans (by first | rfl | (simp [*]; done)))) ?_
   refine hK.out _ _ ⟨(by rw [ha.out]; exact putSel_upk 20 hb_ rfl rfl rfl), Q_HR, Q_HB, Q_X3, Q_X4⟩
  refine steps_cons ?_ ?_
  ·rintro b a w' ⟨ha, Q_HR, Q_HB, Q_X3, Q_X4⟩ hb_ hon hoff
   refine ⟨_, rfl, fun K hK => ?_⟩
   have e27 : a.tmps[27]? = some ((.bool true)) := by rw [ha]; exact putSel_on (e := (15, 27, (.bool true))) 15 rfl rfl (hon 15 (by kernel_rfl)) rfl
   have e32 : a.tmps[32]? = some (undef) := by rw [ha]; exact putSel_on (e := (20, 32, undef)) 20 rfl rfl (hon 20 (by kernel_rfl)) rfl
   replace ha := Aside0.mk ha
   have HR := Aside0.mk Q_HR
   have HB := Aside0.mk Q_HB
   have X3 := Aside0.mk Q_X3
   have X4 := Aside0.mk Q_X4
   refine value_ (w1 := w') (v := (.bool true)) (by rfl) rfl ?_ ?_
   ·go_simp
    (try simp only [i64_w])
    try rfl
   refine hK.out _ _ ⟨(by rw [ha.out]; exact putSel_upk 21 hb_ rfl rfl rfl), Q_HR, Q_HB, Q_X3, Q_X4⟩
  exact steps_nil
 rintro b a we hall ⟨ha, Q_HR, Q_HB, Q_X3, Q_X4⟩
 clear HB HR X3 X4
 have hb0_ := hall 0 (by kernel_rfl)
 have hb1_ := hall 1 (by kernel_rfl)
 have hb2_ := hall 2 (by kernel_rfl)
 have hb3_ := hall 3 (by kernel_rfl)
 have hb4_ := hall 4 (by kernel_rfl)
 have hb5_ := hall 5 (by kernel_rfl)
 have hb6_ := hall 6 (by kernel_rfl)
 have hb7_ := hall 7 (by kernel_rfl)
 have hb8_ := hall 8 (by kernel_rfl)
 have hb9_ := hall 9 (by kernel_rfl)
 have hb10_ := hall 10 (by kernel_rfl)
 have hb11_ := hall 11 (by kernel_rfl)
 have hb12_ := hall 12 (by kernel_rfl)
 have hb13_ := hall 13 (by kernel_rfl)
 have hb14_ := hall 14 (by kernel_rfl)
 have hb15_ := hall 15 (by kernel_rfl)
 have hb16_ := hall 16 (by kernel_rfl)
 have hb17_ := hall 17 (by kernel_rfl)
 have hb18_ := hall 18 (by kernel_rfl)
 have hb19_ := hall 19 (by kernel_rfl)
 have hb20_ := hall 20 (by kernel_rfl)
 have hb21_ := hall 21 (by kernel_rfl)
 subst ha
 simp only [putSel, hb0_, hb1_, hb2_, hb3_, hb4_, hb5_, hb6_, hb7_, hb8_, hb9_, hb10_, hb11_, hb12_, hb13_, hb14_, hb15_, hb16_, hb17_, hb18_, hb19_, hb20_, hb21_, if_true, Act.put, List.setIfInBounds_toArray, List.set_cons_zero, List.set_cons_succ]
 have HR := Aside0.mk Q_HR
 clear Q_HR
 have HB := Aside0.mk Q_HB
 clear Q_HB
 have X3 := Aside0.mk Q_X3
 clear Q_X3
 have X4 := Aside0.mk Q_X4
 clear Q_X4
 clear hall hb0_ hb1_ hb2_ hb3_ hb4_ hb5_ hb6_ hb7_ hb8_ hb9_ hb10_ hb11_ hb12_ hb13_ hb14_ hb15_ hb16_ hb17_ hb18_ hb19_ hb20_ hb21_
 have c40 := X4.out.c0
 have c41 := X4.out.c1
 have f40 := X4.out.fz 0
 have f41 := X4.out.fz 1
 go_wp2_with fail
 refine bodyPost_ret (res_span _ _ (w.heap.size + 1) 0 0 false rfl rfl (blk_put (blk_put X4.out 0 _ rfl) 1 _ rfl)) rfl ?_
 exact ⟨rfl, below_set' (below_set' HB.out (by omega)) (by omega)⟩
set_option maxHeartbeats 4000000 in
set_option maxRecDepth 100000 in
theorem span_no4 (A0 : Option Addr) (c0 : Nat) (l0 : List Rn) (xa xb : Int) (w : World) (h : RC w A0 l0) (hc : l0.length ≤ c0) (hl : l0.length ≤ 140737488351232) (hg : good l0 = true) (ha : 0 ≤ xa) (hab : xa ≤ xb) (hi_ : inL l0 < xb) :
  Calls Try.prog 35 #[.slice A0 l0.length c0, .agg #[.int .i64 xa, .int .i64 xb]] w (SpanPost ((0, 0), false) w) := by
 have HG := Aside0.mk (good_c A0 c0 l0 hc hl)
 have HI := Aside0.mk (in_c A0 c0 l0 hc hl hg)
 rw [hg] at HG
 have H0 := Aside0.mk h
 have a1 : decide (xa < 0) = false := by simp; omega
 have a2 : decide (xb < xa) = false := by simp; omega
 have a3 : decide (inL l0 < xb) = true := by simpa using hi_
 clear h hc hl hg
 go_enter Try.func35, Try.ntmps35
 go_wp2_with fail
 obtain ⟨w2, hw2⟩ : ∃ w2, w2 = (w.alloc (.cells #[.int .i64 xa, .int .i64 xb] 42)).alloc (.cells #[.int .i64 0, .int .i64 0] 42) := ⟨_, rfl⟩
 have hb2 : Below w.heap.size w w2 := by rw [hw2]; exact below_alloc (below_alloc (Below.refl _ _) _) _
 have HB := Aside0.mk hb2
 have HR := Aside0.mk (H0.out.below hb2)
 have X3 := Aside0.mk (show Sx w.heap.size xa xb w2 by rw [hw2]; exact (show Sx w.heap.size xa xb (w.alloc _) from Own.heap_new w _).below (below_alloc (Below.refl _ _) _))
 have X4 := Aside0.mk (show Sx (w.heap.size + 1) 0 0 w2 by
  rw [hw2]
  have := Own.heap_new (w.alloc (.cells #[.int .i64 xa, .int .i64 xb] 42)) (.cells #[.int .i64 0, .int .i64 0] 42)
  rwa [World.size_alloc] at this)
 rw [← hw2]
 clear hw2 hb2
 refine start_ (n := 22) (S := fun w' => True) (ds := []) #[false, false, false, false, false, false, false, false, false, false, false, false, false, false, false, false, false, false, false, false, false, false] (by kernel_rfl) rfl rfl trivial (fun hHeld => ?_); refine with_tabW PlaceS.tab1 PlaceS.bits1 (fun HT_ HW_ => ?_)
 refine inv_at [0, 1, 2, 3, 4, 5, 6, 7, 8, 9, 10, 11, 12, 13, 14, 15, 16, 17, 18, 19, 20, 21] (fun a0_ b a w' => a = putSel a0_ b [(0, 12, (.slice A0 l0.length c0)), (1, 13, (.bool true)), (2, 14, (.bool false)), (3, 15, (.bool false)), (4, 16, (.pointer (some ⟨w.heap.size, 0, none⟩))), (5, 17, (.int .i64 xa)), (6, 18, (.bool false)), (7, 19, (.bool false)), (8, 20, (.bool false)), (9, 21, (.pointer (some ⟨w.heap.size, 0, none⟩))), (10, 22, (.int .i64 xa)), (11, 23, (.pointer (some ⟨w.heap.size, 1, none⟩))), (12, 24, (.int .i64 xb)), (13, 25, (.bool false)), (14, 26, (.bool false)), (15, 27, (.bool false)), (16, 28, (.pointer (some ⟨w.heap.size, 1, none⟩))), (17, 29, (.int .i64 xb)), (18, 30, (.slice A0 l0.length c0)), (19, 31, (.int .i64 (inL l0))), (20, 32, (.bool true)), (21, 33, (.bool true))] ∧ (RC w' A0 l0) ∧ (Below w.heap.size w w') ∧ (Sx w.heap.size xa xb w') ∧ (Sx (w.heap.size + 1) 0 0 w')) HT_.out HW_.out (by kernel_rfl) (by kernel_rfl) ?_ ?_ ?_
 ·exact ⟨by simp only [putSel, Bool.false_eq_true, if_false], HR.out.below (below_drew1 (Below.refl _ _)), below_drew1 HB.out, X3.out.below (below_drew1 (Below.refl _ _)), X4.out.below (below_drew1 (Below.refl _ _))⟩
 ·skip
  clear HB HR X3 X4
  refine steps_cons ?_ ?_
  ·rintro b a w' ⟨ha, Q_HR, Q_HB, Q_X3, Q_X4⟩ hb_ hon hoff
   refine ⟨_, rfl, fun K hK => ?_⟩
   have e0 : a.tmps[0]? = some ((.slice A0 l0.length c0)) := by rw [ha]; exact (putSel_off rfl).trans rfl
   replace ha := Aside0.mk ha
   have HR := Aside0.mk Q_HR
   have HB := Aside0.mk Q_HB
   have X3 := Aside0.mk Q_X3
   have X4 := Aside0.mk Q_X4
   refine value_ (w1 := w') (v := (.slice A0 l0.length c0)) (by rfl) rfl ?_ ?_
   ·go_simp
    (try simp only [i64_w])
    try rfl
   refine hK.out _ _ ⟨(by rw [ha.out]; exact putSel_upk 0 hb_ rfl rfl rfl), Q_HR, Q_HB, Q_X3, Q_X4⟩
  refine steps_cons ?_ ?_
  ·rintro b a w' ⟨ha, Q_HR, Q_HB, Q_X3, Q_X4⟩ hb_ hon hoff
   refine ⟨_, rfl, fun K hK => ?_⟩
   have e12 : a.tmps[12]? = some ((.slice A0 l0.length c0)) := by rw [ha]; exact putSel_on (e := (0, 12, (.slice A0 l0.length c0))) 0 rfl rfl (hon 0 (by kernel_rfl)) rfl
   replace ha := Aside0.mk ha
   have HR := Aside0.mk Q_HR
   have HB := Aside0.mk Q_HB
   have X3 := Aside0.mk Q_X3
   have X4 := Aside0.mk Q_X4
   refine goes_ Try.func30 (by kernel_rfl) rfl #[.slice A0 l0.length c0] (by rfl) rfl rfl (by first | (simp only [List.map_toArray, List.map_cons, List.map_nil, Act.eval, Array.getD_eq_getD_getElem?, Option.getD_some, e12]; done) | (simp only [List.map_toArray, List.map_cons, List.map_nil, Act.eval, Array.getD_eq_getD_getElem?, Option.getD_some, e12]; rfl)) ?_
   refine (HG.out _ HR.out).mono ?_
   rintro e w1_ ⟨rfl, hb⟩
   refine ⟨_, rfl, ?_⟩
   refine hK.out _ _ ⟨(by rw [ha.out]; exact putSel_upk 1 hb_ rfl rfl rfl), HR.out.below hb, below_step HB.out hb, X3.out.below hb, X4.out.below hb⟩
  refine steps_cons ?_ ?_
  ·rintro b a w' ⟨ha, Q_HR, Q_HB, Q_X3, Q_X4⟩ hb_ hon hoff
   refine ⟨_, rfl, fun K hK => ?_⟩
   have e13 : a.tmps[13]? = some ((.bool true)) := by rw [ha]; exact putSel_on (e := (1, 13, (.bool true))) 1 rfl rfl (hon 1 (by kernel_rfl)) rfl
   replace ha := Aside0.mk ha
   have HR := Aside0.mk Q_HR
   have HB := Aside0.mk Q_HB
   have X3 := Aside0.mk Q_X3
   have X4 := Aside0.mk Q_X4
   refine value_ (w1 := w') (v := (.bool false)) (by rfl) rfl ?_ ?_
   ·go_simp
    (try simp only [i64_w])
    try rfl
   refine hK.out _ _ ⟨(by rw [ha.out]; exact putSel_upk 2 hb_ rfl rfl rfl), Q_HR, Q_HB, Q_X3, Q_X4⟩
  refine steps_cons ?_ ?_
  ·rintro b a w' ⟨ha, Q_HR, Q_HB, Q_X3, Q_X4⟩ hb_ hon hoff
   refine ⟨_, rfl, fun K hK => ?_⟩
   have e14 : a.tmps[14]? = some ((.bool false)) := by rw [ha]; exact putSel_on (e := (2, 14, (.bool false))) 2 rfl rfl (hon 2 (by kernel_rfl)) rfl
   replace ha := Aside0.mk ha
   have HR := Aside0.mk Q_HR
   have HB := Aside0.mk Q_HB
   have X3 := Aside0.mk Q_X3
   have X4 := Aside0.mk Q_X4
   refine value_ (w1 := w') (v := (.bool false)) (by rfl) rfl ?_ ?_
   ·go_simp
    (try simp only [i64_w])
    try rfl
   refine hK.out _ _ ⟨(by rw [ha.out]; exact putSel_upk 3 hb_ rfl rfl rfl), Q_HR, Q_HB, Q_X3, Q_X4⟩
  refine steps_cons ?_ ?_
  ·rintro b a w' ⟨ha, Q_HR, Q_HB, Q_X3, Q_X4⟩ hb_ hon hoff
   refine ⟨_, rfl, fun K hK => ?_⟩
   have e3 : a.tmps[3]? = some ((.pointer (some ⟨w.heap.size, 0, none⟩))) := by rw [ha]; exact (putSel_off rfl).trans rfl
   have e15 : a.tmps[15]? = some ((.bool false)) := by rw [ha]; exact putSel_on (e := (3, 15, (.bool false))) 3 rfl rfl (hon 3 (by kernel_rfl)) rfl
   replace ha := Aside0.mk ha
   have HR := Aside0.mk Q_HR
   have HB := Aside0.mk Q_HB
   have X3 := Aside0.mk Q_X3
   have X4 := Aside0.mk Q_X4
   refine value_ (w1 := w') (v := (.pointer (some ⟨w.heap.size, 0, none⟩))) (wanted_on rfl rfl rfl (e15.trans (by first | rfl | (simp [*]; done)))) rfl ?_ ?_
   ·go_simp
    (try simp only [i64_w])
    try rfl
   refine hK.out _ _ ⟨(by rw [ha.out]; exact putSel_upk 4 hb_ rfl rfl rfl), Q_HR, Q_HB, Q_X3, Q_X4⟩
  refine steps_cons ?_ ?_
  ·rintro b a w' ⟨ha, Q_HR, Q_HB, Q_X3, Q_X4⟩ hb_ hon hoff
   refine ⟨_, rfl, fun K hK => ?_⟩
   have e16 : a.tmps[16]? = some ((.pointer (some ⟨w.heap.size, 0, none⟩))) := by rw [ha]; exact putSel_on (e := (4, 16, (.pointer (some ⟨w.heap.size, 0, none⟩)))) 4 rfl rfl (hon 4 (by kernel_rfl)) rfl
   have e15 : a.tmps[15]? = some ((.bool false)) := by rw [ha]; exact putSel_on (e := (3, 15, (.bool false))) 3 rfl rfl (hon 3 (by kernel_rfl)) rfl
   replace ha := Aside0.mk ha
   have HR := Aside0.mk Q_HR
   have HB := Aside0.mk Q_HB
   have X3 := Aside0.mk Q_X3
   have X4 := Aside0.mk Q_X4
   have hc_ := X3.out.c0
   refine value_ (w1 := w') (v := (.int .i64 xa)) (wanted_on rfl rfl rfl (e15.trans (by first | rfl | (simp [*]; done)))) rfl ?_ ?_
   ·go_simp
    (try simp only [i64_w])
    try rfl
   refine hK.out _ _ ⟨(by rw [ha.out]; exact putSel_upk 5 hb_ rfl rfl rfl), Q_HR, Q_HB, Q_X3, Q_X4⟩
  refine steps_cons ?_ ?_
  ·rintro b a w' ⟨ha, Q_HR, Q_HB, Q_X3, Q_X4⟩ hb_ hon hoff
   refine ⟨_, rfl, fun K hK => ?_⟩
   have e17 : a.tmps[17]? = some ((.int .i64 xa)) := by rw [ha]; exact putSel_on (e := (5, 17, (.int .i64 xa))) 5 rfl rfl (hon 5 (by kernel_rfl)) rfl
   have e15 : a.tmps[15]? = some ((.bool false)) := by rw [ha]; exact putSel_on (e := (3, 15, (.bool false))) 3 rfl rfl (hon 3 (by kernel_rfl)) rfl
   replace ha := Aside0.mk ha
   have HR := Aside0.mk Q_HR
   have HB := Aside0.mk Q_HB
   have X3 := Aside0.mk Q_X3
   have X4 := Aside0.mk Q_X4
   refine value_ (w1 := w') (v := (.bool false)) (wanted_on rfl rfl rfl (e15.trans (by first | rfl | (simp [*]; done)))) rfl ?_ ?_
   ·go_simp
    (try simp only [i64_w])
    try rfl
   refine hK.out _ _ ⟨(by rw [ha.out]; exact putSel_upk 6 hb_ rfl rfl rfl), Q_HR, Q_HB, Q_X3, Q_X4⟩
  refine steps_cons ?_ ?_
  ·rintro b a w' ⟨ha, Q_HR, Q_HB, Q_X3, Q_X4⟩ hb_ hon hoff
   refine ⟨_, rfl, fun K hK => ?_⟩
   have e15 : a.tmps[15]? = some ((.bool false)) := by rw [ha]; exact putSel_on (e := (3, 15, (.bool false))) 3 rfl rfl (hon 3 (by kernel_rfl)) rfl
   have e18 : a.tmps[18]? = some ((.bool false)) := by rw [ha]; exact putSel_on (e := (6, 18, (.bool false))) 6 rfl rfl (hon 6 (by kernel_rfl)) rfl
   replace ha := Aside0.mk ha
   have HR := Aside0.mk Q_HR
   have HB := Aside0.mk Q_HB
   have X3 := Aside0.mk Q_X3
   have X4 := Aside0.mk Q_X4
   refine value_ (w1 := w') (v := (.bool false)) (by rfl) rfl ?_ ?_
   ·go_simp
    (try simp only [i64_w])
    try rfl
   refine hK.out _ _ ⟨(by rw [ha.out]; exact putSel_upk 7 hb_ rfl rfl rfl), Q_HR, Q_HB, Q_X3, Q_X4⟩
  refine steps_cons ?_ ?_
  ·rintro b a w' ⟨ha, Q_HR, Q_HB, Q_X3, Q_X4⟩ hb_ hon hoff
   refine ⟨_, rfl, fun K hK => ?_⟩
   have e19 : a.tmps[19]? = some ((.bool false)) := by rw [ha]; exact putSel_on (e := (7, 19, (.bool false))) 7 rfl rfl (hon 7 (by kernel_rfl)) rfl
   replace ha := Aside0.mk ha
   have HR := Aside0.mk Q_HR
   have HB := Aside0.mk Q_HB
   have X3 := Aside0.mk Q_X3
   have X4 := Aside0.mk Q_X4
   refine value_ (w1 := w') (v := (.bool false)) (by rfl) rfl ?_ ?_
   ·go_simp
    (try simp only [i64_w])
    try rfl
   refine hK.out _ _ ⟨(by rw [ha.out]; exact putSel_upk 8 hb_ rfl rfl rfl), Q_HR, Q_HB, Q_X3, Q_X4⟩
  refine steps_cons ?_ ?_
  ·rintro b a w' ⟨ha, Q_HR, Q_HB, Q_X3, Q_X4⟩ hb_ hon hoff
   refine ⟨_, rfl, fun K hK => ?_⟩
   have e3 : a.tmps[3]? = some ((.pointer (some ⟨w.heap.size, 0, none⟩))) := by rw [ha]; exact (putSel_off rfl).trans rfl
   have e20 : a.tmps[20]? = some ((.bool false)) := by rw [ha]; exact putSel_on (e := (8, 20, (.bool false))) 8 rfl rfl (hon 8 (by kernel_rfl)) rfl
   replace ha := Aside0.mk ha
   have HR := Aside0.mk Q_HR
   have HB := Aside0.mk Q_HB
   have X3 := Aside0.mk Q_X3
   have X4 := Aside0.mk Q_X4
   refine value_ (w1 := w') (v := (.pointer (some ⟨w.heap.size, 0, none⟩))) (wanted_on rfl rfl rfl (e20.trans (by first | rfl | (simp [*]; done)))) rfl ?_ ?_
   ·go_simp
    (try simp only [i64_w])
    try rfl
   refine hK.out _ _ ⟨(by rw [ha.out]; exact putSel_upk 9 hb_ rfl rfl rfl), Q_HR, Q_HB, Q_X3, Q_X4⟩
  refine steps_cons ?_ ?_
  ·rintro b a w' ⟨ha, Q_HR, Q_HB, Q_X3, Q_X4⟩ hb_ hon hoff
   refine ⟨_, rfl, fun K hK => ?_⟩
   have e21 : a.tmps[21]? = some ((.pointer (some ⟨w.heap.size, 0, none⟩))) := by rw [ha]; exact putSel_on (e := (9, 21, (.pointer (some ⟨w.heap.size, 0, none⟩)))) 9 rfl rfl (hon 9 (by kernel_rfl)) rfl
   have e20 : a.tmps[20]? = some ((.bool false)) := by rw [ha]; exact putSel_on (e := (8, 20, (.bool false))) 8 rfl rfl (hon 8 (by kernel_rfl)) rfl
   replace ha := Aside0.mk ha
   have HR := Aside0.mk Q_HR
   have HB := Aside0.mk Q_HB
   have X3 := Aside0.mk Q_X3
   have X4 := Aside0.mk Q_X4
   have hc_ := X3.out.c0
   refine value_ (w1 := w') (v := (.int .i64 xa)) (wanted_on rfl rfl rfl (e20.trans (by first | rfl | (simp [*]; done)))) rfl ?_ ?_
   ·go_simp
    (try simp only [i64_w])
    try rfl
   refine hK.out _ _ ⟨(by rw [ha.out]; exact putSel_upk 10 hb_ rfl rfl rfl), Q_HR, Q_HB, Q_X3, Q_X4⟩
  refine steps_cons ?_ ?_
  ·rintro b a w' ⟨ha, Q_HR, Q_HB, Q_X3, Q_X4⟩ hb_ hon hoff
   refine ⟨_, rfl, fun K hK => ?_⟩
   have e3 : a.tmps[3]? = some ((.pointer (some ⟨w.heap.size, 0, none⟩))) := by rw [ha]; exact (putSel_off rfl).trans rfl
   have e20 : a.tmps[20]? = some ((.bool false)) := by rw [ha]; exact putSel_on (e := (8, 20, (.bool false))) 8 rfl rfl (hon 8 (by kernel_rfl)) rfl
   replace ha := Aside0.mk ha
   have HR := Aside0.mk Q_HR
   have HB := Aside0.mk Q_HB
   have X3 := Aside0.mk Q_X3
   have X4 := Aside0.mk Q_X4
   refine value_ (w1 := w') (v := (.pointer (some ⟨w.heap.size, 1, none⟩))) (wanted_on rfl rfl rfl (e20.trans (by first | rfl | (simp [*]; done)))) rfl ?_ ?_
   ·go_simp
    (try simp only [i64_w])
    try rfl
   refine hK.out _ _ ⟨(by rw [ha.out]; exact putSel_upk 11 hb_ rfl rfl rfl), Q_HR, Q_HB, Q_X3, Q_X4⟩
  refine steps_cons ?_ ?_
  ·rintro b a w' ⟨ha, Q_HR, Q_HB, Q_X3, Q_X4⟩ hb_ hon hoff
   refine ⟨_, rfl, fun K hK => ?_⟩
   have e23 : a.tmps[23]? = some ((.pointer (some ⟨w.heap.size, 1, none⟩))) := by rw [ha]; exact putSel_on (e := (11, 23, (.pointer (some ⟨w.heap.size, 1, none⟩)))) 11 rfl rfl (hon 11 (by kernel_rfl)) rfl
   have e20 : a.tmps[20]? = some ((.bool false)) := by rw [ha]; exact putSel_on (e := (8, 20, (.bool false))) 8 rfl rfl (hon 8 (by kernel_rfl)) rfl
   replace ha := Aside0.mk ha
   have HR := Aside0.mk Q_HR
   have HB := Aside0.mk Q_HB
   have X3 := Aside0.mk Q_X3
   have X4 := Aside0.mk Q_X4
   have hc_ := X3.out.c1
   refine value_ (w1 := w') (v := (.int .i64 xb)) (wanted_on rfl rfl rfl (e20.trans (by first | rfl | (simp [*]; done)))) rfl ?_ ?_
   ·go_simp
    (try simp only [i64_w])
    try rfl
   refine hK.out _ _ ⟨(by rw [ha.out]; exact putSel_upk 12 hb_ rfl rfl rfl), Q_HR, Q_HB, Q_X3, Q_X4⟩
  refine steps_cons ?_ ?_
  ·rintro b a w' ⟨ha, Q_HR, Q_HB, Q_X3, Q_X4⟩ hb_ hon hoff
   refine ⟨_, rfl, fun K hK => ?_⟩
   have e22 : a.tmps[22]? = some ((.int .i64 xa)) := by rw [ha]; exact putSel_on (e := (10, 22, (.int .i64 xa))) 10 rfl rfl (hon 10 (by kernel_rfl)) rfl
   have e24 : a.tmps[24]? = some ((.int .i64 xb)) := by rw [ha]; exact putSel_on (e := (12, 24, (.int .i64 xb))) 12 rfl rfl (hon 12 (by kernel_rfl)) rfl
   have e20 : a.tmps[20]? = some ((.bool false)) := by rw [ha]; exact putSel_on (e := (8, 20, (.bool false))) 8 rfl rfl (hon 8 (by kernel_rfl)) rfl
   replace ha := Aside0.mk ha
   have HR := Aside0.mk Q_HR
   have HB := Aside0.mk Q_HB
   have X3 := Aside0.mk Q_X3
   have X4 := Aside0.mk Q_X4
   refine value_ (w1 := w') (v := (.bool false)) (wanted_on rfl rfl rfl (e20.trans (by first | rfl | (simp [*]; done)))) rfl ?_ ?_
   ·go_simp
    (try simp only [i64_w])
    try rfl
   refine hK.out _ _ ⟨(by rw [ha.out]; exact putSel_upk 13 hb_ rfl rfl rfl), Q_HR, Q_HB, Q_X3, Q_X4⟩
  refine steps_cons ?_ ?_
  ·rintro b a w' ⟨ha, Q_HR, Q_HB, Q_X3, Q_X4⟩ hb_ hon hoff
   refine ⟨_, rfl, fun K hK => ?_⟩
   have e20 : a.tmps[20]? = some ((.bool false)) := by rw [ha]; exact putSel_on (e := (8, 20, (.bool false))) 8 rfl rfl (hon 8 (by kernel_rfl)) rfl
   have e25 : a.tmps[25]? = some ((.bool false)) := by rw [ha]; exact putSel_on (e := (13, 25, (.bool false))) 13 rfl rfl (hon 13 (by kernel_rfl)) rfl
   replace ha := Aside0.mk ha
   have HR := Aside0.mk Q_HR
   have HB := Aside0.mk Q_HB
   have X3 := Aside0.mk Q_X3
   have X4 := Aside0.mk Q_X4
   refine value_ (w1 := w') (v := (.bool false)) (by rfl) rfl ?_ ?_
   ·go_simp
    (try simp only [i64_w])
    try rfl
   refine hK.out _ _ ⟨(by rw [ha.out]; exact putSel_upk 14 hb_ rfl rfl rfl), Q_HR, Q_HB, Q_X3, Q_X4⟩
  refine steps_cons ?_ ?_
  ·rintro b a w' ⟨ha, Q_HR, Q_HB, Q_X3, Q_X4⟩ hb_ hon hoff
   refine ⟨_, rfl, fun K hK => ?_⟩
   have e26 : a.tmps[26]? = some ((.bool false)) := by rw [ha]; exact putSel_on (e := (14, 26, (.bool false))) 14 rfl rfl (hon 14 (by kernel_rfl)) rfl
   replace ha := Aside0.mk ha
   have HR := Aside0.mk Q_HR
   have HB := Aside0.mk Q_HB
   have X3 := Aside0.mk Q_X3
   have X4 := Aside0.mk Q_X4
   refine value_ (w1 := w') (v := (.bool false)) (by rfl) rfl ?_ ?_
   ·go_simp
    (try simp only [i64_w])
    try rfl
   refine hK.out _ _ ⟨(by rw [ha.out]; exact putSel_upk 15 hb_ rfl rfl rfl), Q_HR, Q_HB, Q_X3, Q_X4⟩
  refine steps_cons ?_ ?_
  ·rintro b a w' ⟨ha, Q_HR, Q_HB, Q_X3, Q_X4⟩ hb_ hon hoff
   refine ⟨_, rfl, fun K hK => ?_⟩
   have e3 : a.tmps[3]? = some ((.pointer (some ⟨w.heap.size, 0, none⟩))) := by rw [ha]; exact (putSel_off rfl).trans rfl
   have e27 : a.tmps[27]? = some ((.bool false)) := by rw [ha]; exact putSel_on (e := (15, 27, (.bool false))) 15 rfl rfl (hon 15 (by kernel_rfl)) rfl
   replace ha := Aside0.mk ha
   have HR := Aside0.mk Q_HR
   have HB := Aside0.mk Q_HB
   have X3 := Aside0.mk Q_X3
   have X4 := Aside0.mk Q_X4
   refine value_ (w1 := w') (v := (.pointer (some ⟨w.heap.size, 1, none⟩))) (wanted_on rfl rfl rfl (e27.trans (by first | rfl | (simp [*]; done)))) rfl ?_ ?_
   ·go_simp
    (try simp only [i64_w])
    try rfl
   refine hK.out _ _ ⟨(by rw [ha.out]; exact putSel_upk 16 hb_ rfl rfl rfl), Q_HR, Q_HB, Q_X3, Q_X4⟩
  refine steps_cons ?_ ?_
  ·rintro b a w' ⟨ha, Q_HR, Q_HB, Q_X3, Q_X4⟩ hb_ hon hoff
   refine ⟨_, rfl, fun K hK => ?_⟩
   have e28 : a.tmps[28]? = some ((.pointer (some ⟨w.heap.size, 1, none⟩))) := by rw [ha]; exact putSel_on (e := (16, 28, (.pointer (some ⟨w.heap.size, 1, none⟩)))) 16 rfl rfl (hon 16 (by kernel_rfl)) rfl
   have e27 : a.tmps[27]? = some ((.bool false)) := by rw [ha]; exact putSel_on (e := (15, 27, (.bool false))) 15 rfl rfl (hon 15 (by kernel_rfl)) rfl
   replace ha := Aside0.mk ha
   have HR := Aside0.mk Q_HR
   have HB := Aside0.mk Q_HB
   have X3 := Aside0.mk Q_X3
   have X4 := Aside0.mk Q_X4
   have hc_ := X3.out.c1
   refine value_ (w1 := w') (v := (.int .i64 xb)) (wanted_on rfl rfl rfl (e27.trans (by first | rfl | (simp [*]; done)))) rfl ?_ ?_
   ·go_simp
    (try simp only [i64_w])
    try rfl
   refine hK.out _ _ ⟨(by rw [ha.out]; exact putSel_upk 17 hb_ rfl rfl rfl), Q_HR, Q_HB, Q_X3, Q_X4⟩
  refine steps_cons ?_ ?_
  ·rintro b a w' ⟨ha, Q_HR, Q_HB, Q_X3, Q_X4⟩ hb_ hon hoff
   refine ⟨_, rfl, fun K hK => ?_⟩
   have e0 : a.tmps[0]? = some ((.slice A0 l0.length c0)) := by rw [ha]; exact (putSel_off rfl).trans rfl
   have e27 : a.tmps[27]? = some ((.bool false)) := by rw [ha]; exact putSel_on (e := (15, 27, (.bool false))) 15 rfl rfl (hon 15 (by kernel_rfl)) rfl
   replace ha := Aside0.mk ha
   have HR := Aside0.mk Q_HR
   have HB := Aside0.mk Q_HB
   have X3 := Aside0.mk Q_X3
   have X4 := Aside0.mk Q_X4
   refine value_ (w1 := w') (v := (.slice A0 l0.length c0)) (wanted_on rfl rfl rfl (e27.trans (by first | rfl | (simp [*]; done)))) rfl ?_ ?_
   ·go_simp
    (try simp only [i64_w])
    try rfl
   refine hK.out _ _ ⟨(by rw [ha.out]; exact putSel_upk 18 hb_ rfl rfl rfl), Q_HR, Q_HB, Q_X3, Q_X4⟩
  refine steps_cons ?_ ?_
  ·rintro b a w' ⟨ha, Q_HR, Q_HB, Q_X3, Q_X4⟩ hb_ hon hoff
   refine ⟨_, rfl, fun K hK => ?_⟩
   have e30 : a.tmps[30]? = some ((.slice A0 l0.length c0)) := by rw [ha]; exact putSel_on (e := (18, 30, (.slice A0 l0.length c0))) 18 rfl rfl (hon 18 (by kernel_rfl)) rfl
   have e27 : a.tmps[27]? = some ((.bool false)) := by rw [ha]; exact putSel_on (e := (15, 27, (.bool false))) 15 rfl rfl (hon 15 (by kernel_rfl)) rfl
   replace ha := Aside0.mk ha
   have HR := Aside0.mk Q_HR
   have HB := Aside0.mk Q_HB
   have X3 := Aside0.mk Q_X3
   have X4 := Aside0.mk Q_X4
   refine goes_ Try.func42 (by kernel_rfl) rfl #[.slice A0 l0.length c0] (wanted_on rfl rfl rfl (e27.trans (by first | rfl | (simp [*]; done)))) rfl rfl (by first | (simp only [List.map_toArray, List.map_cons, List.map_nil, Act.eval, Array.getD_eq_getD_getElem?, Option.getD_some, e30, e27]; done) | (simp only [List.map_toArray, List.map_cons, List.map_nil, Act.eval, Array.getD_eq_getD_getElem?, Option.getD_some, e30, e27]; rfl)) ?_
   refine (HI.out _ HR.out).mono ?_
   rintro e w1_ ⟨rfl, hb⟩
   refine ⟨_, rfl, ?_⟩
   refine hK.out _ _ ⟨(by rw [ha.out]; exact putSel_upk 19 hb_ rfl rfl rfl), HR.out.below hb, below_step HB.out hb, X3.out.below hb, X4.out.below hb⟩
  refine steps_cons ?_ ?_
  ·rintro b a w' ⟨ha, Q_HR, Q_HB, Q_X3, Q_X4⟩ hb_ hon hoff
   refine ⟨_, rfl, fun K hK => ?_⟩
   have e29 : a.tmps[29]? = some ((.int .i64 xb)) := by rw [ha]; exact putSel_on (e := (17, 29, (.int .i64 xb))) 17 rfl rfl (hon 17 (by kernel_rfl)) rfl
   have e31 : a.tmps[31]? = some ((.int .i64 (inL l0))) := by rw [ha]; exact putSel_on (e := (19, 31, (.int .i64 (inL l0)))) 19 rfl rfl (hon 19 (by kernel_rfl)) rfl
   have e27 : a.tmps[27]? = some ((.bool false)) := by rw [ha]; exact putSel_on (e := (15, 27, (.bool false))) 15 rfl rfl (hon 15 (by kernel_rfl)) rfl
   replace ha := Aside0.mk ha
   have HR := Aside0.mk Q_HR
   have HB := Aside0.mk Q_HB
   have X3 := Aside0.mk Q_X3
   have X4 := Aside0.mk Q_X4
   refine value_ (w1 := w') (v := (.bool true)) (wanted_on rfl rfl rfl (e27.trans (by first | rfl | (simp [*]; done)))) rfl ?_ ?_
   ·go_simp
    (try simp only [i64_w])
    try rfl
   refine hK.out _ _ ⟨(by rw [ha.out]; exact putSel_upk 20 hb_ rfl rfl rfl), Q_HR, Q_HB, Q_X3, Q_X4⟩
  refine steps_cons ?_ ?_
  ·rintro b a w' ⟨ha, Q_HR, Q_HB, Q_X3, Q_X4⟩ hb_ hon hoff
   refine ⟨_, rfl, fun K hK => ?_⟩
   have e27 : a.tmps[27]? = some ((.bool false)) := by rw [ha]; exact putSel_on (e := (15, 27, (.bool false))) 15 rfl rfl (hon 15 (by kernel_rfl)) rfl
   have e32 : a.tmps[32]? = some ((.bool true)) := by rw [ha]; exact putSel_on (e := (20, 32, (.bool true))) 20 rfl rfl (hon 20 (by kernel_rfl)) rfl
   replace ha := Aside0.mk ha
   have HR := Aside0.mk Q_HR
   have HB := Aside0.mk Q_HB
   have X3 := Aside0.mk Q_X3
   have X4 := Aside0.mk Q_X4
   refine value_ (w1 := w') (v := (.bool true)) (by rfl) rfl ?_ ?_
   ·go_simp
    (try simp only [i64_w])
    try rfl
   refine hK.out _ _ ⟨(by rw [ha.out]; exact putSel_upk 21 hb_ rfl rfl rfl), Q_HR, Q_HB, Q_X3, Q_X4⟩
  exact steps_nil
 rintro b a we hall ⟨ha, Q_HR, Q_HB, Q_X3, Q_X4⟩
 clear HB HR X3 X4
 have hb0_ := hall 0 (by kernel_rfl)
 have hb1_ := hall 1 (by kernel_rfl)
 have hb2_ := hall 2 (by kernel_rfl)
 have hb3_ := hall 3 (by kernel_rfl)
 have hb4_ := hall 4 (by kernel_rfl)
 have hb5_ := hall 5 (by kernel_rfl)
 have hb6_ := hall 6 (by kernel_rfl)
 have hb7_ := hall 7 (by kernel_rfl)
 have hb8_ := hall 8 (by kernel_rfl)
 have hb9_ := hall 9 (by kernel_rfl)
 have hb10_ := hall 10 (by kernel_rfl)
 have hb11_ := hall 11 (by kernel_rfl)
 have hb12_ := hall 12 (by kernel_rfl)
 have hb13_ := hall 13 (by kernel_rfl)
 have hb14_ := hall 14 (by kernel_rfl)
 have hb15_ := hall 15 (by kernel_rfl)
 have hb16_ := hall 16 (by kernel_rfl)
 have hb17_ := hall 17 (by kernel_rfl)
 have hb18_ := hall 18 (by kernel_rfl)
 have hb19_ := hall 19 (by kernel_rfl)
 have hb20_ := hall 20 (by kernel_rfl)
 have hb21_ := hall 21 (by kernel_rfl)
 subst ha
 simp only [putSel, hb0_, hb1_, hb2_, hb3_, hb4_, hb5_, hb6_, hb7_, hb8_, hb9_, hb10_, hb11_, hb12_, hb13_, hb14_, hb15_, hb16_, hb17_, hb18_, hb19_, hb20_, hb21_, if_true, Act.put, List.setIfInBounds_toArray, List.set_cons_zero, List.set_cons_succ]
 have HR := Aside0.mk Q_HR
 clear Q_HR
 have HB := Aside0.mk Q_HB
 clear Q_HB
 have X3 := Aside0.mk Q_X3
 clear Q_X3
 have X4 := Aside0.mk Q_X4
 clear Q_X4
 clear hall hb0_ hb1_ hb2_ hb3_ hb4_ hb5_ hb6_ hb7_ hb8_ hb9_ hb10_ hb11_ hb12_ hb13_ hb14_ hb15_ hb16_ hb17_ hb18_ hb19_ hb20_ hb21_
 have c40 := X4.out.c0
 have c41 := X4.out.c1
 have f40 := X4.out.fz 0
 have f41 := X4.out.fz 1
 go_wp2_with fail
 refine bodyPost_ret (res_span _ _ (w.heap.size + 1) 0 0 false rfl rfl (blk_put (blk_put X4.out 0 _ rfl) 1 _ rfl)) rfl ?_
 exact ⟨rfl, below_set' (below_set' HB.out (by omega)) (by omega)⟩
set_option maxHeartbeats 8000000 in
set_option maxRecDepth 100000 in
theorem span_yes (A0 : Option Addr) (c0 : Nat) (l0 : List Rn) (xa xb : Int) (w : World) (h : RC w A0 l0) (hc : l0.length ≤ c0) (hl : l0.length ≤ 140737488351232) (hg : good l0 = true) (ha : 0 ≤ xa) (hab : xa ≤ xb) (hi_ : xb ≤ inL l0) :
  Calls Try.prog 35 #[.slice A0 l0.length c0, .agg #[.int .i64 xa, .int .i64 xb]] w (SpanPost (spanL l0 xa xb) w) := by
 refine (callsIn_wide (n := 12)).1 ?_
 have HG := Aside0.mk (good_c A0 c0 l0 hc hl)
 have HI := Aside0.mk (in_c A0 c0 l0 hc hl hg)
 have HMV := Aside0.mk (fun W (hr : RC W A0 l0) => move_c A0 c0 l0 xa false W hr hc hl)
 rw [hg] at HG
 obtain ⟨g1, g2, g3, g4⟩ := good_ok hg
 have gs := (fits_iff g4 0 0 (by decide) (by decide)).1 g3
 have HOK := Aside0.mk g4
 have HSM := Aside0.mk (show Sums 0 0 E l0 from ⟨by decide, by decide, by omega, by rw [E_size]; omega⟩)
 have HLEN := Aside0.mk g2
 have hMa : xa ≤ 16777216 := by omega
 have hMb : xb ≤ 16777216 := by omega
 have hb0 : 0 ≤ xb := by omega
 have H0 := Aside0.mk h
 have HA := Aside0.mk (RC.lt h)
 have a1 : decide (xa < 0) = false := by simp; omega
 have a2 : decide (xb < xa) = false := by simp; omega
 have a3 : decide (inL l0 < xb) = false := by simpa using hi_
 obtain ⟨M, hM⟩ : ∃ M, M = spS xa xb (stepsL l0 0 0) ⟨0, 0, false⟩ := ⟨_, rfl⟩
 have hV : spanL l0 xa xb = (if M.found then (M.e0, M.e1) else ((moveL l0 xa false).1, (moveL l0 xa false).1), true) := by unfold spanL; rw [if_pos ⟨hg, ha, hab, hi_⟩, hM]
 obtain ⟨V, hVV⟩ : ∃ V, V = spanL l0 xa xb := ⟨_, rfl⟩
 rw [← hVV] at hV ⊢
 have HV := Aside0.mk hV
 have HM := Aside0.mk hM
 clear h hc hl hg g1 g2 g3 g4 gs hV hM hVV hi_ hab
 refine callsIn_of_wp_marks Try.func35 rfl trivial ?_ rfl
 simp only [Try.ntmps35, List.size_toArray, List.length_cons, List.length_nil, Nat.reduceAdd, Nat.reduceSub, Array.replicate_succ, Array.replicate_zero, List.push_toArray, List.append_toArray, List.nil_append, List.cons_append]
 gi_wp2
 obtain ⟨w2, hw2⟩ : ∃ w2, w2 = (w.alloc (.cells #[.int .i64 xa, .int .i64 xb] 42)).alloc (.cells #[.int .i64 0, .int .i64 0] 42) := ⟨_, rfl⟩
 have hb2 : Below w.heap.size w w2 := by rw [hw2]; exact below_alloc (below_alloc (Below.refl _ _) _) _
 have HB := Aside0.mk hb2
 have HR := Aside0.mk (H0.out.below hb2)
 have X3 := Aside0.mk (show Sx w.heap.size xa xb w2 by rw [hw2]; exact (show Sx w.heap.size xa xb (w.alloc _) from Own.heap_new w _).below (below_alloc (Below.refl _ _) _))
 have X4 := Aside0.mk (show Sx (w.heap.size + 1) 0 0 w2 by
  rw [hw2]
  have := Own.heap_new (w.alloc (.cells #[.int .i64 xa, .int .i64 xb] 42)) (.cells #[.int .i64 0, .int .i64 0] 42)
  rwa [World.size_alloc] at this)
 rw [← hw2]
 clear hw2 hb2
 refine wpIn_wide.2 ?_
 refine start_ (n := 22) (S := fun w' => True) (ds := []) #[false, false, false, false, false, false, false, false, false, false, false, false, false, false, false, false, false, false, false, false, false, false] (by kernel_rfl) rfl rfl trivial (fun hHeld => ?_); refine with_tabW PlaceS.tab1 PlaceS.bits1 (fun HT_ HW_ => ?_)
 refine inv_at [0, 1, 2, 3, 4, 5, 6, 7, 8, 9, 10, 11, 12, 13, 14, 15, 16, 17, 18, 19, 20, 21] (fun a0_ b a w' => a = putSel a0_ b [(0, 12, (.slice A0 l0.length c0)), (1, 13, (.bool true)), (2, 14, (.bool false)), (3, 15, (.bool false)), (4, 16, (.pointer (some ⟨w.heap.size, 0, none⟩))), (5, 17, (.int .i64 xa)), (6, 18, (.bool false)), (7, 19, (.bool false)), (8, 20, (.bool false)), (9, 21, (.pointer (some ⟨w.heap.size, 0, none⟩))), (10, 22, (.int .i64 xa)), (11, 23, (.pointer (some ⟨w.heap.size, 1, none⟩))), (12, 24, (.int .i64 xb)), (13, 25, (.bool false)), (14, 26, (.bool false)), (15, 27, (.bool false)), (16, 28, (.pointer (some ⟨w.heap.size, 1, none⟩))), (17, 29, (.int .i64 xb)), (18, 30, (.slice A0 l0.length c0)), (19, 31, (.int .i64 (inL l0))), (20, 32, (.bool false)), (21, 33, (.bool false))] ∧ (RC w' A0 l0) ∧ (Below w.heap.size w w') ∧ (Sx w.heap.size xa xb w') ∧ (Sx (w.heap.size + 1) 0 0 w')) HT_.out HW_.out (by kernel_rfl) (by kernel_rfl) ?_ ?_ ?_
 ·exact ⟨by simp only [putSel, Bool.false_eq_true, if_false], HR.out.below (below_drew1 (Below.refl _ _)), below_drew1 HB.out, X3.out.below (below_drew1 (Below.refl _ _)), X4.out.below (below_drew1 (Below.refl _ _))⟩
 ·skip
  clear HB HR X3 X4
  refine steps_cons ?_ ?_
  ·rintro b a w' ⟨ha, Q_HR, Q_HB, Q_X3, Q_X4⟩ hb_ hon hoff
   refine ⟨_, rfl, fun K hK => ?_⟩
   have e0 : a.tmps[0]? = some ((.slice A0 l0.length c0)) := by rw [ha]; exact (putSel_off rfl).trans rfl
   replace ha := Aside0.mk ha
   have HR := Aside0.mk Q_HR
   have HB := Aside0.mk Q_HB
   have X3 := Aside0.mk Q_X3
   have X4 := Aside0.mk Q_X4
   refine value_ (w1 := w') (v := (.slice A0 l0.length c0)) (by rfl) rfl ?_ ?_
   ·go_simp
    (try simp only [i64_w])
    try rfl
   refine hK.out _ _ ⟨(by rw [ha.out]; exact putSel_upk 0 hb_ rfl rfl rfl), Q_HR, Q_HB, Q_X3, Q_X4⟩
  refine steps_cons ?_ ?_
  ·rintro b a w' ⟨ha, Q_HR, Q_HB, Q_X3, Q_X4⟩ hb_ hon hoff
   refine ⟨_, rfl, fun K hK => ?_⟩
   have e12 : a.tmps[12]? = some ((.slice A0 l0.length c0)) := by rw [ha]; exact putSel_on (e := (0, 12, (.slice A0 l0.length c0))) 0 rfl rfl (hon 0 (by kernel_rfl)) rfl
   replace ha := Aside0.mk ha
   have HR := Aside0.mk Q_HR
   have HB := Aside0.mk Q_HB
   have X3 := Aside0.mk Q_X3
   have X4 := Aside0.mk Q_X4
   refine goes_ Try.func30 (by kernel_rfl) rfl #[.slice A0 l0.length c0] (by rfl) rfl rfl (by first | (simp only [List.map_toArray, List.map_cons, List.map_nil, Act.eval, Array.getD_eq_getD_getElem?, Option.getD_some, e12]; done) | (simp only [List.map_toArray, List.map_cons, List.map_nil, Act.eval, Array.getD_eq_getD_getElem?, Option.getD_some, e12]; rfl)) ?_
   refine (HG.out _ HR.out).mono ?_
   rintro e w1_ ⟨rfl, hb⟩
   refine ⟨_, rfl, ?_⟩
   refine hK.out _ _ ⟨(by rw [ha.out]; exact putSel_upk 1 hb_ rfl rfl rfl), HR.out.below hb, below_step HB.out hb, X3.out.below hb, X4.out.below hb⟩
  refine steps_cons ?_ ?_
  ·rintro b a w' ⟨ha, Q_HR, Q_HB, Q_X3, Q_X4⟩ hb_ hon hoff
   refine ⟨_, rfl, fun K hK => ?_⟩
   have e13 : a.tmps[13]? = some ((.bool true)) := by rw [ha]; exact putSel_on (e := (1, 13, (.bool true))) 1 rfl rfl (hon 1 (by kernel_rfl)) rfl
   replace ha := Aside0.mk ha
   have HR := Aside0.mk Q_HR
   have HB := Aside0.mk Q_HB
   have X3 := Aside0.mk Q_X3
   have X4 := Aside0.mk Q_X4
   refine value_ (w1 := w') (v := (.bool false)) (by rfl) rfl ?_ ?_
   ·go_simp
    (try simp only [i64_w])
    try rfl
   refine hK.out _ _ ⟨(by rw [ha.out]; exact putSel_upk 2 hb_ rfl rfl rfl), Q_HR, Q_HB, Q_X3, Q_X4⟩
  refine steps_cons ?_ ?_
  ·rintro b a w' ⟨ha, Q_HR, Q_HB, Q_X3, Q_X4⟩ hb_ hon hoff
   refine ⟨_, rfl, fun K hK => ?_⟩
   have e14 : a.tmps[14]? = some ((.bool false)) := by rw [ha]; exact putSel_on (e := (2, 14, (.bool false))) 2 rfl rfl (hon 2 (by kernel_rfl)) rfl
   replace ha := Aside0.mk ha
   have HR := Aside0.mk Q_HR
   have HB := Aside0.mk Q_HB
   have X3 := Aside0.mk Q_X3
   have X4 := Aside0.mk Q_X4
   refine value_ (w1 := w') (v := (.bool false)) (by rfl) rfl ?_ ?_
   ·go_simp
    (try simp only [i64_w])
    try rfl
   refine hK.out _ _ ⟨(by rw [ha.out]; exact putSel_upk 3 hb_ rfl rfl rfl), Q_HR, Q_HB, Q_X3, Q_X4⟩
  refine steps_cons ?_ ?_
  ·rintro b a w' ⟨ha, Q_HR, Q_HB, Q_X3, Q_X4⟩ hb_ hon hoff
   refine ⟨_, rfl, fun K hK => ?_⟩
   have e3 : a.tmps[3]? = some ((.pointer (some ⟨w.heap.size, 0, none⟩))) := by rw [ha]; exact (putSel_off rfl).trans rfl
   have e15 : a.tmps[15]? = some ((.bool false)) := by rw [ha]; exact putSel_on (e := (3, 15, (.bool false))) 3 rfl rfl (hon 3 (by kernel_rfl)) rfl
   replace ha := Aside0.mk ha
   have HR := Aside0.mk Q_HR
   have HB := Aside0.mk Q_HB
   have X3 := Aside0.mk Q_X3
   have X4 := Aside0.mk Q_X4
   refine value_ (w1 := w') (v := (.pointer (some ⟨w.heap.size, 0, none⟩))) (wanted_on rfl rfl rfl (e15.trans (by first | rfl | (simp [*]; done)))) rfl ?_ ?_
   ·go_simp
    (try simp only [i64_w])
    try rfl
   refine hK.out _ _ ⟨(by rw [ha.out]; exact putSel_upk 4 hb_ rfl rfl rfl), Q_HR, Q_HB, Q_X3, Q_X4⟩
  refine steps_cons ?_ ?_
  ·rintro b a w' ⟨ha, Q_HR, Q_HB, Q_X3, Q_X4⟩ hb_ hon hoff
   refine ⟨_, rfl, fun K hK => ?_⟩
   have e16 : a.tmps[16]? = some ((.pointer (some ⟨w.heap.size, 0, none⟩))) := by rw [ha]; exact putSel_on (e := (4, 16, (.pointer (some ⟨w.heap.size, 0, none⟩)))) 4 rfl rfl (hon 4 (by kernel_rfl)) rfl
   have e15 : a.tmps[15]? = some ((.bool false)) := by rw [ha]; exact putSel_on (e := (3, 15, (.bool false))) 3 rfl rfl (hon 3 (by kernel_rfl)) rfl
   replace ha := Aside0.mk ha
   have HR := Aside0.mk Q_HR
   have HB := Aside0.mk Q_HB
   have X3 := Aside0.mk Q_X3
   have X4 := Aside0.mk Q_X4
   have hc_ := X3.out.c0
   refine value_ (w1 := w') (v := (.int .i64 xa)) (wanted_on rfl rfl rfl (e15.trans (by first | rfl | (simp [*]; done)))) rfl ?_ ?_
   ·go_simp
    (try simp only [i64_w])
    try rfl
   refine hK.out _ _ ⟨(by rw [ha.out]; exact putSel_upk 5 hb_ rfl rfl rfl), Q_HR, Q_HB, Q_X3, Q_X4⟩
  refine steps_cons ?_ ?_
  ·rintro b a w' ⟨ha, Q_HR, Q_HB, Q_X3, Q_X4⟩ hb_ hon hoff
   refine ⟨_, rfl, fun K hK => ?_⟩
   have e17 : a.tmps[17]? = some ((.int .i64 xa)) := by rw [ha]; exact putSel_on (e := (5, 17, (.int .i64 xa))) 5 rfl rfl (hon 5 (by kernel_rfl)) rfl
   have e15 : a.tmps[15]? = some ((.bool false)) := by rw [ha]; exact putSel_on (e := (3, 15, (.bool false))) 3 rfl rfl (hon 3 (by kernel_rfl)) rfl
   replace ha := Aside0.mk ha
   have HR := Aside0.mk Q_HR
   have HB := Aside0.mk Q_HB
   have X3 := Aside0.mk Q_X3
   have X4 := Aside0.mk Q_X4
   refine value_ (w1 := w') (v := (.bool false)) (wanted_on rfl rfl rfl (e15.trans (by first | rfl | (simp [*]; done)))) rfl ?_ ?_
   ·go_simp
    (try simp only [i64_w])
    try rfl
   refine hK.out _ _ ⟨(by rw [ha.out]; exact putSel_upk 6 hb_ rfl rfl rfl), Q_HR, Q_HB, Q_X3, Q_X4⟩
  refine steps_cons ?_ ?_
  ·rintro b a w' ⟨ha, Q_HR, Q_HB, Q_X3, Q_X4⟩ hb_ hon hoff
   refine ⟨_, rfl, fun K hK => ?_⟩
   have e15 : a.tmps[15]? = some ((.bool false)) := by rw [ha]; exact putSel_on (e := (3, 15, (.bool false))) 3 rfl rfl (hon 3 (by kernel_rfl)) rfl
   have e18 : a.tmps[18]? = some ((.bool false)) := by rw [ha]; exact putSel_on (e := (6, 18, (.bool false))) 6 rfl rfl (hon 6 (by kernel_rfl)) rfl
   replace ha := Aside0.mk ha
   have HR := Aside0.mk Q_HR
   have HB := Aside0.mk Q_HB
   have X3 := Aside0.mk Q_X3
   have X4 := Aside0.mk Q_X4
   refine value_ (w1 := w') (v := (.bool false)) (by rfl) rfl ?_ ?_
   ·go_simp
    (try simp only [i64_w])
    try rfl
   refine hK.out _ _ ⟨(by rw [ha.out]; exact putSel_upk 7 hb_ rfl rfl rfl), Q_HR, Q_HB, Q_X3, Q_X4⟩
  refine steps_cons ?_ ?_
  ·rintro b a w' ⟨ha, Q_HR, Q_HB, Q_X3, Q_X4⟩ hb_ hon hoff
   refine ⟨_, rfl, fun K hK => ?_⟩
   have e19 : a.tmps[19]? = some ((.bool false)) := by rw [ha]; exact putSel_on (e := (7, 19, (.bool false))) 7 rfl rfl (hon 7 (by kernel_rfl)) rfl
   replace ha := Aside0.mk ha
   have HR := Aside0.mk Q_HR
   have HB := Aside0.mk Q_HB
   have X3 := Aside0.mk Q_X3
   have X4 := Aside0.mk Q_X4
   refine value_ (w1 := w') (v := (.bool false)) (by rfl) rfl ?_ ?_
   ·go_simp
    (try simp only [i64_w])
    try rfl
   refine hK.out _ _ ⟨(by rw [ha.out]; exact putSel_upk 8 hb_ rfl rfl rfl), Q_HR, Q_HB, Q_X3, Q_X4⟩
  refine steps_cons ?_ ?_
  ·rintro b a w' ⟨ha, Q_HR, Q_HB, Q_X3, Q_X4⟩ hb_ hon hoff
   refine ⟨_, rfl, fun K hK => ?_⟩
   have e3 : a.tmps[3]? = some ((.pointer (some ⟨w.heap.size, 0, none⟩))) := by rw [ha]; exact (putSel_off rfl).trans rfl
   have e20 : a.tmps[20]? = some ((.bool false)) := by rw [ha]; exact putSel_on (e := (8, 20, (.bool false))) 8 rfl rfl (hon 8 (by kernel_rfl)) rfl
   replace ha := Aside0.mk ha
   have HR := Aside0.mk Q_HR
   have HB := Aside0.mk Q_HB
   have X3 := Aside0.mk Q_X3
   have X4 := Aside0.mk Q_X4
   refine value_ (w1 := w') (v := (.pointer (some ⟨w.heap.size, 0, none⟩))) (wanted_on rfl rfl rfl (e20.trans (by first | rfl | (simp [*]; done)))) rfl ?_ ?_
   ·go_simp
    (try simp only [i64_w])
    try rfl
   refine hK.out _ _ ⟨(by rw [ha.out]; exact putSel_upk 9 hb_ rfl rfl rfl), Q_HR, Q_HB, Q_X3, Q_X4⟩
  refine steps_cons ?_ ?_
  ·rintro b a w' ⟨ha, Q_HR, Q_HB, Q_X3, Q_X4⟩ hb_ hon hoff
   refine ⟨_, rfl, fun K hK => ?_⟩
   have e21 : a.tmps[21]? = some ((.pointer (some ⟨w.heap.size, 0, none⟩))) := by rw [ha]; exact putSel_on (e := (9, 21, (.pointer (some ⟨w.heap.size, 0, none⟩)))) 9 rfl rfl (hon 9 (by kernel_rfl)) rfl
   have e20 : a.tmps[20]? = some ((.bool false)) := by rw [ha]; exact putSel_on (e := (8, 20, (.bool false))) 8 rfl rfl (hon 8 (by kernel_rfl)) rfl
   replace ha := Aside0.mk ha
   have HR := Aside0.mk Q_HR
   have HB := Aside0.mk Q_HB
   have X3 := Aside0.mk Q_X3
   have X4 := Aside0.mk Q_X4
   have hc_ := X3.out.c0
   refine value_ (w1 := w') (v := (.int .i64 xa)) (wanted_on rfl rfl rfl (e20.trans (by first | rfl | (simp [*]; done)))) rfl ?_ ?_
   ·go_simp
    (try simp only [i64_w])
    try rfl
   refine hK.out _ _ ⟨(by rw [ha.out]; exact putSel_upk 10 hb_ rfl rfl rfl), Q_HR, Q_HB, Q_X3, Q_X4⟩
  refine steps_cons ?_ ?_
  ·rintro b a w' ⟨ha, Q_HR, Q_HB, Q_X3, Q_X4⟩ hb_ hon hoff
   refine ⟨_, rfl, fun K hK => ?_⟩
   have e3 : a.tmps[3]? = some ((.pointer (some ⟨w.heap.size, 0, none⟩))) := by rw [ha]; exact (putSel_off rfl).trans rfl
   have e20 : a.tmps[20]? = some ((.bool false)) := by rw [ha]; exact putSel_on (e := (8, 20, (.bool false))) 8 rfl rfl (hon 8 (by kernel_rfl)) rfl
   replace ha := Aside0.mk ha
   have HR := Aside0.mk Q_HR
   have HB := Aside0.mk Q_HB
   have X3 := Aside0.mk Q_X3
   have X4 := Aside0.mk Q_X4
   refine value_ (w1 := w') (v := (.pointer (some ⟨w.heap.size, 1, none⟩))) (wanted_on rfl rfl rfl (e20.trans (by first | rfl | (simp [*]; done)))) rfl ?_ ?_
   ·go_simp
    (try simp only [i64_w])
    try rfl
   refine hK.out _ _ ⟨(by rw [ha.out]; exact putSel_upk 11 hb_ rfl rfl rfl), Q_HR, Q_HB, Q_X3, Q_X4⟩
  refine steps_cons ?_ ?_
  ·rintro b a w' ⟨ha, Q_HR, Q_HB, Q_X3, Q_X4⟩ hb_ hon hoff
   refine ⟨_, rfl, fun K hK => ?_⟩
   have e23 : a.tmps[23]? = some ((.pointer (some ⟨w.heap.size, 1, none⟩))) := by rw [ha]; exact putSel_on (e := (11, 23, (.pointer (some ⟨w.heap.size, 1, none⟩)))) 11 rfl rfl (hon 11 (by kernel_rfl)) rfl
   have e20 : a.tmps[20]? = some ((.bool false)) := by rw [ha]; exact putSel_on (e := (8, 20, (.bool false))) 8 rfl rfl (hon 8 (by kernel_rfl)) rfl
   replace ha := Aside0.mk ha
   have HR := Aside0.mk Q_HR
   have HB := Aside0.mk Q_HB
   have X3 := Aside0.mk Q_X3
   have X4 := Aside0.mk Q_X4
   have hc_ := X3.out.c1
   refine value_ (w1 := w') (v := (.int .i64 xb)) (wanted_on rfl rfl rfl (e20.trans (by first | rfl | (simp [*]; done)))) rfl ?_ ?_
   ·go_simp
    (try simp only [i64_w])
    try rfl
   refine hK.out _ _ ⟨(by rw [ha.out]; exact putSel_upk 12 hb_ rfl rfl rfl), Q_HR, Q_HB, Q_X3, Q_X4⟩
  refine steps_cons ?_ ?_
  ·rintro b a w' ⟨ha, Q_HR, Q_HB, Q_X3, Q_X4⟩ hb_ hon hoff
   refine ⟨_, rfl, fun K hK => ?_⟩
   have e22 : a.tmps[22]? = some ((.int .i64 xa)) := by rw [ha]; exact putSel_on (e := (10, 22, (.int .i64 xa))) 10 rfl rfl (hon 10 (by kernel_rfl)) rfl
   have e24 : a.tmps[24]? = some ((.int .i64 xb)) := by rw [ha]; exact putSel_on (e := (12, 24, (.int .i64 xb))) 12 rfl rfl (hon 12 (by kernel_rfl)) rfl
   have e20 : a.tmps[20]? = some ((.bool false)) := by rw [ha]; exact putSel_on (e := (8, 20, (.bool false))) 8 rfl rfl (hon 8 (by kernel_rfl)) rfl
   replace ha := Aside0.mk ha
   have HR := Aside0.mk Q_HR
   have HB := Aside0.mk Q_HB
   have X3 := Aside0.mk Q_X3
   have X4 := Aside0.mk Q_X4
   refine value_ (w1 := w') (v := (.bool false)) (wanted_on rfl rfl rfl (e20.trans (by first | rfl | (simp [*]; done)))) rfl ?_ ?_
   ·go_simp
    (try simp only [i64_w])
    try rfl
   refine hK.out _ _ ⟨(by rw [ha.out]; exact putSel_upk 13 hb_ rfl rfl rfl), Q_HR, Q_HB, Q_X3, Q_X4⟩
  refine steps_cons ?_ ?_
  ·rintro b a w' ⟨ha, Q_HR, Q_HB, Q_X3, Q_X4⟩ hb_ hon hoff
   refine ⟨_, rfl, fun K hK => ?_⟩
   have e20 : a.tmps[20]? = some ((.bool false)) := by rw [ha]; exact putSel_on (e := (8, 20, (.bool false))) 8 rfl rfl (hon 8 (by kernel_rfl)) rfl
   have e25 : a.tmps[25]? = some ((.bool false)) := by rw [ha]; exact putSel_on (e := (13, 25, (.bool false))) 13 rfl rfl (hon 13 (by kernel_rfl)) rfl
   replace ha := Aside0.mk ha
   have HR := Aside0.mk Q_HR
   have HB := Aside0.mk Q_HB
   have X3 := Aside0.mk Q_X3
   have X4 := Aside0.mk Q_X4
   refine value_ (w1 := w') (v := (.bool false)) (by rfl) rfl ?_ ?_
   ·go_simp
    (try simp only [i64_w])
    try rfl
   refine hK.out _ _ ⟨(by rw [ha.out]; exact putSel_upk 14 hb_ rfl rfl rfl), Q_HR, Q_HB, Q_X3, Q_X4⟩
  refine steps_cons ?_ ?_
  ·rintro b a w' ⟨ha, Q_HR, Q_HB, Q_X3, Q_X4⟩ hb_ hon hoff
   refine ⟨_, rfl, fun K hK => ?_⟩
   have e26 : a.tmps[26]? = some ((.bool false)) := by rw [ha]; exact putSel_on (e := (14, 26, (.bool false))) 14 rfl rfl (hon 14 (by kernel_rfl)) rfl
   replace ha := Aside0.mk ha
   have HR := Aside0.mk Q_HR
   have HB := Aside0.mk Q_HB
   have X3 := Aside0.mk Q_X3
   have X4 := Aside0.mk Q_X4
   refine value_ (w1 := w') (v := (.bool false)) (by rfl) rfl ?_ ?_
   ·go_simp
    (try simp only [i64_w])
    try rfl
   refine hK.out _ _ ⟨(by rw [ha.out]; exact putSel_upk 15 hb_ rfl rfl rfl), Q_HR, Q_HB, Q_X3, Q_X4⟩
  refine steps_cons ?_ ?_
  ·rintro b a w' ⟨ha, Q_HR, Q_HB, Q_X3, Q_X4⟩ hb_ hon hoff
   refine ⟨_, rfl, fun K hK => ?_⟩
   have e3 : a.tmps[3]? = some ((.pointer (some ⟨w.heap.size, 0, none⟩))) := by rw [ha]; exact (putSel_off rfl).trans rfl
   have e27 : a.tmps[27]? = some ((.bool false)) := by rw [ha]; exact putSel_on (e := (15, 27, (.bool false))) 15 rfl rfl (hon 15 (by kernel_rfl)) rfl
   replace ha := Aside0.mk ha
   have HR := Aside0.mk Q_HR
   have HB := Aside0.mk Q_HB
   have X3 := Aside0.mk Q_X3
   have X4 := Aside0.mk Q_X4
   refine value_ (w1 := w') (v := (.pointer (some ⟨w.heap.size, 1, none⟩))) (wanted_on rfl rfl rfl (e27.trans (by first | rfl | (simp [*]; done)))) rfl ?_ ?_
   ·go_simp
    (try simp only [i64_w])
    try rfl
   refine hK.out _ _ ⟨(by rw [ha.out]; exact putSel_upk 16 hb_ rfl rfl rfl), Q_HR, Q_HB, Q_X3, Q_X4⟩
  refine steps_cons ?_ ?_
  ·rintro b a w' ⟨ha, Q_HR, Q_HB, Q_X3, Q_X4⟩ hb_ hon hoff
   refine ⟨_, rfl, fun K hK => ?_⟩
   have e28 : a.tmps[28]? = some ((.pointer (some ⟨w.heap.size, 1, none⟩))) := by rw [ha]; exact putSel_on (e := (16, 28, (.pointer (some ⟨w.heap.size, 1, none⟩)))) 16 rfl rfl (hon 16 (by kernel_rfl)) rfl
   have e27 : a.tmps[27]? = some ((.bool false)) := by rw [ha]; exact putSel_on (e := (15, 27, (.bool false))) 15 rfl rfl (hon 15 (by kernel_rfl)) rfl
   replace ha := Aside0.mk ha
   have HR := Aside0.mk Q_HR
   have HB := Aside0.mk Q_HB
   have X3 := Aside0.mk Q_X3
   have X4 := Aside0.mk Q_X4
   have hc_ := X3.out.c1
   refine value_ (w1 := w') (v := (.int .i64 xb)) (wanted_on rfl rfl rfl (e27.trans (by first | rfl | (simp [*]; done)))) rfl ?_ ?_
   ·go_simp
    (try simp only [i64_w])
    try rfl
   refine hK.out _ _ ⟨(by rw [ha.out]; exact putSel_upk 17 hb_ rfl rfl rfl), Q_HR, Q_HB, Q_X3, Q_X4⟩
  refine steps_cons ?_ ?_
  ·rintro b a w' ⟨ha, Q_HR, Q_HB, Q_X3, Q_X4⟩ hb_ hon hoff
   refine ⟨_, rfl, fun K hK => ?_⟩
   have e0 : a.tmps[0]? = some ((.slice A0 l0.length c0)) := by rw [ha]; exact (putSel_off rfl).trans rfl
   have e27 : a.tmps[27]? = some ((.bool false)) := by rw [ha]; exact putSel_on (e := (15, 27, (.bool false))) 15 rfl rfl (hon 15 (by kernel_rfl)) rfl
   replace ha := Aside0.mk ha
   have HR := Aside0.mk Q_HR
   have HB := Aside0.mk Q_HB
   have X3 := Aside0.mk Q_X3
   have X4 := Aside0.mk Q_X4
   refine value_ (w1 := w') (v := (.slice A0 l0.length c0)) (wanted_on rfl rfl rfl (e27.trans (by first | rfl | (simp [*]; done)))) rfl ?_ ?_
   ·go_simp
    (try simp only [i64_w])
    try rfl
   refine hK.out _ _ ⟨(by rw [ha.out]; exact putSel_upk 18 hb_ rfl rfl rfl), Q_HR, Q_HB, Q_X3, Q_X4⟩
  refine steps_cons ?_ ?_
  ·rintro b a w' ⟨ha, Q_HR, Q_HB, Q_X3, Q_X4⟩ hb_ hon hoff
   refine ⟨_, rfl, fun K hK => ?_⟩
   have e30 : a.tmps[30]? = some ((.slice A0 l0.length c0)) := by rw [ha]; exact putSel_on (e := (18, 30, (.slice A0 l0.length c0))) 18 rfl rfl (hon 18 (by kernel_rfl)) rfl
   have e27 : a.tmps[27]? = some ((.bool false)) := by rw [ha]; exact putSel_on (e := (15, 27, (.bool false))) 15 rfl rfl (hon 15 (by kernel_rfl)) rfl
   replace ha := Aside0.mk ha
   have HR := Aside0.mk Q_HR
   have HB := Aside0.mk Q_HB
   have X3 := Aside0.mk Q_X3
   have X4 := Aside0.mk Q_X4
   refine goes_ Try.func42 (by kernel_rfl) rfl #[.slice A0 l0.length c0] (wanted_on rfl rfl rfl (e27.trans (by first | rfl | (simp [*]; done)))) rfl rfl (by first | (simp only [List.map_toArray, List.map_cons, List.map_nil, Act.eval, Array.getD_eq_getD_getElem?, Option.getD_some, e30, e27]; done) | (simp only [List.map_toArray, List.map_cons, List.map_nil, Act.eval, Array.getD_eq_getD_getElem?, Option.getD_some, e30, e27]; rfl)) ?_
   refine (HI.out _ HR.out).mono ?_
   rintro e w1_ ⟨rfl, hb⟩
   refine ⟨_, rfl, ?_⟩
   refine hK.out _ _ ⟨(by rw [ha.out]; exact putSel_upk 19 hb_ rfl rfl rfl), HR.out.below hb, below_step HB.out hb, X3.out.below hb, X4.out.below hb⟩
  refine steps_cons ?_ ?_
  ·rintro b a w' ⟨ha, Q_HR, Q_HB, Q_X3, Q_X4⟩ hb_ hon hoff
   refine ⟨_, rfl, fun K hK => ?_⟩
   have e29 : a.tmps[29]? = some ((.int .i64 xb)) := by rw [ha]; exact putSel_on (e := (17, 29, (.int .i64 xb))) 17 rfl rfl (hon 17 (by kernel_rfl)) rfl
   have e31 : a.tmps[31]? = some ((.int .i64 (inL l0))) := by rw [ha]; exact putSel_on (e := (19, 31, (.int .i64 (inL l0)))) 19 rfl rfl (hon 19 (by kernel_rfl)) rfl
   have e27 : a.tmps[27]? = some ((.bool false)) := by rw [ha]; exact putSel_on (e := (15, 27, (.bool false))) 15 rfl rfl (hon 15 (by kernel_rfl)) rfl
   replace ha := Aside0.mk ha
   have HR := Aside0.mk Q_HR
   have HB := Aside0.mk Q_HB
   have X3 := Aside0.mk Q_X3
   have X4 := Aside0.mk Q_X4
   refine value_ (w1 := w') (v := (.bool false)) (wanted_on rfl rfl rfl (e27.trans (by first | rfl | (simp [*]; done)))) rfl ?_ ?_
   ·go_simp
    (try simp only [i64_w])
    try rfl
   refine hK.out _ _ ⟨(by rw [ha.out]; exact putSel_upk 20 hb_ rfl rfl rfl), Q_HR, Q_HB, Q_X3, Q_X4⟩
  refine steps_cons ?_ ?_
  ·rintro b a w' ⟨ha, Q_HR, Q_HB, Q_X3, Q_X4⟩ hb_ hon hoff
   refine ⟨_, rfl, fun K hK => ?_⟩
   have e27 : a.tmps[27]? = some ((.bool false)) := by rw [ha]; exact putSel_on (e := (15, 27, (.bool false))) 15 rfl rfl (hon 15 (by kernel_rfl)) rfl
   have e32 : a.tmps[32]? = some ((.bool false)) := by rw [ha]; exact putSel_on (e := (20, 32, (.bool false))) 20 rfl rfl (hon 20 (by kernel_rfl)) rfl
   replace ha := Aside0.mk ha
   have HR := Aside0.mk Q_HR
   have HB := Aside0.mk Q_HB
   have X3 := Aside0.mk Q_X3
   have X4 := Aside0.mk Q_X4
   refine value_ (w1 := w') (v := (.bool false)) (by rfl) rfl ?_ ?_
   ·go_simp
    (try simp only [i64_w])
    try rfl
   refine hK.out _ _ ⟨(by rw [ha.out]; exact putSel_upk 21 hb_ rfl rfl rfl), Q_HR, Q_HB, Q_X3, Q_X4⟩
  exact steps_nil
 rintro b a we hall ⟨ha, Q_HR, Q_HB, Q_X3, Q_X4⟩
 clear HB HR X3 X4
 have hb0_ := hall 0 (by kernel_rfl)
 have hb1_ := hall 1 (by kernel_rfl)
 have hb2_ := hall 2 (by kernel_rfl)
 have hb3_ := hall 3 (by kernel_rfl)
 have hb4_ := hall 4 (by kernel_rfl)
 have hb5_ := hall 5 (by kernel_rfl)
 have hb6_ := hall 6 (by kernel_rfl)
 have hb7_ := hall 7 (by kernel_rfl)
 have hb8_ := hall 8 (by kernel_rfl)
 have hb9_ := hall 9 (by kernel_rfl)
 have hb10_ := hall 10 (by kernel_rfl)
 have hb11_ := hall 11 (by kernel_rfl)
 have hb12_ := hall 12 (by kernel_rfl)
 have hb13_ := hall 13 (by kernel_rfl)
 have hb14_ := hall 14 (by kernel_rfl)
 have hb15_ := hall 15 (by kernel_rfl)
 have hb16_ := hall 16 (by kernel_rfl)
 have hb17_ := hall 17 (by kernel_rfl)
 have hb18_ := hall 18 (by kernel_rfl)
 have hb19_ := hall 19 (by kernel_rfl)
 have hb20_ := hall 20 (by kernel_rfl)
 have hb21_ := hall 21 (by kernel_rfl)
 subst ha
 simp only [putSel, hb0_, hb1_, hb2_, hb3_, hb4_, hb5_, hb6_, hb7_, hb8_, hb9_, hb10_, hb11_, hb12_, hb13_, hb14_, hb15_, hb16_, hb17_, hb18_, hb19_, hb20_, hb21_, if_true, Act.put, List.setIfInBounds_toArray, List.set_cons_zero, List.set_cons_succ]
 have HR := Aside0.mk Q_HR
 clear Q_HR
 have HB := Aside0.mk Q_HB
 clear Q_HB
 have X3 := Aside0.mk Q_X3
 clear Q_X3
 have X4 := Aside0.mk Q_X4
 clear Q_X4
 clear hall hb0_ hb1_ hb2_ hb3_ hb4_ hb5_ hb6_ hb7_ hb8_ hb9_ hb10_ hb11_ hb12_ hb13_ hb14_ hb15_ hb16_ hb17_ hb18_ hb19_ hb20_ hb21_
 gi_wp2
 obtain ⟨BE, hBE⟩ : ∃ b, b = we.heap.size := ⟨_, rfl⟩
 obtain ⟨BF, hBF⟩ : ∃ b, b = we.heap.size + 1 := ⟨_, rfl⟩
 obtain ⟨BC, hBC⟩ : ∃ b, b = we.heap.size + 1 + 1 := ⟨_, rfl⟩
 obtain ⟨w5, hw5⟩ : ∃ w5, w5 = (((we.alloc (.cells #[.int .i64 0, .int .i64 0] 74)).alloc (.cells #[.bool false] 4)).alloc (.cells #[.func (.func 43) #[] #[.pointer (some ⟨w.heap.size, 0, none⟩), .pointer (some ⟨we.heap.size + 1, 0, none⟩), .pointer (some ⟨we.heap.size, 0, none⟩)]] 77)) := ⟨_, rfl⟩
 have hz5 : w5.heap.size = we.heap.size + 3 := by rw [hw5]; simp
 have hb5 : Below we.heap.size we w5 := by rw [hw5]; exact below_alloc (below_alloc (below_alloc (Below.refl _ _) _) _ ) _
 have hE5 : w5.heap[BE]? = some (.cells #[.int .i64 0, .int .i64 0] 74 (0, 0)) := by
  rw [hw5, hBE, Own.heap_old _ _ _ (by simp; omega), Own.heap_old _ _ _ (by simp)]; exact Own.heap_new _ _
 have hF5 : w5.heap[BF]? = some (.cells #[.bool false] 4 (0, 0)) := by
  rw [hw5, hBF, Own.heap_old _ _ _ (by simp)]
  have := Own.heap_new (we.alloc (.cells #[.int .i64 0, .int .i64 0] 74)) (.cells #[.bool false] 4)
  rwa [World.size_alloc] at this
 have hC5 : w5.heap[BC]? = some (.cells #[.func (.func 43) #[] #[.pointer (some ⟨w.heap.size, 0, none⟩), .pointer (some ⟨BF, 0, none⟩), .pointer (some ⟨BE, 0, none⟩)]] 77 (0, 0)) := by
  rw [hw5, hBC, hBF, hBE]
  have := Own.heap_new ((we.alloc (.cells #[.int .i64 0, .int .i64 0] 74)).alloc (.cells #[.bool false] 4)) (.cells #[.func (.func 43) #[] #[.pointer (some ⟨w.heap.size, 0, none⟩), .pointer (some ⟨we.heap.size + 1, 0, none⟩), .pointer (some ⟨we.heap.size, 0, none⟩)]] 77)
  rwa [World.size_alloc, World.size_alloc] at this
 rw [← hw5, ← hBC, ← hBF, ← hBE]
 refine ⟨trivial, ?_⟩
 refine (callsIn_wide.2 (steps_c A0 _ c0 _)).mono ?_
 rintro e w6 ⟨rfl, hw6⟩
 have hb56 : Below w5.heap.size w5 w6 := by rw [hw6]; exact below_alloc (Below.refl _ _) _
 have hb6 : Below we.heap.size we w6 := hb5.trans (hb56.mono hb5.size)
 have hwe := X4.out
 have hwl : w.heap.size + 1 < we.heap.size := (Array.getElem?_eq_some_iff.1 hwe).1
 have HB6 := Aside0.mk (show Below w.heap.size w w6 from HB.out.trans (hb6.mono HB.out.size))
 have HX3 := Aside0.mk (X3.out.below hb6)
 have HX4 := Aside0.mk (X4.out.below hb6)
 have HR6 := Aside0.mk (HR.out.below hb6)
 have HE6 := Aside0.mk ((hb56.block BE (by omega)).trans hE5)
 have HF6 := Aside0.mk ((hb56.block BF (by omega)).trans hF5)
 have HC6 := Aside0.mk ((hb56.block BC (by omega)).trans hC5)
 obtain ⟨T, hT⟩ : ∃ T, T = w5.heap.size := ⟨_, rfl⟩
 have HT6 := Aside0.mk (show w6.heap[T]? = some (.cells #[.slice A0 l0.length c0] 34 (0, 0)) by rw [hw6, hT]; exact Own.heap_new _ _)
 have hT6 := (Array.getElem?_eq_some_iff.1 HT6.out).1
 have HZ6 := Aside0.mk (show w.heap.size + 1 < BE ∧ BF = BE + 1 ∧ BC = BE + 2 ∧ T = BE + 3 ∧ T < w6.heap.size from ⟨by omega, by omega, by omega, by omega, hT6⟩)
 rw [← hT]
 clear hw5 hz5 hb5 hE5 hF5 hC5 hw6 hb56 hb6 hwe hwl hT hT6 hBE hBF hBC X3 X4 HR HB HG HI H0 a1 a2 a3
 gi_wp2
 have HFF := Aside0.mk (show ∀ k, (fun k => k = BE ∨ k = BF) k → k < w6.heap.size from fun k hk => by have := HZ6.out; have hk2 : k = BE ∨ k = BF := hk; omega)
 obtain ⟨L, hL⟩ : ∃ L, L = stepsL l0 0 0 := ⟨_, rfl⟩
 obtain ⟨Q, hQ⟩ : ∃ Q : List St → World → Prop, Q = fun pre W => ∃ m : Sp, SpIn BE BF m W ∧ spS xa xb (L.drop pre.length) m = M := ⟨_, rfl⟩
 have HQQ := Aside0.mk (show ∀ pre W W', (∀ k, (fun k => k = BE ∨ k = BF) k → W'.heap[k]? = W.heap[k]?) → Q pre W → Q pre W' from fun pre W W' hk hq => by
  rw [hQ] at hq ⊢
  obtain ⟨d, h1, h2⟩ := hq
  exact ⟨d, ⟨(hk BE (.inl rfl)).trans h1.1, (hk BF (.inr rfl)).trans h1.2⟩, h2⟩)
 have HQE := Aside0.mk hQ
 have HLE := Aside0.mk hL
 clear hQ hL
 refine range_g (n := 12) (w := w6) (by decide) (gf := 53) (lb := #[.pointer (some ⟨T, 0, none⟩)]) rfl (enters_of Try.func53 (by kernel_rfl) rfl) (fun s : St => #[.agg #[.int .i64 s.r.f0, .string s.r.f1, .int .i64 s.r.f2, .int .i64 s.i, .int .i64 s.o]]) (fun _ => rfl) L (Held A0 c0 T l0)
  (by rw [HLE.out]; exact steps_it A0 c0 T l0 HOK.out HSM.out (by have := HLEN.out; omega)) (Jf w6 (fun k => k = BE ∨ k = BF) Q) (jf_party HFF.out HQQ.out) ?hK (jf_own (Nat.le_refl _) HFF.out HQQ.out) (fun _ _ _ => False) (fun _ _ _ _ _ h _ _ => h) ?h0
  (fun x a' W => ∃ Bx, W.heap[Bx]? = some (.cells #[.int .i64 x.r.f0, .string x.r.f1, .int .i64 x.r.f2, .int .i64 x.i, .int .i64 x.o] 76 (0, 0)) ∧ a' = { tmps := #[.slice A0 l0.length c0, .agg #[.int .i64 xa, .int .i64 xb], undef, .pointer (some ⟨w.heap.size, 0, none⟩), .pointer (some ⟨w.heap.size + 1, 0, none⟩), .bool false, .pointer (some ⟨BE, 0, none⟩), .pointer (some ⟨BF, 0, none⟩), .pointer (some ⟨BC, 0, none⟩), .pointer (some ⟨Bx, 0, none⟩), undef, undef, .slice A0 l0.length c0, .bool true, .bool false, .bool false, .pointer (some ⟨w.heap.size, 0, none⟩), .int .i64 xa, .bool false, .bool false, .bool false, .pointer (some ⟨w.heap.size, 0, none⟩), .int .i64 xa, .pointer (some ⟨w.heap.size, 1, none⟩), .int .i64 xb, .bool false, .bool false, .bool false, .pointer (some ⟨w.heap.size, 1, none⟩), .int .i64 xb, .slice A0 l0.length c0, .int .i64 (inL l0), .bool false, .bool false, undef, .func (.func 43) #[] #[.pointer (some ⟨w.heap.size, 0, none⟩), .pointer (some ⟨BF, 0, none⟩), .pointer (some ⟨BE, 0, none⟩)], .slice A0 l0.length c0, .func (.func 53) #[] #[.pointer (some ⟨T, 0, none⟩)], .agg #[.int .i64 x.r.f0, .string x.r.f1, .int .i64 x.r.f2, .int .i64 x.i, .int .i64 x.o], undef, undef, undef, undef, undef, undef, undef, undef, undef, undef, undef, undef, undef, undef, undef, undef, undef, undef, undef, undef], defers := [] })
  (fun x a' s W W' row hs hg hr => by obtain ⟨Bx, h1, h2⟩ := hs; exact ⟨Bx, (hg.block Bx (Array.getElem?_eq_some_iff.1 h1).1 (fun e => by obtain ⟨_, q, h3, h4⟩ := hr Bx e.symm; rw [h1] at h3; cases h3; cases h4)).trans h1, h2⟩) ?assign ?body ?done ?stop
 case hK =>
  intro pre G W hj
  refine ⟨(hj.but.block _ HZ6.out.2.2.2.2 (fun e => by have e2 : T = BE ∨ T = BF := e; have := HZ6.out; omega)).trans HT6.out, C_same HR6.out fun ad e hp => ?_⟩
  have hlt := HA.out ad e hp
  exact hj.but.block _ (by have := HZ6.out; omega) (fun e2 => by have e3 : ad.block = BE ∨ ad.block = BF := e2; have := HZ6.out; omega)
 case h0 => exact jf_start rfl (by rw [HQE.out]; exact ⟨⟨0, 0, false⟩, ⟨HE6.out, HF6.out⟩, by rw [HM.out, HLE.out]; rfl⟩)
 case assign =>
  intro l pre G x W K hj hK
  gi_wp2
  exact hK _ _ ((KeepsOthers.alloc _ _).from _) ((jf_party HFF.out HQQ.out).below hj (below_alloc (Below.refl _ _) _)) ⟨W.heap.size, Own.heap_new _ _, rfl⟩
 case body =>
  rintro l pre x suf G a' W hLp hj ⟨Bx, hx, rfl⟩
  have hq := hj.q
  rw [HQE.out] at hq
  obtain ⟨m, hsp, hmv⟩ := hq
  have hdr : L.drop pre.length = x :: suf := by rw [hLp]; simp
  rw [hdr] at hmv
  have HMS := Aside0.mk (show spS xa xb suf (meetL xa xb x m) = M from hmv)
  have HNX := Aside0.mk (show L.drop (pre ++ [x]).length = suf by rw [hLp]; simp)
  have bnd := step_bounds l0 0 0 HOK.out (by decide) (by decide) HSM.out.i (by have := HSM.out.o; rw [E_size] at this; exact this) x (by rw [← HLE.out, hLp]; simp)
  obtain ⟨xi0, xo0, xi, xo, xk⟩ := bnd
  have xp := knd_pos xk
  have HJ := Aside0.mk hj
  have hX : W.heap[w.heap.size]? = some (.cells #[.int .i64 xa, .int .i64 xb] 42 (0, 0)) := (hj.but.block _ (by have := HZ6.out; omega) (fun e => by have e2 : w.heap.size = BE ∨ w.heap.size = BF := e; have := HZ6.out; omega)).trans HX3.out
  have hCC := (hj.but.block BC (by have := HZ6.out; omega) (fun e => by have e2 : BC = BE ∨ BC = BF := e; have := HZ6.out; omega)).trans HC6.out
  have HMC := Aside0.mk (meet_c w.heap.size BE BF xa xb x m W hX hsp (by have := HZ6.out; omega) (by have := HZ6.out; omega) (by have := HZ6.out; omega) ha hMb hMa hb0 xi0 (by omega) xo0 (by omega) xp.1)
  have c8 : W.cell? ⟨BC, 0, none⟩ = some (.func (.func 43) #[] #[.pointer (some ⟨w.heap.size, 0, none⟩), .pointer (some ⟨BF, 0, none⟩), .pointer (some ⟨BE, 0, none⟩)]) := by rw [cell_of_row W _ 0 _ _ _ hCC]; rfl
  obtain ⟨x0, x1, x2, x3, x4⟩ := blk_step (s := x) hx
  clear hx hj hsp hmv hdr hLp xk xp xi xo xi0 xo0 hX hCC
  gi_wp2
  refine ⟨trivial, ?_⟩
  refine (callsIn_wide.2 HMC.out).mono ?_
  rintro e w8 ⟨⟨v, rfl⟩, hbs, hsp⟩
  have HBS := Aside0.mk hbs
  have HSP := Aside0.mk hsp
  clear hbs hsp
  gi_wp2
  refine ⟨⟨HBS.out.size, fun k q hk hq hc => (HBS.out.block k (Array.getElem?_eq_some_iff.1 hq).1 (fun e => by have := HFF.out k e; omega)).trans hq⟩, jf_step HFF.out HJ.out HBS.out (by rw [HQE.out]; exact ⟨_, HSP.out, by rw [HNX.out]; exact HMS.out⟩)⟩
 case done =>
  intro D G W hD hj hK
  have hq := hj.q
  rw [HQE.out] at hq
  obtain ⟨m, hsp, hmv⟩ := hq
  rw [List.drop_length] at hmv
  have hmm : m = M := hmv
  subst hmm
  have HSP := Aside0.mk hsp
  have HBUT := Aside0.mk hj.but
  have HKD := Aside0.mk hK
  have HDD := Aside0.mk hD
  have hX3 : Sx w.heap.size xa xb W := (hj.but.block _ (by have := HZ6.out; omega) (fun e => by have e2 : w.heap.size = BE ∨ w.heap.size = BF := e; have := HZ6.out; omega)).trans HX3.out
  have hX4 : Sx (w.heap.size + 1) 0 0 W := (hj.but.block _ (by have := HZ6.out; omega) (fun e => by have e2 : w.heap.size + 1 = BE ∨ w.heap.size + 1 = BF := e; have := HZ6.out; omega)).trans HX4.out
  have HX3W := Aside0.mk hX3
  have HX4W := Aside0.mk hX4
  have HRW := Aside0.mk (show RC W A0 l0 from C_same HR6.out fun ad e hp => by
   have hlt := HA.out ad e hp
   exact HBUT.out.block _ (by have := HZ6.out; omega) (fun e2 => by have e3 : ad.block = BE ∨ ad.block = BF := e2; have := HZ6.out; omega))
  have HBW := Aside0.mk (HBUT.out.below HB6.out (fun k hk => by have e2 : k = BE ∨ k = BF := hk; have := HZ6.out; omega) HB6.out.size)
  have cf : W.cell? ⟨BF, 0, none⟩ = some (.bool m.found) := by rw [cell_of_row W _ 0 _ _ _ hsp.2]; rfl
  clear hj hsp hmv hK hD hX3 hX4
  obtain ⟨m0, m1, mf⟩ := m
  have hRB : w.heap.size + 1 ≠ BE := by have := HZ6.out; omega
  have hRF : w.heap.size + 1 ≠ BF := by have := HZ6.out; omega
  have hBR : BE ≠ w.heap.size + 1 := by have := HZ6.out; omega
  have HDR := Aside0.mk (show D ≠ w.heap.size + 1 by have := HDD.out; have := HZ6.out; omega)
  simp only at cf
  cases mf with
  | true =>
   have HV2 := Aside0.mk (show V = ((m0, m1), true) from HV.out)
   have e0 : W.cell? ⟨BE, 0, none⟩ = some (.int .i64 m0) := by rw [cell_of_row W _ 0 _ _ _ HSP.out.1]; rfl
   have e1 : W.cell? ⟨BE, 1, none⟩ = some (.int .i64 m1) := by rw [cell_of_row W _ 1 _ _ _ HSP.out.1]; rfl
   have c40 := HX4W.out.c0
   have c41 := HX4W.out.c1
   have f40 := HX4W.out.fz 0
   have f41 := HX4W.out.fz 1
   gi_wp2
   have hkd : ((W.setCell ⟨w.heap.size + 1, 0, none⟩ (.int .i64 m0)).setCell ⟨w.heap.size + 1, 1, none⟩ (.int .i64 m1)).heap[D]? = some (.deferred (some [])) := by
    rw [Below.heap_setCell _ ⟨w.heap.size + 1, 1, none⟩ _ D HDR.out, Below.heap_setCell _ ⟨w.heap.size + 1, 0, none⟩ _ D HDR.out]; exact HKD.out
   refine ⟨by simp, .inl ⟨_, _, rfl, run_takeDeferred hkd, ?_⟩⟩
   have hs := blk_put (blk_put HX4W.out 0 (.int .i64 m0) rfl) 1 (.int .i64 m1) rfl
   have hs2 : Sx (w.heap.size + 1) m0 m1 (((W.setCell ⟨w.heap.size + 1, 0, none⟩ (.int .i64 m0)).setCell ⟨w.heap.size + 1, 1, none⟩ (.int .i64 m1)).putObj D (.deferred none)) := (World.putObj_heap_other HDR.out.symm).trans hs
   refine ⟨_, res_span _ _ (w.heap.size + 1) m0 m1 true rfl rfl hs2, ?_, ?_⟩
   ·rw [HV2.out]
   exact (below_set' (below_set' HBW.out (by omega)) (by omega)).trans ⟨rfl, rfl, rfl, by simp, fun k hk => World.putObj_heap_other (by have := HDD.out; have := HZ6.out; omega)⟩
  | false =>
   obtain ⟨mv, hmv⟩ : ∃ mv, mv = moveL l0 xa false := ⟨_, rfl⟩
   have HV2 := Aside0.mk (show V = ((mv.1, mv.1), true) by rw [hmv]; exact HV.out)
   have HMW := Aside0.mk (HMV.out W HRW.out)
   rw [← hmv] at HMW
   clear hmv
   obtain ⟨mx, mb⟩ := mv
   simp only at HMW HV2
   have c30 := HX3W.out.c0
   gi_wp2
   refine ⟨trivial, ?_⟩
   refine (callsIn_wide.2 HMW.out).mono ?_
   rintro e W3 ⟨rfl, hb3⟩
   have hx4 := HX4W.out.below hb3
   have hE3 := (hb3.block BE (Array.getElem?_eq_some_iff.1 HSP.out.1).1).trans HSP.out.1
   have HX43 := Aside0.mk hx4
   have HE3 := Aside0.mk hE3
   have HK3 := Aside0.mk ((hb3.block D (Array.getElem?_eq_some_iff.1 HKD.out).1).trans HKD.out)
   have HBW3 := Aside0.mk (HBW.out.trans (hb3.mono HBW.out.size))
   have e0 : W3.cell? ⟨BE, 0, none⟩ = some (.int .i64 m0) := by rw [cell_of_row W3 _ 0 _ _ _ hE3]; rfl
   have e1 : W3.cell? ⟨BE, 1, none⟩ = some (.int .i64 m1) := by rw [cell_of_row W3 _ 1 _ _ _ hE3]; rfl
   have fe0 : W3.frozen? ⟨BE, 0, none⟩ = false := frozen_of_row W3 _ 0 _ _ hE3
   have fe1 : W3.frozen? ⟨BE, 1, none⟩ = false := frozen_of_row W3 _ 1 _ _ hE3
   have c40 := hx4.c0
   have c41 := hx4.c1
   have f40 := hx4.fz 0
   have f41 := hx4.fz 1
   have HDE := Aside0.mk (show D ≠ BE by have := HDD.out; have := HZ6.out; omega)
   clear hb3 hx4 hE3 cf c30
   gi_wp2
   have hkd : ((((W3.setCell ⟨BE, 0, none⟩ (.int .i64 mx)).setCell ⟨BE, 1, none⟩ (.int .i64 mx)).setCell ⟨w.heap.size + 1, 0, none⟩ (.int .i64 mx)).setCell ⟨w.heap.size + 1, 1, none⟩ (.int .i64 mx)).heap[D]? = some (.deferred (some [])) := by
    rw [Below.heap_setCell _ ⟨w.heap.size + 1, 1, none⟩ _ D HDR.out, Below.heap_setCell _ ⟨w.heap.size + 1, 0, none⟩ _ D HDR.out, Below.heap_setCell _ ⟨BE, 1, none⟩ _ D HDE.out, Below.heap_setCell _ ⟨BE, 0, none⟩ _ D HDE.out]; exact HK3.out
   refine ⟨by simp, .inl ⟨_, _, rfl, run_takeDeferred hkd, ?_⟩⟩
   have hs0 : Sx (w.heap.size + 1) 0 0 ((W3.setCell ⟨BE, 0, none⟩ (.int .i64 mx)).setCell ⟨BE, 1, none⟩ (.int .i64 mx)) := (Below.heap_setCell _ ⟨BE, 1, none⟩ _ _ hRB).trans ((Below.heap_setCell _ ⟨BE, 0, none⟩ _ _ hRB).trans HX43.out)
   have hs := blk_put (blk_put hs0 0 (.int .i64 mx) rfl) 1 (.int .i64 mx) rfl
   have hs2 : Sx (w.heap.size + 1) mx mx (((((W3.setCell ⟨BE, 0, none⟩ (.int .i64 mx)).setCell ⟨BE, 1, none⟩ (.int .i64 mx)).setCell ⟨w.heap.size + 1, 0, none⟩ (.int .i64 mx)).setCell ⟨w.heap.size + 1, 1, none⟩ (.int .i64 mx)).putObj D (.deferred none)) := (World.putObj_heap_other HDR.out.symm).trans hs
   refine ⟨_, res_span _ _ (w.heap.size + 1) mx mx true rfl rfl hs2, ?_, ?_⟩
   ·rw [HV2.out]
   have hBl : w.heap.size ≤ BE := by have := HZ6.out; omega
   have hbw : Below w.heap.size w ((((W3.setCell ⟨BE, 0, none⟩ (.int .i64 mx)).setCell ⟨BE, 1, none⟩ (.int .i64 mx)).setCell ⟨w.heap.size + 1, 0, none⟩ (.int .i64 mx)).setCell ⟨w.heap.size + 1, 1, none⟩ (.int .i64 mx)) := below_set' (below_set' (below_set' (below_set' HBW3.out hBl) hBl) (Nat.le_succ _)) (Nat.le_succ _)
   exact hbw.trans ⟨rfl, rfl, rfl, by simp, fun k hk => World.putObj_heap_other (by have := HDD.out; have := HZ6.out; omega)⟩
 case stop =>
  rintro D c s W _ h _
  exact h.elim
theorem span_c (A0 : Option Addr) (c0 : Nat) (l0 : List Rn) (xa xb : Int) (w : World) (h : RC w A0 l0) (hc : l0.length ≤ c0) (hl : l0.length ≤ 140737488351232) :
  Calls Try.prog 35 #[.slice A0 l0.length c0, .agg #[.int .i64 xa, .int .i64 xb]] w fun e w' => e = .returned (.tuple #[.agg #[.int .i64 (spanL l0 xa xb).1.1, .int .i64 (spanL l0 xa xb).1.2], .bool (spanL l0 xa xb).2]) ∧ Below w.heap.size w w' := by
 by_cases hall : good l0 = true ∧ 0 ≤ xa ∧ xa ≤ xb ∧ xb ≤ inL l0
 ·exact span_yes A0 c0 l0 xa xb w h hc hl hall.1 hall.2.1 hall.2.2.1 hall.2.2.2
 ·have hv : spanL l0 xa xb = ((0, 0), false) := by unfold spanL; rw [if_neg hall]
  rw [hv]
  cases hg : good l0 with
  | false => exact span_no1 A0 c0 l0 xa xb w h hc hl hg
  | true =>
   by_cases h1 : xa < 0
   ·exact span_no2 A0 c0 l0 xa xb w h hc hl hg h1
   ·by_cases h2 : xb < xa
    ·exact span_no3 A0 c0 l0 xa xb w h hc hl hg (by omega) h2
    ·exact span_no4 A0 c0 l0 xa xb w h hc hl hg (by omega) (by omega) (Int.not_le.1 fun h3 => hall ⟨hg, by omega, by omega, h3⟩)
end Go.Proofs.Ytjbnffadfohofaa.PlaceS
end
-- MERGED YtjbnffadfohofaaEditG
section
namespace Go.Proofs.Ytjbnffadfohofaa.EditG
open Go.RowKit Go.Proofs.Ytjbnffadfohofaa.P Go.Proofs.Ytjbnffadfohofaa.EditL
set_option linter.unusedSimpArgs false
set_option linter.unusedVariables false
theorem add_E (s : ByteArray) : s ++ E = s := by
 apply ByteArray.ext
 simp [E]
theorem size_add (a b : ByteArray) : (a ++ b).size = a.size + b.size := ByteArray.size_append ..
theorem run_eq {r : Rn} (h : knd r = 1) : r = ⟨r.f0, E, 0⟩ ∧ 0 < r.f0 ∧ r.f1 = E ∧ r.f2 = 0 := by
 obtain ⟨f0, f1, f2⟩ := r
 rcases knd_cases ⟨f0, f1, f2⟩ with ⟨h1, h2, h3, h4⟩ | ⟨h1, h2, h3, h4⟩ | ⟨h1, h2, h3, h4⟩ | ⟨h4, _⟩
 ·have := eq_E h2
  simp only at h1 h3 this ⊢
  subst this; subst h3
  exact ⟨rfl, h1, rfl, rfl⟩
 all_goals rw [h4] at h; cases h
theorem run_eq2 {r : Rn} (h : knd r = 2) : r = ⟨0, r.f1, 0⟩ ∧ r.f0 = 0 ∧ r.f1.size ≠ 0 ∧ r.f2 = 0 := by
 obtain ⟨f0, f1, f2⟩ := r
 rcases knd_cases ⟨f0, f1, f2⟩ with ⟨h1, h2, h3, h4⟩ | ⟨h1, h2, h3, h4⟩ | ⟨h1, h2, h3, h4⟩ | ⟨h4, _⟩
 ·rw [h4] at h; cases h
 ·simp only at h1 h2 h3 ⊢
  subst h1; subst h3
  exact ⟨rfl, rfl, by omega, rfl⟩
 all_goals rw [h4] at h; cases h
theorem run_eq3 {r : Rn} (h : knd r = 3) : r = ⟨0, E, r.f2⟩ ∧ r.f0 = 0 ∧ r.f1 = E ∧ 0 < r.f2 := by
 obtain ⟨f0, f1, f2⟩ := r
 rcases knd_cases ⟨f0, f1, f2⟩ with ⟨h1, h2, h3, h4⟩ | ⟨h1, h2, h3, h4⟩ | ⟨h1, h2, h3, h4⟩ | ⟨h4, _⟩
 ·rw [h4] at h; cases h
 ·rw [h4] at h; cases h
 ·have := eq_E h2
  simp only at h1 h3 this ⊢
  subst this; subst h1
  exact ⟨rfl, rfl, rfl, h3⟩
 ·rw [h4] at h; cases h
theorem knd_three {r : Rn} (h : knd r ≠ 0) : knd r = 1 ∨ knd r = 2 ∨ knd r = 3 := by
 rcases knd_cases r with ⟨_, _, _, h4⟩ | ⟨_, _, _, h4⟩ | ⟨_, _, _, h4⟩ | ⟨h4, _⟩
 ·exact .inl h4
 ·exact .inr (.inl h4)
 ·exact .inr (.inr h4)
 ·exact absurd h4 h
end Go.Proofs.Ytjbnffadfohofaa.EditG
end
-- MERGED YtjbnffadfohofaaPlaceL
section
namespace Go.Proofs.Ytjbnffadfohofaa.PlaceL
open Go.RowKit Go.Proofs.Ytjbnffadfohofaa.P Go.Proofs.Ytjbnffadfohofaa.EditL Go.Proofs.Ytjbnffadfohofaa.EditG Go.Proofs.Ytjbnffadfohofaa.PlaceI Go.Proofs.Ytjbnffadfohofaa.PlaceM Go.Proofs.Ytjbnffadfohofaa.PlaceC Go.Proofs.Ytjbnffadfohofaa.PlaceS
set_option linter.unusedSimpArgs false
set_option linter.unusedVariables false
def P : List Rn → Int → Bool → Int
 | [], _, _ => 0
 | r :: l, n, b =>
  if 0 < r.f0 then (if n < r.f0 then n else r.f0 + P l (n - r.f0) b)
  else if 0 < r.f2 then (if n < r.f2 then 0 else P l (n - r.f2) b)
  else if n = 0 ∧ b = false then 0 else (r.f1.size : Int) + P l n b
theorem P_keep {r : Rn} (h : knd r = 1) (l : List Rn) (n : Int) (b : Bool) : P (r :: l) n b = if n < r.f0 then n else r.f0 + P l (n - r.f0) b := by
 show (if 0 < r.f0 then _ else _) = _
 rw [if_pos (run_eq h).2.1]
theorem P_drop {r : Rn} (h : knd r = 3) (l : List Rn) (n : Int) (b : Bool) : P (r :: l) n b = if n < r.f2 then 0 else P l (n - r.f2) b := by
 show (if 0 < r.f0 then _ else if 0 < r.f2 then _ else _) = _
 rw [if_neg (by have := (run_eq3 h).2.1; omega), if_pos (run_eq3 h).2.2.2]
theorem P_add {r : Rn} (h : knd r = 2) (l : List Rn) (n : Int) (b : Bool) : P (r :: l) n b = if n = 0 ∧ b = false then 0 else (r.f1.size : Int) + P l n b := by
 show (if 0 < r.f0 then _ else if 0 < r.f2 then _ else _) = _
 rw [if_neg (by have := (run_eq2 h).2.1; omega), if_neg (by have := (run_eq2 h).2.2.2; omega)]
theorem P_zero (l : List Rn) (h : ∀ r ∈ l, knd r ≠ 0) : P l 0 false = 0 := by
 cases l with
 | nil => rfl
 | cons r l =>
  rcases knd_three (h r List.mem_cons_self) with c | c | c
  ·rw [P_keep c, if_pos (run_eq c).2.1]
  ·rw [P_add c, if_pos ⟨rfl, rfl⟩]
  ·rw [P_drop c, if_pos (run_eq3 c).2.2.2]
theorem P_le_out (l : List Rn) (h : ∀ r ∈ l, knd r ≠ 0) : ∀ (n : Int) (b : Bool), 0 ≤ n → P l n b ≤ outL l := by
 induction l with
 | nil => intro n b _; exact Int.le_refl _
 | cons r l ih =>
  intro n b hn
  have h2 : ∀ x ∈ l, knd x ≠ 0 := fun x hx => h x (List.mem_cons_of_mem _ hx)
  have i := ih h2
  have ho := (inL_nonneg h2).2
  simp only [outL]
  rcases knd_three (h r List.mem_cons_self) with c | c | c
  ·have e := run_eq c
   rw [P_keep c, e.2.2.1, E_size]
   split
   ·omega
   ·have := i (n - r.f0) b (by omega); omega
  ·have e := run_eq2 c
   rw [P_add c, e.2.1]
   split
   ·omega
   ·have := i n b hn; omega
  ·have e := run_eq3 c
   rw [P_drop c, e.2.1, e.2.2.1, E_size]
   split
   ·omega
   ·have := i (n - r.f2) b (by omega); omega
theorem P_app (pre : List Rn) (hp : ∀ r ∈ pre, knd r ≠ 0) (X : List Rn) : ∀ (n : Int), 0 ≤ n → P (pre ++ X) (inL pre + n) true = outL pre + P X n true := by
 induction pre with
 | nil => intro n _; simp [inL, outL]
 | cons r pre ih =>
  intro n hn
  have h2 : ∀ x ∈ pre, knd x ≠ 0 := fun x hx => hp x (List.mem_cons_of_mem _ hx)
  have i := ih h2 n hn
  have hs := inL_nonneg h2
  rw [List.cons_append]
  simp only [inL, outL]
  rcases knd_three (hp r List.mem_cons_self) with c | c | c
  ·have e := run_eq c
   rw [P_keep c, e.2.2.1, E_size, e.2.2.2, if_neg (by omega), show r.f0 + 0 + inL pre + n - r.f0 = inL pre + n by omega, i]; omega
  ·have e := run_eq2 c
   rw [P_add c, if_neg (fun h => by cases h.2), e.2.1, e.2.2.2, show (0 : Int) + 0 + inL pre + n = inL pre + n by omega, i]; omega
  ·have e := run_eq3 c
   rw [P_drop c, e.2.1, e.2.2.1, E_size, if_neg (by omega), show 0 + r.f2 + inL pre + n - r.f2 = inL pre + n by omega, i]; omega
theorem mvS_past (at_ : Int) (b : Bool) (l : List Rn) (i o t : Int) (h : at_ < i) : mvS at_ b (stepsL l i o) t = t := by
 cases l with
 | nil => rfl
 | cons r l =>
  show (if brk at_ b ⟨r, i, o⟩ then t else _) = t
  rw [if_pos (.inl h)]
theorem mvS_P (at_ : Int) (b : Bool) : ∀ (l : List Rn) (i o t : Int), (∀ r ∈ l, knd r ≠ 0) → i ≤ at_ → at_ ≤ i + inL l → (i = at_ → t = o) → mvS at_ b (stepsL l i o) t = o + P l (at_ - i) b := by
 intro l
 induction l with
 | nil =>
  intro i o t _ h1 h2 h3
  have : i = at_ := by simp only [inL] at h2; omega
  show t = o + 0
  rw [h3 this]; omega
 | cons r l ih =>
  intro i o t hok h1 h2 h3
  have hl : ∀ x ∈ l, knd x ≠ 0 := fun x hx => hok x (List.mem_cons_of_mem _ hx)
  have hs := inL_nonneg hl
  simp only [inL] at h2
  show (if brk at_ b ⟨r, i, o⟩ then t else mvS at_ b (stepsL l (i + (r.f0 + r.f2)) (o + (r.f0 + (r.f1.size : Int)))) (upd at_ ⟨r, i, o⟩)) = _
  have hu : upd at_ ⟨r, i, o⟩ = o + (r.f1.size : Int) + (if at_ - i < r.f0 then at_ - i else r.f0) := rfl
  rcases knd_three (hok r List.mem_cons_self) with c | c | c
  ·have e := run_eq c
   have e1 : (r.f1.size : Int) = 0 := by rw [e.2.2.1, E_size]; rfl
   rw [P_keep c]
   by_cases hi : i = at_
   ·rw [if_pos (.inr ⟨hi, .inr (by show r.f1.size = 0; omega)⟩), h3 hi, if_pos (by omega)]; omega
   ·rw [if_neg (fun h => h.elim (fun h => by have : at_ < i := h; omega) (fun h => hi h.1)), hu]
    by_cases hk : at_ - i < r.f0
    ·rw [if_pos hk, if_pos hk, mvS_past _ _ _ _ _ _ (by omega)]; omega
    ·rw [if_neg hk, if_neg hk, ih _ _ _ hl (by omega) (by omega) (fun _ => by omega), show at_ - (i + (r.f0 + r.f2)) = at_ - i - r.f0 by omega]; omega
  ·have e := run_eq2 c
   rw [P_add c]
   by_cases hi : i = at_
   ·cases b with
    | false => rw [if_pos (.inr ⟨hi, .inl rfl⟩), h3 hi, if_pos ⟨by omega, rfl⟩]; omega
    | true =>
     rw [if_neg (fun h => h.elim (fun h => by have : at_ < i := h; omega) (fun h => h.2.elim (fun h => by cases h) (fun h => e.2.2.1 h))), if_neg (fun h => by cases h.2), hu, if_neg (by omega), ih _ _ _ hl (by omega) (by omega) (fun _ => by omega), show at_ - (i + (r.f0 + r.f2)) = at_ - i by omega]; omega
   ·rw [if_neg (fun h => h.elim (fun h => by have : at_ < i := h; omega) (fun h => hi h.1)), if_neg (fun h => by omega), hu, if_neg (by omega), ih _ _ _ hl (by omega) (by omega) (fun _ => by omega), show at_ - (i + (r.f0 + r.f2)) = at_ - i by omega]; omega
  ·have e := run_eq3 c
   have e1 : (r.f1.size : Int) = 0 := by rw [e.2.2.1, E_size]; rfl
   rw [P_drop c]
   by_cases hi : i = at_
   ·rw [if_pos (.inr ⟨hi, .inr (by show r.f1.size = 0; omega)⟩), h3 hi, if_pos (by omega)]; omega
   ·rw [if_neg (fun h => h.elim (fun h => by have : at_ < i := h; omega) (fun h => hi h.1)), hu, if_neg (by omega)]
    by_cases hk : at_ - i < r.f2
    ·rw [if_pos hk, mvS_past _ _ _ _ _ _ (by omega)]; omega
    ·rw [if_neg hk, ih _ _ _ hl (by omega) (by omega) (fun _ => by omega), show at_ - (i + (r.f0 + r.f2)) = at_ - i - r.f2 by omega]; omega
theorem moveL_P {op : List Rn} {at_ : Int} {b : Bool} (hg : good op = true) (h0 : 0 ≤ at_) (h1 : at_ ≤ inL op) : moveL op at_ b = (P op at_ b, true) := by
 unfold moveL
 rw [if_pos ⟨hg, h0, h1⟩, mvS_P at_ b op 0 0 0 (good_ok hg).2.2.2 h0 (by omega) (fun _ => rfl)]
 simp
def addsL : List Rn → ByteArray → List ByteArray
 | [], s => [s]
 | r :: l, s => if r.f0 + r.f2 = 0 then addsL l (s ++ r.f1) else (s ++ r.f1) :: (List.replicate ((r.f0 + r.f2).toNat - 1) E ++ addsL l E)
def dropsL : List Rn → List Bool
 | [] => []
 | r :: l => List.replicate r.f0.toNat false ++ (List.replicate r.f2.toNat true ++ dropsL l)
def G : List ByteArray → List Bool → Nat → Bool → Int
 | a :: _, _, 0, b => if b then (a.size : Int) else 0
 | a :: xs, d :: ys, n + 1, b => (a.size : Int) + (if d then 0 else 1) + G xs ys n b
 | _, _, _, _ => 0
theorem G_repF (X : List ByteArray) (Y : List Bool) (b : Bool) : ∀ (m n : Nat), G (List.replicate m E ++ X) (List.replicate m false ++ Y) n b = if n < m then (n : Int) else (m : Int) + G X Y (n - m) b := by
 intro m
 induction m with
 | zero => intro n; simp
 | succ m ih =>
  intro n
  cases n with
  | zero =>
   rw [if_pos (by omega)]
   show (if b then ((E.size : Nat) : Int) else 0) = _
   rw [E_size]; simp
  | succ n =>
   show ((E.size : Nat) : Int) + 1 + G (List.replicate m E ++ X) (List.replicate m false ++ Y) n b = _
   rw [ih, E_size]
   by_cases h : n < m
   ·rw [if_pos h, if_pos (by omega)]; omega
   ·rw [if_neg h, if_neg (by omega), show n + 1 - (m + 1) = n - m by omega]; omega
theorem G_repT (X : List ByteArray) (Y : List Bool) (b : Bool) : ∀ (m n : Nat), G (List.replicate m E ++ X) (List.replicate m true ++ Y) n b = if n < m then (0 : Int) else G X Y (n - m) b := by
 intro m
 induction m with
 | zero => intro n; simp
 | succ m ih =>
  intro n
  cases n with
  | zero =>
   rw [if_pos (by omega)]
   show (if b then ((E.size : Nat) : Int) else 0) = _
   rw [E_size]; simp
  | succ n =>
   show ((E.size : Nat) : Int) + 0 + G (List.replicate m E ++ X) (List.replicate m true ++ Y) n b = _
   rw [ih, E_size]
   by_cases h : n < m
   ·rw [if_pos h, if_pos (by omega)]; omega
   ·rw [if_neg h, if_neg (by omega), show n + 1 - (m + 1) = n - m by omega]; omega
theorem G_P : ∀ (l : List Rn) (s : ByteArray) (n : Nat) (b : Bool), (∀ r ∈ l, knd r ≠ 0) → (n : Int) ≤ inL l → G (addsL l s) (dropsL l) n b = (if n = 0 ∧ b = false then 0 else (s.size : Int)) + P l n b := by
 intro l
 induction l with
 | nil =>
  intro s n b _ h
  obtain rfl : n = 0 := by simp only [inL] at h; omega
  show (if b then (s.size : Int) else 0) = _
  cases b <;> simp [P]
 | cons r l ih =>
  intro s n b hok h
  have hl : ∀ x ∈ l, knd x ≠ 0 := fun x hx => hok x (List.mem_cons_of_mem _ hx)
  simp only [inL] at h
  rcases knd_three (hok r List.mem_cons_self) with c | c | c
  ·have e := run_eq c
   obtain ⟨k, hk⟩ : ∃ k : Nat, r.f0 = ((k + 1 : Nat) : Int) := ⟨r.f0.toNat - 1, by omega⟩
   have ea : addsL (r :: l) s = s :: (List.replicate k E ++ addsL l E) := by
    show (if r.f0 + r.f2 = 0 then _ else _) = _
    rw [if_neg (by omega), e.2.2.1, add_E, show (r.f0 + r.f2).toNat - 1 = k by omega]
   have ed : dropsL (r :: l) = false :: (List.replicate k false ++ dropsL l) := by
    show List.replicate r.f0.toNat false ++ (List.replicate r.f2.toNat true ++ dropsL l) = _
    rw [show r.f0.toNat = k + 1 by omega, show r.f2.toNat = 0 by omega, List.replicate_succ]; rfl
   rw [ea, ed, P_keep c]
   cases n with
   | zero =>
    show (if b then (s.size : Int) else 0) = _
    rw [if_pos (show ((0 : Nat) : Int) < r.f0 by omega)]
    cases b <;> simp
   | succ n =>
    show (s.size : Int) + 1 + G (List.replicate k E ++ addsL l E) (List.replicate k false ++ dropsL l) n b = _
    rw [G_repF, if_neg (show ¬ (n + 1 = 0 ∧ b = false) by omega)]
    by_cases h1 : n < k
    ·rw [if_pos h1, if_pos (show ((n + 1 : Nat) : Int) < r.f0 by omega)]; omega
    ·rw [if_neg h1, if_neg (show ¬ ((n + 1 : Nat) : Int) < r.f0 by omega), ih E (n - k) b hl (by omega), E_size, show ((n + 1 : Nat) : Int) - r.f0 = ((n - k : Nat) : Int) by omega, show (if n - k = 0 ∧ b = false then (0 : Int) else ((0 : Nat) : Int)) = 0 by split <;> rfl]
     omega
  ·have e := run_eq2 c
   have ea : addsL (r :: l) s = addsL l (s ++ r.f1) := by
    show (if r.f0 + r.f2 = 0 then _ else _) = _
    rw [if_pos (by omega)]
   have ed : dropsL (r :: l) = dropsL l := by
    show List.replicate r.f0.toNat false ++ (List.replicate r.f2.toNat true ++ dropsL l) = _
    rw [show r.f0.toNat = 0 by omega, show r.f2.toNat = 0 by omega]; rfl
   rw [ea, ed, P_add c, ih _ n b hl (by omega), size_add]
   by_cases h1 : n = 0 ∧ b = false
   ·rw [if_pos h1, if_pos h1, if_pos ⟨by omega, h1.2⟩, h1.1, h1.2, show ((0 : Nat) : Int) = 0 from rfl, P_zero l hl]
   ·rw [if_neg h1, if_neg h1, if_neg (fun h => h1 ⟨by omega, h.2⟩)]; omega
  ·have e := run_eq3 c
   obtain ⟨k, hk⟩ : ∃ k : Nat, r.f2 = ((k + 1 : Nat) : Int) := ⟨r.f2.toNat - 1, by omega⟩
   have ea : addsL (r :: l) s = s :: (List.replicate k E ++ addsL l E) := by
    show (if r.f0 + r.f2 = 0 then _ else _) = _
    rw [if_neg (by omega), e.2.2.1, add_E, show (r.f0 + r.f2).toNat - 1 = k by omega]
   have ed : dropsL (r :: l) = true :: (List.replicate k true ++ dropsL l) := by
    show List.replicate r.f0.toNat false ++ (List.replicate r.f2.toNat true ++ dropsL l) = _
    rw [show r.f2.toNat = k + 1 by omega, show r.f0.toNat = 0 by omega, List.replicate_succ]; rfl
   rw [ea, ed, P_drop c]
   cases n with
   | zero =>
    show (if b then (s.size : Int) else 0) = _
    rw [if_pos (show ((0 : Nat) : Int) < r.f2 by omega)]
    cases b <;> simp
   | succ n =>
    show (s.size : Int) + 0 + G (List.replicate k E ++ addsL l E) (List.replicate k true ++ dropsL l) n b = _
    rw [G_repT, if_neg (show ¬ (n + 1 = 0 ∧ b = false) by omega)]
    by_cases h1 : n < k
    ·rw [if_pos h1, if_pos (show ((n + 1 : Nat) : Int) < r.f2 by omega)]; omega
    ·rw [if_neg h1, if_neg (show ¬ ((n + 1 : Nat) : Int) < r.f2 by omega), ih E (n - k) b hl (by omega), E_size, show ((n + 1 : Nat) : Int) - r.f2 = ((n - k : Nat) : Int) by omega, show (if n - k = 0 ∧ b = false then (0 : Int) else ((0 : Nat) : Int)) = 0 by split <;> rfl]
     omega
theorem addsL_length : ∀ (l : List Rn) (s : ByteArray), (∀ r ∈ l, knd r ≠ 0) → ((addsL l s).length : Int) = inL l + 1 := by
 intro l
 induction l with
 | nil => intro s _; rfl
 | cons r l ih =>
  intro s hok
  have hl : ∀ x ∈ l, knd x ≠ 0 := fun x hx => hok x (List.mem_cons_of_mem _ hx)
  have hp := knd_pos (hok r List.mem_cons_self)
  simp only [inL, addsL]
  split
  ·rw [ih _ hl]; omega
  ·rw [List.length_cons, List.length_append, List.length_replicate]
   have := ih E hl
   omega
theorem dropsL_length : ∀ (l : List Rn), (∀ r ∈ l, knd r ≠ 0) → ((dropsL l).length : Int) = inL l := by
 intro l
 induction l with
 | nil => intro _; rfl
 | cons r l ih =>
  intro hok
  have hl : ∀ x ∈ l, knd x ≠ 0 := fun x hx => hok x (List.mem_cons_of_mem _ hx)
  have hp := knd_pos (hok r List.mem_cons_self)
  have := ih hl
  simp only [inL, dropsL, List.length_append, List.length_replicate]
  omega
end Go.Proofs.Ytjbnffadfohofaa.PlaceL
end
-- MERGED YtjbnffadfohofaaPvariorumlaw06Light
section
namespace Go.Proofs.Ytjbnffadfohofaa.P
open Go.RowKit Go.Proofs.YtjbnffadfohofaaW.PrintWords Go.Proofs.YtjbnffadfohofaaW.PrintLast Go.Proofs.YtjbnffadfohofaaW.PrintMore
attribute [local go_sem] max2_int min2_int max_two min_two max_three min_three max_four min_four   -- for this text's walks alone
set_option linter.unusedVariables false
set_option linter.unusedSimpArgs false
def variorumlaw06_Light.l0 : Nat → List (S49) → Int → Int → Option (Bool)
 | 0, _, _, _ => none
 | k + 1, x8, x9, x10 => if x10 < x9 then (if 0 ≤ x10 then (if x10 < (x8.length : Int) then (if (((rd_T49 x8 x10).f1).size : Int) > 200 then (some false) else (variorumlaw06_Light.l0 k x8 x9 (wrap64 (x10 + 1)))) else (none)) else (none)) else (some true)
def variorumlaw06_Light.f (k : Nat) (l0 : List (S49)) : Option (Bool) := if (l0.length : Int) > 100 then (some false) else (variorumlaw06_Light.l0 k l0 (l0.length : Int) 0)
set_option maxHeartbeats 8000000 in
set_option maxRecDepth 100000 in
theorem variorumlaw06_Light.calls (k : Nat) (A0 : Option Addr) (c0 : Nat) (l0 : List (S49)) (r : Bool) (w : World) (hr0 : Kd.C k49 w A0 l0.length l0) (hc0 : l0.length ≤ c0) (h : variorumlaw06_Light.f k l0 = some r) :
  Calls Try.prog 33 #[.slice A0 l0.length c0] w fun e w' => e = .returned (.bool r) ∧ Below w.heap.size w w' := by
 have hu49 := Try.underlying49
 have HR0 := Aside0.mk hr0
 have HC0 := Aside0.mk hc0
 clear hr0 hc0
 have HB := Aside0.mk (Below.refl w.heap.size w)
 have H : (if (l0.length : Int) > 100 then (some false) else (variorumlaw06_Light.l0 k l0 (l0.length : Int) 0)) = some r := h
 clear h
 by_cases c2 : (l0.length : Int) > 100
 ·rw [if_pos c2] at H
  have c2b0 : decide (100 < (l0.length : Int)) = true := decide_eq_true c2
  have c2b1 : decide (100 < l0.length) = true := decide_eq_true (by omega)
  clear c2
  obtain rfl := Option.some.inj H
  go_enter Try.func33, Try.ntmps33
  go_wp2
  go_ret
  exact ⟨by (rfl), by repeat ((with_reducible (exact HB.out)))⟩
 ·rw [if_neg c2] at H
  have c2b0 : decide (100 < (l0.length : Int)) = false := decide_eq_false c2
  have c2b1 : decide (100 < l0.length) = false := decide_eq_false (by omega)
  clear c2
  have H' := Aside0.mk H
  clear H
  go_enter Try.func33, Try.ntmps33
  go_wp2
  go_loopg [10] k (fun kq v10 w' => ∃ (x10_1 : Int), v10 = .int .i64 x10_1 ∧ Aside0 (variorumlaw06_Light.l0 kq l0 (l0.length : Int) x10_1 = some r) ∧ Aside0 (kq ≤ k) ∧ Aside0 (Below w.heap.size w w'))
  case atStart => exact ⟨(0), (by (rfl)), H', ⟨Nat.le_refl _⟩, ⟨by repeat ((with_reducible (exact HB.out)))⟩⟩
  case round =>
   clear H'
   try clear c2
   try clear c2b0
   try clear c2b1
   try clear p2
   obtain ⟨x10_1, rfl, HA, HK1, HB⟩ := hrel
   cases gk with
   | zero => exact absurd HA.out (by simp [variorumlaw06_Light.l0])
   | succ k1 =>
    have H := HA.out
    clear HA
    simp only [variorumlaw06_Light.l0] at H
    by_cases c3 : x10_1 < (l0.length : Int)
    ·rw [if_pos c3] at H
     have c3b0 : decide (x10_1 < (l0.length : Int)) = true := decide_eq_true c3
     clear c3
     by_cases c4 : 0 ≤ x10_1
     ·rw [if_pos c4] at H
      have c4b0 : decide (0 ≤ x10_1) = true := decide_eq_true c4
      clear c4
      by_cases c5 : x10_1 < (l0.length : Int)
      ·rw [if_pos c5] at H
       have c5b0 : decide (x10_1 < (l0.length : Int)) = true := decide_eq_true c5
       clear c5
       by_cases c6 : (((rd_T49 l0 x10_1).f1).size : Int) > 200
       ·rw [if_pos c6] at H
        have c6b0 : decide (200 < (((rd_T49 l0 x10_1).f1).size : Int)) = true := decide_eq_true c6
        have c6b1 : decide (200 < ((rd_T49 l0 x10_1).f1).size) = true := decide_eq_true (by omega)
        clear c6
        obtain rfl := Option.some.inj H
        have p108 : 0 ≤ (x10_1 : Int) := of_decide_eq_true (by (with_reducible assumption))
        have q108 : x10_1 < (l0.length : Int) := of_decide_eq_true (by (with_reducible assumption))
        obtain ⟨ad108, e108, hx108_0, hx108_1, hx108_2⟩ := at_T49 HR0.out x10_1 p108 q108
        cases e108
        replace hx108_0 := (HB.out.cell (World.block_lt_of_cell? w _ hx108_0)).trans hx108_0
        replace hx108_1 := (HB.out.cell (World.block_lt_of_cell? w _ hx108_1)).trans hx108_1
        replace hx108_2 := (HB.out.cell (World.block_lt_of_cell? w _ hx108_2)).trans hx108_2
        replace p108 := eq_true p108
        replace q108 := eq_true q108
        go_wp2_with (first | ((with_reducible refine gate_dst (N := 4) rfl ?_); refine box_event ?hg (N := 4) ?hd (cs := #[.int .i64 0, .string (⟨#[]⟩ : ByteArray), .int .i64 0]) (t := 49) ?hr ?_; (case hd => rfl); (case hg => rfl); (case hr => (go_simp; done)); intro gb109 hg w7 hbox hb; have n0_ := Aside0.mk (below_step (by repeat ((with_reducible (exact HB.out)))) hb); have n1_ := Aside0.mk (hbox); have n2_ := Aside0.mk ((by rw [hg]; exact (below_size (by repeat ((with_reducible (exact HB.out))))) : w.heap.size ≤ gb109)); have n3_ := Aside0.mk ((by rw [hg]; exact (below_size (by repeat ((with_reducible (exact HB.out))))) : w.heap.size ≤ gb109)); clear HB; have HB := n0_; have BK109 := n1_; have GW109 := n2_; have GE109 := n3_; clear n0_ n1_ n2_ n3_; clear hb hbox hg; have hcz8_0 : w7.cell? ⟨gb109, 0, none⟩ = some (.int .i64 0) := (blk_cell BK109.out 0).trans rfl; have hcz8_1 : w7.cell? ⟨gb109, 1, none⟩ = some (.string (⟨#[]⟩ : ByteArray)) := (blk_cell BK109.out 1).trans rfl; have hcz8_2 : w7.cell? ⟨gb109, 2, none⟩ = some (.int .i64 0) := (blk_cell BK109.out 2).trans rfl; have hfz8_0 := blk_frozen BK109.out 0; have hfz8_1 := blk_frozen BK109.out 1; have hfz8_2 := blk_frozen BK109.out 2))
        go_ret
        exact ⟨by (rfl), by repeat ((with_reducible first | exact HB.out | refine below_set ?_ GE109.out))⟩
       ·rw [if_neg c6] at H
        have c6b0 : decide (200 < (((rd_T49 l0 x10_1).f1).size : Int)) = false := decide_eq_false c6
        have c6b1 : decide (200 < ((rd_T49 l0 x10_1).f1).size) = false := decide_eq_false (by omega)
        clear c6
        have H' := Aside0.mk H
        clear H
        have p108 : 0 ≤ (x10_1 : Int) := of_decide_eq_true (by (with_reducible assumption))
        have q108 : x10_1 < (l0.length : Int) := of_decide_eq_true (by (with_reducible assumption))
        obtain ⟨ad108, e108, hx108_0, hx108_1, hx108_2⟩ := at_T49 HR0.out x10_1 p108 q108
        cases e108
        replace hx108_0 := (HB.out.cell (World.block_lt_of_cell? w _ hx108_0)).trans hx108_0
        replace hx108_1 := (HB.out.cell (World.block_lt_of_cell? w _ hx108_1)).trans hx108_1
        replace hx108_2 := (HB.out.cell (World.block_lt_of_cell? w _ hx108_2)).trans hx108_2
        replace p108 := eq_true p108
        replace q108 := eq_true q108
        go_wp2_with (first | ((with_reducible refine gate_dst (N := 4) rfl ?_); refine box_event ?hg (N := 4) ?hd (cs := #[.int .i64 0, .string (⟨#[]⟩ : ByteArray), .int .i64 0]) (t := 49) ?hr ?_; (case hd => rfl); (case hg => rfl); (case hr => (go_simp; done)); intro gb109 hg w9 hbox hb; have n0_ := Aside0.mk (below_step (by repeat ((with_reducible (exact HB.out)))) hb); have n1_ := Aside0.mk (hbox); have n2_ := Aside0.mk ((by rw [hg]; exact (below_size (by repeat ((with_reducible (exact HB.out))))) : w.heap.size ≤ gb109)); have n3_ := Aside0.mk ((by rw [hg]; exact (below_size (by repeat ((with_reducible (exact HB.out))))) : w.heap.size ≤ gb109)); clear HB; have HB := n0_; have BK109 := n1_; have GW109 := n2_; have GE109 := n3_; clear n0_ n1_ n2_ n3_; clear hb hbox hg; have hcz10_0 : w9.cell? ⟨gb109, 0, none⟩ = some (.int .i64 0) := (blk_cell BK109.out 0).trans rfl; have hcz10_1 : w9.cell? ⟨gb109, 1, none⟩ = some (.string (⟨#[]⟩ : ByteArray)) := (blk_cell BK109.out 1).trans rfl; have hcz10_2 : w9.cell? ⟨gb109, 2, none⟩ = some (.int .i64 0) := (blk_cell BK109.out 2).trans rfl; have hfz10_0 := blk_frozen BK109.out 0; have hfz10_1 := blk_frozen BK109.out 1; have hfz10_2 := blk_frozen BK109.out 2))
        go_roundg k1
        case measure => have := HK1.out; omega
        case rel => exact ⟨(wrap64 (x10_1 + 1)), (by (rfl)), H', ⟨by have := HK1.out; omega⟩, ⟨by repeat ((with_reducible first | exact HB.out | refine below_set ?_ GE109.out))⟩⟩
      ·rw [if_neg c5] at H
       exact absurd H (by simp)
     ·rw [if_neg c4] at H
      exact absurd H (by simp)
    ·rw [if_neg c3] at H
     have c3b0 : decide (x10_1 < (l0.length : Int)) = false := decide_eq_false c3
     clear c3
     obtain rfl := Option.some.inj H
     go_wp2
     go_ret
     exact ⟨by (rfl), by repeat ((with_reducible (exact HB.out)))⟩
end Go.Proofs.Ytjbnffadfohofaa.P
end
-- MERGED YtjbnffadfohofaaLightF
section
namespace Go.Proofs.Ytjbnffadfohofaa.LightF
open Go.RowKit Go.Proofs.Ytjbnffadfohofaa.P Go.Proofs.YtjbnffadfohofaaW.PrintWords Go.Proofs.YtjbnffadfohofaaW.PrintLast Go.Proofs.YtjbnffadfohofaaW.PrintMore Go.Proofs.Ytjbnffadfohofaa.EditL Go.Proofs.Ytjbnffadfohofaa.EditK
set_option linter.unusedSimpArgs false
set_option linter.unusedVariables false
theorem light_l (l : List Rn) (hl : l.length ≤ 140737488351232) : ∀ (suf pre : List Rn) (k : Nat), l = pre ++ suf → suf.length < k → ∃ b, variorumlaw06_Light.l0 k l (l.length : Int) (pre.length : Int) = some b ∧ (b = true → ∀ r ∈ suf, r.f1.size ≤ 200) := by
 intro suf
 induction suf with
 | nil =>
  intro pre k hfe hk
  obtain ⟨k, rfl⟩ : ∃ m, k = m + 1 := ⟨k - 1, by omega⟩
  have : l.length = pre.length := by rw [hfe]; simp
  simp only [variorumlaw06_Light.l0]
  rw [if_neg (by omega)]
  exact ⟨true, rfl, fun _ r hr => by cases hr⟩
 | cons r suf ih =>
  intro pre k hfe hk
  obtain ⟨k, rfl⟩ : ∃ m, k = m + 1 := ⟨k - 1, by omega⟩
  obtain ⟨hl2, hn, hlt⟩ := snoc hfe
  obtain ⟨b, hb, hb2⟩ := ih (pre ++ [r]) k hl2 (by simp at hk; omega)
  rw [hn] at hb
  simp only [variorumlaw06_Light.l0]
  rw [if_pos hlt, if_pos (by omega), if_pos hlt, rd_at hfe, w64 (x := (pre.length : Int) + 1) (by omega) (by omega), hb]
  by_cases h : (r.f1.size : Int) > 200
  ·rw [if_pos h]; exact ⟨false, rfl, fun h => by cases h⟩
  ·rw [if_neg h]
   refine ⟨b, rfl, fun e x hx => ?_⟩
   rcases List.mem_cons.1 hx with rfl | hx
   ·omega
   ·exact hb2 e x hx
theorem light_f (l : List Rn) (k : Nat) (hk : 100 < k) : ∃ b, variorumlaw06_Light.f k l = some b ∧ (b = true → l.length ≤ 100 ∧ ∀ r ∈ l, r.f1.size ≤ 200) := by
 unfold variorumlaw06_Light.f
 by_cases h : (l.length : Int) > 100
 ·rw [if_pos h]; exact ⟨false, rfl, fun h => by cases h⟩
 ·rw [if_neg h]
  obtain ⟨b, h1, h2⟩ := light_l l (by omega) l [] k rfl (by omega)
  exact ⟨b, h1, fun e => ⟨by omega, h2 e⟩⟩
def mk (x : Int × ByteArray × Int) : Rn := ⟨x.1, x.2.1, x.2.2⟩
end Go.Proofs.Ytjbnffadfohofaa.LightF
end
-- MERGED YtjbnffadfohofaaEditH1
section
namespace Go.Proofs.Ytjbnffadfohofaa.EditH1
open Go.RowKit Go.Proofs.Ytjbnffadfohofaa.P Go.Proofs.YtjbnffadfohofaaW.PrintWords Go.Proofs.YtjbnffadfohofaaW.PrintLast Go.Proofs.YtjbnffadfohofaaW.PrintMore Go.Proofs.Ytjbnffadfohofaa.EditL Go.Proofs.Ytjbnffadfohofaa.EditK Go.Proofs.Ytjbnffadfohofaa.EditF Go.Proofs.Ytjbnffadfohofaa.EditG
set_option linter.unusedSimpArgs false
set_option linter.unusedVariables false
theorem rgood_f {l : List Rn} (hb : l.length ≤ 140737488351232) : variorumref06_Good.f l = some (good l) := by unfold variorumref06_Good.f; rw [if_pos hb]
theorem rin_f {l : List Rn} (hb : l.length ≤ 140737488351232) (k : Nat) (hk : l.length < k) : variorumref06_In.f k l = some (if good l then inL l else 0) := by
 unfold variorumref06_In.f
 rw [rgood_f hb, Option.bind_some]
 cases h : good l with
 | false => rfl
 | true =>
  obtain ⟨_, _, h2, h3⟩ := good_ok h
  rw [if_pos rfl, rsums_f hb h3 k hk, Option.bind_some, h2]; rfl
theorem rout_f {l : List Rn} (hb : l.length ≤ 140737488351232) (k : Nat) (hk : l.length < k) : variorumref06_Out.f k l = some (if good l then outL l else 0) := by
 unfold variorumref06_Out.f
 rw [rgood_f hb, Option.bind_some]
 cases h : good l with
 | false => rfl
 | true =>
  obtain ⟨_, _, h2, h3⟩ := good_ok h
  rw [if_pos rfl, rsums_f hb h3 k hk, Option.bind_some, h2]; rfl
end Go.Proofs.Ytjbnffadfohofaa.EditH1
end
-- MERGED YtjbnffadfohofaaPvariorumlaw09Few
section
namespace Go.Proofs.Ytjbnffadfohofaa.P
open Go.RowKit Go.Proofs.YtjbnffadfohofaaW.PrintWords Go.Proofs.YtjbnffadfohofaaW.PrintLast Go.Proofs.YtjbnffadfohofaaW.PrintMore
attribute [local go_sem] max2_int min2_int max_two min_two max_three min_three max_four min_four   -- for this text's walks alone
set_option linter.unusedVariables false
set_option linter.unusedSimpArgs false
def variorumlaw09_Few.f (k : Nat) (l0 : List (S49)) : Option (Bool) := (variorumlaw06_Light.f k l0).bind fun t114 => (if t114 = true then ((variorumref06_Good.f l0).bind fun t115 => (if t115 = true then ((variorumref06_In.f k l0).bind fun t116 => (if t116 ≤ 3000 then ((variorumref06_Out.f k l0).bind fun t117 => (some (decide (t117 ≤ 3000)))) else (some false))) else (some true))) else (some false))
set_option maxHeartbeats 8000000 in
set_option maxRecDepth 100000 in
theorem variorumlaw09_Few.calls (k : Nat) (A0 : Option Addr) (c0 : Nat) (l0 : List (S49)) (r : Bool) (w : World) (hr0 : Kd.C k49 w A0 l0.length l0) (hc0 : l0.length ≤ c0) (h : variorumlaw09_Few.f k l0 = some r) :
  Calls Try.prog 22 #[.slice A0 l0.length c0] w fun e w' => e = .returned (.bool r) ∧ Below w.heap.size w w' := by
 have HR0 := Aside0.mk hr0
 have HC0 := Aside0.mk hc0
 clear hr0 hc0
 have HB := Aside0.mk (Below.refl w.heap.size w)
 have H : ((variorumlaw06_Light.f k l0).bind fun t114 => (if t114 = true then ((variorumref06_Good.f l0).bind fun t115 => (if t115 = true then ((variorumref06_In.f k l0).bind fun t116 => (if t116 ≤ 3000 then ((variorumref06_Out.f k l0).bind fun t117 => (some (decide (t117 ≤ 3000)))) else (some false))) else (some true))) else (some false))) = some r := h
 clear h
 replace H := Option.bind_eq_some_iff.mp H
 obtain ⟨t114, A20, H⟩ := H
 replace H : (if t114 = true then ((variorumref06_Good.f l0).bind fun t115 => (if t115 = true then ((variorumref06_In.f k l0).bind fun t116 => (if t116 ≤ 3000 then ((variorumref06_Out.f k l0).bind fun t117 => (some (decide (t117 ≤ 3000)))) else (some false))) else (some true))) else (some false)) = some r := H
 have A2 := Aside0.mk A20
 clear A20
 by_cases c3 : t114 = true
 ·subst c3
  have H1 : ((variorumref06_Good.f l0).bind fun t115 => (if t115 = true then ((variorumref06_In.f k l0).bind fun t116 => (if t116 ≤ 3000 then ((variorumref06_Out.f k l0).bind fun t117 => (some (decide (t117 ≤ 3000)))) else (some false))) else (some true))) = some r := by rw [if_pos rfl] at H; exact H
  clear H
  have H := H1
  clear H1
  replace H := Option.bind_eq_some_iff.mp H
  obtain ⟨t115, A40, H⟩ := H
  replace H : (if t115 = true then ((variorumref06_In.f k l0).bind fun t116 => (if t116 ≤ 3000 then ((variorumref06_Out.f k l0).bind fun t117 => (some (decide (t117 ≤ 3000)))) else (some false))) else (some true)) = some r := H
  have A4 := Aside0.mk A40
  clear A40
  by_cases c5 : t115 = true
  ·subst c5
   have H1 : ((variorumref06_In.f k l0).bind fun t116 => (if t116 ≤ 3000 then ((variorumref06_Out.f k l0).bind fun t117 => (some (decide (t117 ≤ 3000)))) else (some false))) = some r := by rw [if_pos rfl] at H; exact H
   clear H
   have H := H1
   clear H1
   replace H := Option.bind_eq_some_iff.mp H
   obtain ⟨t116, A60, H⟩ := H
   replace H : (if t116 ≤ 3000 then ((variorumref06_Out.f k l0).bind fun t117 => (some (decide (t117 ≤ 3000)))) else (some false)) = some r := H
   have A6 := Aside0.mk A60
   clear A60
   by_cases c7 : t116 ≤ 3000
   ·rw [if_pos c7] at H
    have c7b0 : decide (t116 ≤ 3000) = true := decide_eq_true c7
    clear c7
    replace H := Option.bind_eq_some_iff.mp H
    obtain ⟨t117, A80, H⟩ := H
    replace H : (some (decide (t117 ≤ 3000))) = some r := H
    have A8 := Aside0.mk A80
    clear A80
    obtain rfl := Option.some.inj H
    go_enter Try.func22, Try.ntmps22
    go_wp2_with (first | ((with_reducible refine gate_callee (f := 33) rfl ?_); refine goesL_ (some 4) rfl rfl Try.func33 (by kernel_rfl) rfl #[.slice A0 l0.length c0] rfl (by (try simp only [List.map_toArray, List.map_cons, List.map_nil]); (rfl)) ?_; (with_reducible refine (variorumlaw06_Light.calls k _ _ l0 true _ ?side1 ?side2 A2.out).mono ?_); (case side1 => repeat ((exact HR0.out))); (case side2 => exact HC0.out); rintro e w9 ⟨rfl, hb⟩; refine ⟨_, rfl, ?_⟩; have n0_ := Aside0.mk (below_step (by repeat ((with_reducible (exact HB.out)))) hb); clear HB; have HB := n0_; clear n0_; (try clear hb); (try clear hb2); (try clear hk); (try clear hi)) | (go_at_call 14; (with_reducible refine (variorumref06_Good.calls _ _ l0 true _ ?side1 ?side2 A4.out).mono ?_); (case side1 => repeat ((exact (Kd.C_below HR0.out HB.out)))); (case side2 => exact HC0.out); rintro e w10 ⟨rfl, hb⟩; have n0_ := Aside0.mk (below_step (by repeat ((with_reducible (exact HB.out)))) hb); clear HB; have HB := n0_; clear n0_; (try clear hb); (try clear hb2); (try clear hk); (try clear hi)) | (go_at_call 32; (with_reducible refine (variorumref06_In.calls k _ _ l0 t116 _ ?side1 ?side2 A6.out).mono ?_); (case side1 => repeat ((exact (Kd.C_below HR0.out HB.out)))); (case side2 => exact HC0.out); rintro e w11 ⟨rfl, hb⟩; have n0_ := Aside0.mk (below_step (by repeat ((with_reducible (exact HB.out)))) hb); clear HB; have HB := n0_; clear n0_; (try clear hb); (try clear hb2); (try clear hk); (try clear hi)) | (go_at_call 34; (with_reducible refine (variorumref06_Out.calls k _ _ l0 t117 _ ?side1 ?side2 A8.out).mono ?_); (case side1 => repeat ((exact (Kd.C_below HR0.out HB.out)))); (case side2 => exact HC0.out); rintro e w12 ⟨rfl, hb⟩; have n0_ := Aside0.mk (below_step (by repeat ((with_reducible (exact HB.out)))) hb); clear HB; have HB := n0_; clear n0_; (try clear hb); (try clear hb2); (try clear hk); (try clear hi)))
    go_ret
    exact ⟨by (rfl), by repeat ((with_reducible (exact HB.out)))⟩
   ·rw [if_neg c7] at H
    have c7b0 : decide (t116 ≤ 3000) = false := decide_eq_false c7
    clear c7
    obtain rfl := Option.some.inj H
    go_enter Try.func22, Try.ntmps22
    go_wp2_with (first | ((with_reducible refine gate_callee (f := 33) rfl ?_); refine goesL_ (some 4) rfl rfl Try.func33 (by kernel_rfl) rfl #[.slice A0 l0.length c0] rfl (by (try simp only [List.map_toArray, List.map_cons, List.map_nil]); (rfl)) ?_; (with_reducible refine (variorumlaw06_Light.calls k _ _ l0 true _ ?side1 ?side2 A2.out).mono ?_); (case side1 => repeat ((exact HR0.out))); (case side2 => exact HC0.out); rintro e w13 ⟨rfl, hb⟩; refine ⟨_, rfl, ?_⟩; have n0_ := Aside0.mk (below_step (by repeat ((with_reducible (exact HB.out)))) hb); clear HB; have HB := n0_; clear n0_; (try clear hb); (try clear hb2); (try clear hk); (try clear hi)) | (go_at_call 14; (with_reducible refine (variorumref06_Good.calls _ _ l0 true _ ?side1 ?side2 A4.out).mono ?_); (case side1 => repeat ((exact (Kd.C_below HR0.out HB.out)))); (case side2 => exact HC0.out); rintro e w14 ⟨rfl, hb⟩; have n0_ := Aside0.mk (below_step (by repeat ((with_reducible (exact HB.out)))) hb); clear HB; have HB := n0_; clear n0_; (try clear hb); (try clear hb2); (try clear hk); (try clear hi)) | (go_at_call 32; (with_reducible refine (variorumref06_In.calls k _ _ l0 t116 _ ?side1 ?side2 A6.out).mono ?_); (case side1 => repeat ((exact (Kd.C_below HR0.out HB.out)))); (case side2 => exact HC0.out); rintro e w15 ⟨rfl, hb⟩; have n0_ := Aside0.mk (below_step (by repeat ((with_reducible (exact HB.out)))) hb); clear HB; have HB := n0_; clear n0_; (try clear hb); (try clear hb2); (try clear hk); (try clear hi)))
    go_ret
    exact ⟨by (rfl), by repeat ((with_reducible (exact HB.out)))⟩
  ·replace c5 := Bool.eq_false_iff.mpr c5
   subst c5
   have H1 : (some true) = some r := by rw [if_neg (show ¬ (false = true) by decide)] at H; exact H
   clear H
   have H := H1
   clear H1
   obtain rfl := Option.some.inj H
   go_enter Try.func22, Try.ntmps22
   go_wp2_with (first | ((with_reducible refine gate_callee (f := 33) rfl ?_); refine goesL_ (some 4) rfl rfl Try.func33 (by kernel_rfl) rfl #[.slice A0 l0.length c0] rfl (by (try simp only [List.map_toArray, List.map_cons, List.map_nil]); (rfl)) ?_; (with_reducible refine (variorumlaw06_Light.calls k _ _ l0 true _ ?side1 ?side2 A2.out).mono ?_); (case side1 => repeat ((exact HR0.out))); (case side2 => exact HC0.out); rintro e w16 ⟨rfl, hb⟩; refine ⟨_, rfl, ?_⟩; have n0_ := Aside0.mk (below_step (by repeat ((with_reducible (exact HB.out)))) hb); clear HB; have HB := n0_; clear n0_; (try clear hb); (try clear hb2); (try clear hk); (try clear hi)) | (go_at_call 14; (with_reducible refine (variorumref06_Good.calls _ _ l0 false _ ?side1 ?side2 A4.out).mono ?_); (case side1 => repeat ((exact (Kd.C_below HR0.out HB.out)))); (case side2 => exact HC0.out); rintro e w17 ⟨rfl, hb⟩; have n0_ := Aside0.mk (below_step (by repeat ((with_reducible (exact HB.out)))) hb); clear HB; have HB := n0_; clear n0_; (try clear hb); (try clear hb2); (try clear hk); (try clear hi)))
   go_ret
   exact ⟨by (rfl), by repeat ((with_reducible (exact HB.out)))⟩
 ·replace c3 := Bool.eq_false_iff.mpr c3
  subst c3
  have H1 : (some false) = some r := by rw [if_neg (show ¬ (false = true) by decide)] at H; exact H
  clear H
  have H := H1
  clear H1
  obtain rfl := Option.some.inj H
  go_enter Try.func22, Try.ntmps22
  go_wp2_with (first | ((with_reducible refine gate_callee (f := 33) rfl ?_); refine goesL_ (some 4) rfl rfl Try.func33 (by kernel_rfl) rfl #[.slice A0 l0.length c0] rfl (by (try simp only [List.map_toArray, List.map_cons, List.map_nil]); (rfl)) ?_; (with_reducible refine (variorumlaw06_Light.calls k _ _ l0 false _ ?side1 ?side2 A2.out).mono ?_); (case side1 => repeat ((exact HR0.out))); (case side2 => exact HC0.out); rintro e w18 ⟨rfl, hb⟩; refine ⟨_, rfl, ?_⟩; have n0_ := Aside0.mk (below_step (by repeat ((with_reducible (exact HB.out)))) hb); clear HB; have HB := n0_; clear n0_; (try clear hb); (try clear hb2); (try clear hk); (try clear hi)))
  go_ret
  exact ⟨by (rfl), by repeat ((with_reducible (exact HB.out)))⟩
end Go.Proofs.Ytjbnffadfohofaa.P
end
-- MERGED YtjbnffadfohofaaPplaceMove
section
namespace Go.Proofs.Ytjbnffadfohofaa.P
open Go.RowKit Go.Proofs.YtjbnffadfohofaaW.PrintWords Go.Proofs.YtjbnffadfohofaaW.PrintLast Go.Proofs.YtjbnffadfohofaaW.PrintMore
attribute [local go_sem] max2_int min2_int max_two min_two max_three min_three max_four min_four   -- for this text's walks alone
set_option linter.unusedVariables false
set_option linter.unusedSimpArgs false
def place_Move.f (l0 : List (S49)) (a1 : Int) (a2 : Bool) : Option (Int × Bool) := if l0.length ≤ 140737488351232 then some (PlaceM.moveL l0 a1 a2) else none
end Go.Proofs.Ytjbnffadfohofaa.P
end
-- MERGED YtjbnffadfohofaaPplaceSpan
section
namespace Go.Proofs.Ytjbnffadfohofaa.P
open Go.RowKit Go.Proofs.YtjbnffadfohofaaW.PrintWords Go.Proofs.YtjbnffadfohofaaW.PrintLast Go.Proofs.YtjbnffadfohofaaW.PrintMore
attribute [local go_sem] max2_int min2_int max_two min_two max_three min_three max_four min_four   -- for this text's walks alone
set_option linter.unusedVariables false
set_option linter.unusedSimpArgs false
def place_Span.f (l0 : List (S49)) (a1_0 : Int) (a1_1 : Int) : Option (Int × Int × Bool) := if l0.length ≤ 140737488351232 then some ((PlaceS.spanL l0 a1_0 a1_1).1.1, (PlaceS.spanL l0 a1_0 a1_1).1.2, (PlaceS.spanL l0 a1_0 a1_1).2) else none
theorem place_Span.calls (A0 : Option Addr) (c0 : Nat) (l0 : List (S49)) (a1_0 : Int) (a1_1 : Int) (r1 : Int) (r2 : Int) (r3 : Bool) (w : World) (hr0 : Kd.C k49 w A0 l0.length l0) (hc0 : l0.length ≤ c0) (h : place_Span.f l0 a1_0 a1_1 = some (r1, r2, r3)) :
  Calls Try.prog 35 #[.slice A0 l0.length c0, .agg #[.int .i64 a1_0, .int .i64 a1_1]] w fun e w' => e = .returned (.tuple #[.agg #[.int .i64 r1, .int .i64 r2], .bool r3]) ∧ Below w.heap.size w w' := by
 unfold place_Span.f at h
 by_cases hl : l0.length ≤ 140737488351232
 ·rw [if_pos hl] at h
  have h2 := Option.some.inj h
  injection h2 with e1 e2
  injection e2 with e2 e3
  have := PlaceS.span_c A0 c0 l0 a1_0 a1_1 w hr0 hc0 hl
  rw [e1, e2, e3] at this
  exact this
 ·rw [if_neg hl] at h; cases h
end Go.Proofs.Ytjbnffadfohofaa.P
end
-- MERGED YtjbnffadfohofaaPlaceF
section
namespace Go.Proofs.Ytjbnffadfohofaa.PlaceF
open Go.RowKit Go.Proofs.Ytjbnffadfohofaa.P Go.Proofs.YtjbnffadfohofaaW.PrintWords Go.Proofs.YtjbnffadfohofaaW.PrintLast Go.Proofs.YtjbnffadfohofaaW.PrintMore Go.Proofs.Ytjbnffadfohofaa.EditL Go.Proofs.Ytjbnffadfohofaa.EditK Go.Proofs.Ytjbnffadfohofaa.EditF Go.Proofs.Ytjbnffadfohofaa.EditG Go.Proofs.Ytjbnffadfohofaa.EditH1 Go.Proofs.Ytjbnffadfohofaa.PlaceI Go.Proofs.Ytjbnffadfohofaa.PlaceM Go.Proofs.Ytjbnffadfohofaa.PlaceC Go.Proofs.Ytjbnffadfohofaa.PlaceS Go.Proofs.Ytjbnffadfohofaa.PlaceL
set_option linter.unusedSimpArgs false
set_option linter.unusedVariables false
theorem few_f (l : List Rn) (k : Nat) (hk : 200 < k) : ∃ b, variorumlaw09_Few.f k l = some b ∧ (b = true → l.length ≤ 100 ∧ (good l = true → inL l ≤ 3000 ∧ outL l ≤ 3000)) := by
 unfold variorumlaw09_Few.f
 obtain ⟨b, h1, h2⟩ := LightF.light_f l k (by omega)
 rw [h1, Option.bind_some]
 cases b with
 | false => exact ⟨false, rfl, fun h => by cases h⟩
 | true =>
  obtain ⟨hl, _⟩ := h2 rfl
  rw [if_pos rfl, rgood_f (by omega), Option.bind_some]
  cases hg : good l with
  | false => exact ⟨true, rfl, fun _ => ⟨hl, fun h => by cases h⟩⟩
  | true =>
   rw [if_pos rfl, rin_f (by omega) _ (by omega), Option.bind_some, hg, if_pos rfl]
   by_cases h : inL l ≤ 3000
   ·rw [if_pos h, rout_f (by omega) _ (by omega), Option.bind_some, hg, if_pos rfl]
    exact ⟨_, rfl, fun e => ⟨hl, fun _ => ⟨h, of_decide_eq_true e⟩⟩⟩
   ·rw [if_neg h]; exact ⟨false, rfl, fun h => by cases h⟩
theorem pspan_f {l : List Rn} (hl : l.length ≤ 140737488351232) (a b : Int) : place_Span.f l a b = some ((spanL l a b).1.1, (spanL l a b).1.2, (spanL l a b).2) := by unfold place_Span.f; rw [if_pos hl]
end Go.Proofs.Ytjbnffadfohofaa.PlaceF
end
-- MERGED YtjbnffadfohofaaPvariorumref09Adds
section
namespace Go.Proofs.Ytjbnffadfohofaa.P
open Go.RowKit Go.Proofs.YtjbnffadfohofaaW.PrintWords Go.Proofs.YtjbnffadfohofaaW.PrintLast Go.Proofs.YtjbnffadfohofaaW.PrintMore
attribute [local go_sem] max2_int min2_int max_two min_two max_three min_three max_four min_four   -- for this text's walks alone
set_option linter.unusedVariables false
set_option linter.unusedSimpArgs false
mutual
def variorumref09_Adds.l0 : Nat → List (S49) → List ByteArray → Int → Option (List ByteArray)
 | 0, _, _, _ => none
 | k + 1, x0, x3, x4 => if x4 < (x0.length : Int) then (if 0 ≤ (wrap64 ((x3.length : Int) - 1)) then (if (wrap64 ((x3.length : Int) - 1)) < (x3.length : Int) then (if 0 ≤ x4 then (if (rdOf ByteArray.empty x3 (wrap64 ((x3.length : Int) - 1))).size + ((rd_T49 x0 x4).f1).size ≤ 9223372036854775807 then (variorumref09_Adds.l1 k x0 (x3.set ((wrap64 ((x3.length : Int) - 1)) : Int).toNat ((rdOf ByteArray.empty x3 (wrap64 ((x3.length : Int) - 1))) ++ ((rd_T49 x0 x4).f1))) x4 0) else (none)) else (none)) else (none)) else (none)) else (some x3)
def variorumref09_Adds.l1 : Nat → List (S49) → List ByteArray → Int → Int → Option (List ByteArray)
 | 0, _, _, _, _ => none
 | k + 1, x0, x3, x4, x6 => if 0 ≤ x4 then (if x4 < (x0.length : Int) then (if x6 < (wrap64 (((rd_T49 x0 x4).f0) + ((rd_T49 x0 x4).f2))) then (if x3.length < 8796093022208 then (variorumref09_Adds.l1 k x0 (x3 ++ [(⟨#[]⟩ : ByteArray)]) x4 (wrap64 (x6 + 1))) else (none)) else (variorumref09_Adds.l0 k x0 x3 (wrap64 (x4 + 1)))) else (none)) else (none)
end
def variorumref09_Adds.f (k : Nat) (l0 : List (S49)) : Option (List ByteArray) := variorumref09_Adds.l0 k l0 (([(⟨#[]⟩ : ByteArray)] : List ByteArray)) 0
def variorumref09_Adds.T6 : Bool × List (List Nat × List Nat) := (true, [([], []), ([], []), ([], []), ([], []), ([2, 3], [2, 3]), ([4], [4]), ([], []), ([], []), ([6, 7], [6, 7]), ([8], [8]), ([9], [9]), ([5, 10], [5, 10]), ([0, 1, 0, 1, 2, 3, 4, 5, 6, 7, 8, 9, 10, 11], [0, 1]), ([12, 11, 0, 1, 2, 3, 4, 5, 6, 7, 8, 9, 10, 11], [11, 12])])
def variorumref09_Adds.B6 : List Nat := [0, 0, 0, 0, 12, 28, 0, 0, 192, 448, 960, 2044, 4095, 8191]
theorem variorumref09_Adds.tab6 : rtab .any (opsOf Try.f54 6) = variorumref09_Adds.T6 := by kernel_rfl
theorem variorumref09_Adds.bits6 : waitsOk variorumref09_Adds.T6.2 variorumref09_Adds.B6 = true := by kernel_rfl
def variorumref09_Adds.T8 : Bool × List (List Nat × List Nat) := (true, [([], []), ([], []), ([], []), ([1, 2], [1, 2]), ([3], [3]), ([4], [4]), ([], []), ([], []), ([6, 7], [6, 7]), ([8], [8]), ([9], [9]), ([5, 10], [5, 10]), ([0, 11], [0, 11])])
def variorumref09_Adds.B8 : List Nat := [0, 0, 0, 6, 14, 30, 0, 0, 192, 448, 960, 2046, 4095]
theorem variorumref09_Adds.tab8 : rtab .any (opsOf Try.f54 8) = variorumref09_Adds.T8 := by kernel_rfl
theorem variorumref09_Adds.bits8 : waitsOk variorumref09_Adds.T8.2 variorumref09_Adds.B8 = true := by kernel_rfl
set_option maxHeartbeats 8000000 in
set_option maxRecDepth 100000 in
theorem variorumref09_Adds.calls (k : Nat) (A0 : Option Addr) (c0 : Nat) (l0 : List (S49)) (r : List ByteArray) (w : World) (hr0 : Kd.C k49 w A0 l0.length l0) (hc0 : l0.length ≤ c0) (h : variorumref09_Adds.f k l0 = some r) :
  Calls Try.prog 54 #[.slice A0 l0.length c0] w fun e w' => ∃ v0_ : Value, e = .returned (v0_) ∧ Kd.R Kd.string 9 w' w.heap.size (fun _ => True) v0_ r ∧ Below w.heap.size w w' := by
 have HR0 := Aside0.mk hr0
 have HC0 := Aside0.mk hc0
 clear hr0 hc0
 have HB := Aside0.mk (Below.refl w.heap.size w)
 have H : (variorumref09_Adds.l0 k l0 (([(⟨#[]⟩ : ByteArray)] : List ByteArray)) 0) = some r := h
 clear h
 obtain ⟨y224, hy224⟩ : ∃ y_ : List ByteArray, y_ = (([(⟨#[]⟩ : ByteArray)] : List ByteArray)) := ⟨_, rfl⟩
 replace H : (variorumref09_Adds.l0 k l0 y224 0) = some r := by (rw [hy224]; with_reducible exact H)
 have Ny224 := Aside0.mk hy224
 clear hy224
 have H' := Aside0.mk H
 clear H
 go_enter Try.func54, Try.ntmps54
 go_wp2_with (first | ((with_reducible refine gate_dst (N := 7) rfl ?_); refine Kd.R_lit Kd.string _ 9 ?hg (N := 7) ?hd (xs := ([(⟨#[]⟩ : ByteArray)] : List ByteArray)) (inner := [.string (⟨#[]⟩ : ByteArray)]) (ok := fun _ => True) (okp := fun _ => True) ?hr ?hp (fun _ hk => hk) trivial (Below.refl _ _) (Nat.le_refl _) (by simp) ?_; (case hd => rfl); (case hg => rfl); (case hr => (go_simp; done)); (case hp => exact (Reps.one (show Kd.M Kd.string _ _ _ (⟨#[]⟩ : ByteArray) [.string (⟨#[]⟩ : ByteArray)] from rfl) (Reps.none _ _))); intro v225 w2 ho3 hb hg_ hnew_; clear hg_ hnew_; ((rw [← Ny224.out] at ho3)); have n0_ := Aside0.mk (Kd.R_lower ho3 (below_size (by repeat ((with_reducible (exact HB.out)))))); have n1_ := Aside0.mk (below_step (by repeat ((with_reducible (exact HB.out)))) hb); clear HB; have HO226 := n0_; have HB := n1_; clear n0_ n1_; clear hb ho3))
 go_loopg [3, 4] k (fun kq v3 v4 w' => ∃ (x3_1 : List ByteArray) (x4_1 : Int), v4 = .int .i64 x4_1 ∧ Aside0 (variorumref09_Adds.l0 kq l0 x3_1 x4_1 = some r) ∧ Aside0 (kq ≤ k) ∧ Aside0 (Kd.R Kd.string 9 w' w.heap.size (fun _ => True) v3 x3_1) ∧ Aside0 (Below w.heap.size w w'))
 case atStart => exact ⟨(y224), (0), (by (rfl)), H', ⟨Nat.le_refl _⟩, ⟨by (with_reducible repeat ((apply Kd.R_drew))); exact HO226.out⟩, ⟨by repeat ((with_reducible (exact HB.out)))⟩⟩
 case round =>
  clear H'
  try clear p2
  obtain ⟨x3_1, x4_1, rfl, HA, HK1, HO_3, HB⟩ := hrel
  cases gk with
  | zero => exact absurd HA.out (by simp [variorumref09_Adds.l0])
  | succ k1 =>
   have H := HA.out
   clear HA
   simp only [variorumref09_Adds.l0] at H
   by_cases c4 : x4_1 < (l0.length : Int)
   ·rw [if_pos c4] at H
    have c4b0 : decide (x4_1 < (l0.length : Int)) = true := decide_eq_true c4
    clear c4
    obtain ⟨ji5, hji5⟩ : ∃ j_ : Int, (wrap64 ((x3_1.length : Int) - 1)) = j_ := ⟨_, rfl⟩
    replace H : (if 0 ≤ (ji5) then (if (ji5) < (x3_1.length : Int) then (if 0 ≤ x4_1 then (if (rdOf ByteArray.empty x3_1 (ji5)).size + ((rd_T49 l0 x4_1).f1).size ≤ 9223372036854775807 then (variorumref09_Adds.l1 k1 l0 (x3_1.set ((ji5) : Int).toNat ((rdOf ByteArray.empty x3_1 (ji5)) ++ ((rd_T49 l0 x4_1).f1))) x4_1 0) else (none)) else (none)) else (none)) else (none)) = some r := by (rw [hji5] at H; exact H)
    have hji5w : (IntKind.i64.wrap ((x3_1.length : Int) - 1)) = ji5 := (i64_w _).trans hji5
    by_cases c6 : 0 ≤ (ji5)
    ·rw [if_pos c6] at H
     have c6b0 : decide (0 ≤ (ji5)) = true := decide_eq_true c6
     clear c6
     by_cases c7 : (ji5) < (x3_1.length : Int)
     ·rw [if_pos c7] at H
      have c7b0 : decide ((ji5) < (x3_1.length : Int)) = true := decide_eq_true c7
      clear c7
      by_cases c8 : 0 ≤ x4_1
      ·rw [if_pos c8] at H
       have c8b0 : decide (0 ≤ x4_1) = true := decide_eq_true c8
       clear c8
       by_cases c9 : (rdOf ByteArray.empty x3_1 (ji5)).size + ((rd_T49 l0 x4_1).f1).size ≤ 9223372036854775807
       ·rw [if_pos c9] at H
        have c9b0 := eq_true c9
        have c9b1 : decide ((rdOf ByteArray.empty x3_1 (ji5)).size + ((rd_T49 l0 x4_1).f1).size ≤ 9223372036854775807) = true := decide_eq_true c9
        try have c9b2 : (9223372036854775807 < (rdOf ByteArray.empty x3_1 (ji5)).size + ((rd_T49 l0 x4_1).f1).size) = False := eq_false (Nat.not_lt.2 c9)
        obtain ⟨y229, hy229⟩ : ∃ y_ : List ByteArray, y_ = (x3_1.set ((ji5) : Int).toNat ((rdOf ByteArray.empty x3_1 (ji5)) ++ ((rd_T49 l0 x4_1).f1))) := ⟨_, rfl⟩
        replace H : (variorumref09_Adds.l1 k1 l0 y229 x4_1 0) = some r := by (rw [hy229]; with_reducible exact H)
        have Ny229 := Aside0.mk hy229
        clear hy229
        have H' := Aside0.mk H
        clear H
        obtain ⟨Ao11, co11, eo11⟩ := Kd.R_slice HO_3.out
        subst eo11
        try go_wp2
        have n0_ := Aside0.mk (Kd.R_drew HO_3.out)
        have n1_ := Aside0.mk (below_drew1 HB.out)
        clear HO_3
        clear HB
        have HO_3 := n0_
        have HB := n1_
        clear n0_ n1_
        have p227 : 0 ≤ ((ji5) : Int) := of_decide_eq_true (by (with_reducible assumption))
        have q227 : (ji5) < (x3_1.length : Int) := of_decide_eq_true (by (with_reducible assumption))
        obtain ⟨ad227, e227, hx227_0⟩ := Kd.at_string (Kd.R_reads' HO_3.out).2.2 (ji5) p227 q227
        cases e227
        replace p227 := eq_true p227
        replace q227 := eq_true q227
        have p228 : 0 ≤ (x4_1 : Int) := of_decide_eq_true (by (with_reducible assumption))
        have q228 : x4_1 < (l0.length : Int) := of_decide_eq_true (by (with_reducible assumption))
        obtain ⟨ad228, e228, hx228_0, hx228_1, hx228_2⟩ := at_T49 HR0.out x4_1 p228 q228
        have hw228_2 := hx228_2
        have hw228_1 := hx228_1
        have hw228_0 := hx228_0
        cases e228
        replace hx228_0 := (HB.out.cell (World.block_lt_of_cell? w _ hx228_0)).trans hx228_0
        replace hx228_1 := (HB.out.cell (World.block_lt_of_cell? w _ hx228_1)).trans hx228_1
        replace hx228_2 := (HB.out.cell (World.block_lt_of_cell? w _ hx228_2)).trans hx228_2
        replace p228 := eq_true p228
        replace q228 := eq_true q228
        have p10 : 0 ≤ ((ji5) : Int) := of_decide_eq_true (by (with_reducible assumption))
        have q10 : ((ji5) : Int) < ((x3_1.length : Int) : Int) := of_decide_eq_true (by (with_reducible assumption))
        obtain ⟨go10, co10, eo10, gb10, gl10, cl10, HG10⟩ := Kd.R_form HO_3.out (by omega)
        ((cases eo10))
        have GB10 := Aside0.mk gb10
        have GG10 := Aside0.mk HG10
        clear gb10 gl10 HG10
        ((simp only [add_plain] at hx227_0))
        obtain ⟨hx10_0, hf10_0⟩ := Kd.R_celln (⟨#[]⟩ : ByteArray) HO_3.out ((ji5) : Int) p10 q10
        replace p10 := eq_true p10
        replace q10 := eq_true q10
        have HP13 := Kd.R_putn HO_3.out ((ji5) : Int) ((rdOf ByteArray.empty x3_1 (ji5)) ++ ((rd_T49 l0 x4_1).f1))
        rw [← Ny229.out] at HP13
        have HQ13 := Aside0.mk HP13
        clear HP13
        refine start_ (n := 14) (S := fun w' => w'.cell? ⟨go10, ((ji5)).toNat, none⟩ = some (.string (rdOf ByteArray.empty x3_1 (ji5))) ∧ w'.cell? (ad228.add ((x4_1).toNat * 3)) = some (.int .i64 ((rd_T49 l0 x4_1).f0)) ∧ w'.cell? ⟨(ad228.add ((x4_1).toNat * 3)).block, (ad228.add ((x4_1).toNat * 3)).off + 1, none⟩ = some (.string ((rd_T49 l0 x4_1).f1)) ∧ w'.cell? ⟨(ad228.add ((x4_1).toNat * 3)).block, (ad228.add ((x4_1).toNat * 3)).off + 2, none⟩ = some (.int .i64 ((rd_T49 l0 x4_1).f2))) (ds := [13]) #[false, false, false, false, false, false, false, false, false, false, false, false, false, false] (by kernel_rfl) rfl rfl ⟨hx227_0, ((HB.out.cell (World.block_lt_of_cell? w _ hw228_0)).trans hw228_0), ((HB.out.cell (World.block_lt_of_cell? w _ hw228_1)).trans hw228_1), ((HB.out.cell (World.block_lt_of_cell? w _ hw228_2)).trans hw228_2)⟩ (fun hHeld => ?_); refine with_tabW variorumref09_Adds.tab6 variorumref09_Adds.bits6 (fun HT_ HW_ => ?_)
        generalize wr.drew = w12 at HO_3 HB GG10 HQ13 hf10_0 hx10_0 hx227_0 hx228_0 hx228_1 hx228_2 hHeld ⊢
        refine pure_ (i := 0) (N := some 17) (v := ?_) (a' := ?_) #[true, false, false, false, false, false, false, false, false, false, false, false, false, false] rfl rfl (any_of HT_.out (by kernel_rfl)) (fun _ _ _ h => h) (Or.inl ⟨by rfl, ?_⟩) ?_ ?_
        rotate_left
        ·intro w'
         go_simp
         with_reducible rfl
        rotate_left
        ·simp only [Act.put, List.setIfInBounds_toArray, List.set_cons_zero, List.set_cons_succ, i64_w, i32_w]
         rfl
        refine pure_ (i := 1) (N := some 18) (v := ?_) (a' := ?_) #[true, true, false, false, false, false, false, false, false, false, false, false, false, false] rfl rfl (any_of HT_.out (by kernel_rfl)) (fun _ _ _ h => h) (Or.inl ⟨by rfl, ?_⟩) ?_ ?_
        rotate_left
        ·intro w'
         go_simp
         with_reducible rfl
        rotate_left
        ·simp only [Act.put, List.setIfInBounds_toArray, List.set_cons_zero, List.set_cons_succ, i64_w, i32_w]
         rfl
        refine pure_ (i := 2) (N := some 19) (v := ?_) (a' := ?_) #[true, true, true, false, false, false, false, false, false, false, false, false, false, false] rfl rfl (any_of HT_.out (by kernel_rfl)) (fun _ _ _ h => h) (Or.inl ⟨by rfl, ?_⟩) ?_ ?_
        rotate_left
        ·intro w'
         go_simp
         with_reducible rfl
        rotate_left
        ·simp only [Act.put, List.setIfInBounds_toArray, List.set_cons_zero, List.set_cons_succ, i64_w, i32_w]
         rfl
        refine pure_ (i := 3) (N := some 20) (v := ?_) (a' := ?_) #[true, true, true, true, false, false, false, false, false, false, false, false, false, false] rfl rfl (any_of HT_.out (by kernel_rfl)) (fun _ _ _ h => h) (Or.inl ⟨by rfl, ?_⟩) ?_ ?_
        rotate_left
        ·intro w'
         go_simp
         with_reducible rfl
        rotate_left
        ·simp only [Act.put, List.setIfInBounds_toArray, List.set_cons_zero, List.set_cons_succ, i64_w, i32_w]
         rfl
        refine pure_ (i := 4) (N := some 21) (v := ?_) (a' := ?_) #[true, true, true, true, true, false, false, false, false, false, false, false, false, false] rfl rfl (any_of HT_.out (by kernel_rfl)) (fun _ _ _ h => h) (Or.inl ⟨by rfl, ?_⟩) ?_ ?_
        rotate_left
        ·intro w'
         go_simp
         with_reducible rfl
        rotate_left
        ·simp only [Act.put, List.setIfInBounds_toArray, List.set_cons_zero, List.set_cons_succ, i64_w, i32_w]
         rfl
        refine pure_ (i := 6) (N := some 23) (v := ?_) (a' := ?_) #[true, true, true, true, true, false, true, false, false, false, false, false, false, false] rfl rfl (any_of HT_.out (by kernel_rfl)) (fun _ _ _ h => h) (Or.inl ⟨by rfl, ?_⟩) ?_ ?_
        rotate_left
        ·intro w'
         go_simp
         with_reducible rfl
        rotate_left
        ·simp only [Act.put, List.setIfInBounds_toArray, List.set_cons_zero, List.set_cons_succ, i64_w, i32_w]
         rfl
        refine pure_ (i := 7) (N := some 24) (v := ?_) (a' := ?_) #[true, true, true, true, true, false, true, true, false, false, false, false, false, false] rfl rfl (any_of HT_.out (by kernel_rfl)) (fun _ _ _ h => h) (Or.inl ⟨by rfl, ?_⟩) ?_ ?_
        rotate_left
        ·intro w'
         go_simp
         with_reducible rfl
        rotate_left
        ·simp only [Act.put, List.setIfInBounds_toArray, List.set_cons_zero, List.set_cons_succ, i64_w, i32_w]
         rfl
        refine pure_ (i := 8) (N := some 25) (v := ?_) (a' := ?_) #[true, true, true, true, true, false, true, true, true, false, false, false, false, false] rfl rfl (any_of HT_.out (by kernel_rfl)) (fun _ _ _ h => h) (Or.inl ⟨by rfl, ?_⟩) ?_ ?_
        rotate_left
        ·intro w'
         go_simp
         with_reducible rfl
        rotate_left
        ·simp only [Act.put, List.setIfInBounds_toArray, List.set_cons_zero, List.set_cons_succ, i64_w, i32_w]
         rfl
        refine pure_ (i := 9) (N := some 26) (v := ?_) (a' := ?_) #[true, true, true, true, true, false, true, true, true, true, false, false, false, false] rfl rfl (any_of HT_.out (by kernel_rfl)) (fun _ _ _ h => h) (Or.inl ⟨by rfl, ?_⟩) ?_ ?_
        rotate_left
        ·intro w'
         go_simp
         with_reducible rfl
        rotate_left
        ·simp only [Act.put, List.setIfInBounds_toArray, List.set_cons_zero, List.set_cons_succ, i64_w, i32_w]
         rfl
        refine take_ (i := 5) (N := some 22) (v := ?_) (a' := ?_) #[true, true, true, true, true, true, true, true, true, true, false, false, false, false] rfl rfl (take_ofW HT_.out HW_.out (by kernel_rfl)) (fun _ _ _ h => h) (Or.inl ⟨by rfl, ?_⟩) hHeld ?_ ?_
        rotate_left
        ·rintro w' ⟨s0, s1, s2, s3⟩
         go_simp
         with_reducible rfl
        rotate_left
        ·simp only [Act.put, List.setIfInBounds_toArray, List.set_cons_zero, List.set_cons_succ, i64_w, i32_w]
         rfl
        refine take_ (i := 10) (N := some 27) (v := ?_) (a' := ?_) #[true, true, true, true, true, true, true, true, true, true, true, false, false, false] rfl rfl (take_ofW HT_.out HW_.out (by kernel_rfl)) (fun _ _ _ h => h) (Or.inl ⟨by rfl, ?_⟩) hHeld ?_ ?_
        rotate_left
        ·rintro w' ⟨s0, s1, s2, s3⟩
         go_simp
         with_reducible rfl
        rotate_left
        ·simp only [Act.put, List.setIfInBounds_toArray, List.set_cons_zero, List.set_cons_succ, i64_w, i32_w]
         rfl
        refine pure_ (i := 11) (N := some 28) (v := ?_) (a' := ?_) #[true, true, true, true, true, true, true, true, true, true, true, true, false, false] rfl rfl (any_of HT_.out (by kernel_rfl)) (fun _ _ _ h => h) (Or.inl ⟨by rfl, ?_⟩) ?_ ?_
        rotate_left
        ·intro w'
         go_simp
         with_reducible rfl
        rotate_left
        ·simp only [Act.put, List.setIfInBounds_toArray, List.set_cons_zero, List.set_cons_succ, i64_w, i32_w]
         rfl
        refine pure_ (i := 12) (N := some 29) (v := ?_) (a' := ?_) #[true, true, true, true, true, true, true, true, true, true, true, true, true, false] rfl rfl (any_of HT_.out (by kernel_rfl)) (fun _ _ _ h => h) (Or.inl ⟨by rfl, ?_⟩) ?_ ?_
        rotate_left
        ·intro w'
         go_simp
         with_reducible rfl
        rotate_left
        ·simp only [Act.put, List.setIfInBounds_toArray, List.set_cons_zero, List.set_cons_succ, i64_w, i32_w]
         rfl
        refine last_ (i := 13) (N := none) #[true, true, true, true, true, true, true, true, true, true, true, true, true, true] rfl rfl (one_of HT_.out (by kernel_rfl)) (by decide) (fun K hK => ?_)
        refine skip_ (w1 := ?_) (by rfl) rfl ?_ ?_
        rotate_left
        ·go_simp
         rfl
        refine hK.out _ _ ?_
        clear hK K
        refine done_ (done_of HT_.out (by kernel_rfl)) ?_
        try go_wp2
        go_loopg [3, 6] k1 (fun kq v3 v6 w' => ∃ (x3_2 : List ByteArray) (x6_2 : Int), v6 = .int .i64 x6_2 ∧ Aside0 (variorumref09_Adds.l1 kq l0 x3_2 x4_1 x6_2 = some r) ∧ Aside0 (kq ≤ k1) ∧ Aside0 (Kd.R Kd.string 9 w' w.heap.size (fun _ => True) v3 x3_2) ∧ Aside0 (Below w.heap.size w w'))
        case atStart => exact ⟨(y229), (0), (by (rfl)), H', ⟨Nat.le_refl _⟩, ⟨by (with_reducible repeat ((apply Kd.R_drew))); exact HQ13.out⟩, ⟨by repeat ((with_reducible first | exact HB.out | refine below_set ?_ GB10.out))⟩⟩
        case round =>
         clear H'
         try clear p1
         try clear q1
         try clear hx1
         try clear hf1
         try clear p2
         try clear q2
         try clear hx2
         try clear c4
         try clear c4b0
         try clear c5
         try clear c6
         try clear c6b0
         try clear p6
         try clear c7
         try clear c7b0
         try clear c8
         try clear c8b0
         try clear c9
         try clear c9b0
         try clear c9b1
         try clear c9b2
         try clear p10
         try clear q10
         try clear hx10
         try clear hf10
         try clear hx10_0
         try clear hx227_0
         try clear hx228_0
         try clear hx228_1
         try clear hx228_2
         try clear p10
         try clear p2
         try clear p227
         try clear p228
         try clear q10
         try clear q227
         try clear q228
         obtain ⟨x3_2, x6_2, rfl, HA, HK2, HO_3, HB⟩ := hrel
         cases gk with
         | zero => exact absurd HA.out (by simp [variorumref09_Adds.l1])
         | succ k2 =>
          have H := HA.out
          clear HA
          simp only [variorumref09_Adds.l1] at H
          by_cases c14 : 0 ≤ x4_1
          ·rw [if_pos c14] at H
           have c14b0 : decide (0 ≤ x4_1) = true := decide_eq_true c14
           clear c14
           by_cases c15 : x4_1 < (l0.length : Int)
           ·rw [if_pos c15] at H
            have c15b0 : decide (x4_1 < (l0.length : Int)) = true := decide_eq_true c15
            clear c15
            by_cases c16 : x6_2 < (wrap64 (((rd_T49 l0 x4_1).f0) + ((rd_T49 l0 x4_1).f2)))
            ·rw [if_pos c16] at H
             have c16b0 : decide (x6_2 < (wrap64 (((rd_T49 l0 x4_1).f0) + ((rd_T49 l0 x4_1).f2)))) = true := decide_eq_true c16
             clear c16
             by_cases c17 : x3_2.length < 8796093022208
             ·rw [if_pos c17] at H
              have LMc17 := Aside0.mk c17
              clear c17
              obtain ⟨y232, hy232⟩ : ∃ y_ : List ByteArray, y_ = (x3_2 ++ [(⟨#[]⟩ : ByteArray)]) := ⟨_, rfl⟩
              replace H : (variorumref09_Adds.l1 k2 l0 y232 x4_1 (wrap64 (x6_2 + 1))) = some r := by (rw [hy232]; with_reducible exact H)
              have Ny232 := Aside0.mk hy232
              clear hy232
              have H' := Aside0.mk H
              clear H
              try go_wp2
              have n0_ := Aside0.mk (Kd.R_drew HO_3.out)
              have n1_ := Aside0.mk (below_drew1 HB.out)
              clear HO_3
              clear HB
              have HO_3 := n0_
              have HB := n1_
              clear n0_ n1_
              have p230 : 0 ≤ (x4_1 : Int) := of_decide_eq_true (by (with_reducible assumption))
              have q230 : x4_1 < (l0.length : Int) := of_decide_eq_true (by (with_reducible assumption))
              obtain ⟨ad230, e230, hx230_0, hx230_1, hx230_2⟩ := at_T49 HR0.out x4_1 p230 q230
              have hw230_2 := hx230_2
              have hw230_1 := hx230_1
              have hw230_0 := hx230_0
              obtain rfl : ad228 = ad230 := (by injection e230)
              replace hx230_0 := (HB.out.cell (World.block_lt_of_cell? w _ hx230_0)).trans hx230_0
              replace hx230_1 := (HB.out.cell (World.block_lt_of_cell? w _ hx230_1)).trans hx230_1
              replace hx230_2 := (HB.out.cell (World.block_lt_of_cell? w _ hx230_2)).trans hx230_2
              replace p230 := eq_true p230
              replace q230 := eq_true q230
              have p231 : 0 ≤ (x4_1 : Int) := of_decide_eq_true (by (with_reducible assumption))
              have q231 : x4_1 < (l0.length : Int) := of_decide_eq_true (by (with_reducible assumption))
              obtain ⟨ad231, e231, hx231_0, hx231_1, hx231_2⟩ := at_T49 HR0.out x4_1 p231 q231
              have hw231_2 := hx231_2
              have hw231_1 := hx231_1
              have hw231_0 := hx231_0
              obtain rfl : ad228 = ad231 := (by injection e231)
              replace hx231_0 := (HB.out.cell (World.block_lt_of_cell? w _ hx231_0)).trans hx231_0
              replace hx231_1 := (HB.out.cell (World.block_lt_of_cell? w _ hx231_1)).trans hx231_1
              replace hx231_2 := (HB.out.cell (World.block_lt_of_cell? w _ hx231_2)).trans hx231_2
              replace p231 := eq_true p231
              replace q231 := eq_true q231
              refine start_ (n := 13) (S := fun w' => w'.cell? (ad228.add ((x4_1).toNat * 3)) = some (.int .i64 ((rd_T49 l0 x4_1).f0)) ∧ w'.cell? ⟨(ad228.add ((x4_1).toNat * 3)).block, (ad228.add ((x4_1).toNat * 3)).off + 1, none⟩ = some (.string ((rd_T49 l0 x4_1).f1)) ∧ w'.cell? ⟨(ad228.add ((x4_1).toNat * 3)).block, (ad228.add ((x4_1).toNat * 3)).off + 2, none⟩ = some (.int .i64 ((rd_T49 l0 x4_1).f2)) ∧ w'.cell? (ad228.add ((x4_1).toNat * 3)) = some (.int .i64 ((rd_T49 l0 x4_1).f0)) ∧ w'.cell? ⟨(ad228.add ((x4_1).toNat * 3)).block, (ad228.add ((x4_1).toNat * 3)).off + 1, none⟩ = some (.string ((rd_T49 l0 x4_1).f1)) ∧ w'.cell? ⟨(ad228.add ((x4_1).toNat * 3)).block, (ad228.add ((x4_1).toNat * 3)).off + 2, none⟩ = some (.int .i64 ((rd_T49 l0 x4_1).f2))) (ds := []) #[false, false, false, false, false, false, false, false, false, false, false, false, false] (by kernel_rfl) rfl rfl ⟨((HB.out.cell (World.block_lt_of_cell? w _ hw230_0)).trans hw230_0), ((HB.out.cell (World.block_lt_of_cell? w _ hw230_1)).trans hw230_1), ((HB.out.cell (World.block_lt_of_cell? w _ hw230_2)).trans hw230_2), ((HB.out.cell (World.block_lt_of_cell? w _ hw231_0)).trans hw231_0), ((HB.out.cell (World.block_lt_of_cell? w _ hw231_1)).trans hw231_1), ((HB.out.cell (World.block_lt_of_cell? w _ hw231_2)).trans hw231_2)⟩ (fun hHeld => ?_); refine with_tabW variorumref09_Adds.tab8 variorumref09_Adds.bits8 (fun HT_ HW_ => ?_)
              generalize wr.drew = w18 at HO_3 HB hx230_0 hx230_1 hx230_2 hx231_0 hx231_1 hx231_2 hHeld ⊢
              refine pure_ (i := 0) (N := some 30) (v := ?_) (a' := ?_) #[true, false, false, false, false, false, false, false, false, false, false, false, false] rfl rfl (any_of HT_.out (by kernel_rfl)) (fun _ _ _ h => h) (Or.inl ⟨by rfl, ?_⟩) ?_ ?_
              rotate_left
              ·intro w'
               go_simp
               with_reducible rfl
              rotate_left
              ·simp only [Act.put, List.setIfInBounds_toArray, List.set_cons_zero, List.set_cons_succ, i64_w, i32_w]
               rfl
              refine pure_ (i := 1) (N := some 31) (v := ?_) (a' := ?_) #[true, true, false, false, false, false, false, false, false, false, false, false, false] rfl rfl (any_of HT_.out (by kernel_rfl)) (fun _ _ _ h => h) (Or.inl ⟨by rfl, ?_⟩) ?_ ?_
              rotate_left
              ·intro w'
               go_simp
               with_reducible rfl
              rotate_left
              ·simp only [Act.put, List.setIfInBounds_toArray, List.set_cons_zero, List.set_cons_succ, i64_w, i32_w]
               rfl
              refine pure_ (i := 2) (N := some 32) (v := ?_) (a' := ?_) #[true, true, true, false, false, false, false, false, false, false, false, false, false] rfl rfl (any_of HT_.out (by kernel_rfl)) (fun _ _ _ h => h) (Or.inl ⟨by rfl, ?_⟩) ?_ ?_
              rotate_left
              ·intro w'
               go_simp
               with_reducible rfl
              rotate_left
              ·simp only [Act.put, List.setIfInBounds_toArray, List.set_cons_zero, List.set_cons_succ, i64_w, i32_w]
               rfl
              refine pure_ (i := 3) (N := some 33) (v := ?_) (a' := ?_) #[true, true, true, true, false, false, false, false, false, false, false, false, false] rfl rfl (any_of HT_.out (by kernel_rfl)) (fun _ _ _ h => h) (Or.inl ⟨by rfl, ?_⟩) ?_ ?_
              rotate_left
              ·intro w'
               go_simp
               with_reducible rfl
              rotate_left
              ·simp only [Act.put, List.setIfInBounds_toArray, List.set_cons_zero, List.set_cons_succ, i64_w, i32_w]
               rfl
              refine pure_ (i := 4) (N := some 34) (v := ?_) (a' := ?_) #[true, true, true, true, true, false, false, false, false, false, false, false, false] rfl rfl (any_of HT_.out (by kernel_rfl)) (fun _ _ _ h => h) (Or.inl ⟨by rfl, ?_⟩) ?_ ?_
              rotate_left
              ·intro w'
               go_simp
               with_reducible rfl
              rotate_left
              ·simp only [Act.put, List.setIfInBounds_toArray, List.set_cons_zero, List.set_cons_succ, i64_w, i32_w]
               rfl
              refine pure_ (i := 6) (N := some 36) (v := ?_) (a' := ?_) #[true, true, true, true, true, false, true, false, false, false, false, false, false] rfl rfl (any_of HT_.out (by kernel_rfl)) (fun _ _ _ h => h) (Or.inl ⟨by rfl, ?_⟩) ?_ ?_
              rotate_left
              ·intro w'
               go_simp
               with_reducible rfl
              rotate_left
              ·simp only [Act.put, List.setIfInBounds_toArray, List.set_cons_zero, List.set_cons_succ, i64_w, i32_w]
               rfl
              refine pure_ (i := 7) (N := some 37) (v := ?_) (a' := ?_) #[true, true, true, true, true, false, true, true, false, false, false, false, false] rfl rfl (any_of HT_.out (by kernel_rfl)) (fun _ _ _ h => h) (Or.inl ⟨by rfl, ?_⟩) ?_ ?_
              rotate_left
              ·intro w'
               go_simp
               with_reducible rfl
              rotate_left
              ·simp only [Act.put, List.setIfInBounds_toArray, List.set_cons_zero, List.set_cons_succ, i64_w, i32_w]
               rfl
              refine pure_ (i := 8) (N := some 38) (v := ?_) (a' := ?_) #[true, true, true, true, true, false, true, true, true, false, false, false, false] rfl rfl (any_of HT_.out (by kernel_rfl)) (fun _ _ _ h => h) (Or.inl ⟨by rfl, ?_⟩) ?_ ?_
              rotate_left
              ·intro w'
               go_simp
               with_reducible rfl
              rotate_left
              ·simp only [Act.put, List.setIfInBounds_toArray, List.set_cons_zero, List.set_cons_succ, i64_w, i32_w]
               rfl
              refine pure_ (i := 9) (N := some 39) (v := ?_) (a' := ?_) #[true, true, true, true, true, false, true, true, true, true, false, false, false] rfl rfl (any_of HT_.out (by kernel_rfl)) (fun _ _ _ h => h) (Or.inl ⟨by rfl, ?_⟩) ?_ ?_
              rotate_left
              ·intro w'
               go_simp
               with_reducible rfl
              rotate_left
              ·simp only [Act.put, List.setIfInBounds_toArray, List.set_cons_zero, List.set_cons_succ, i64_w, i32_w]
               rfl
              refine take_ (i := 5) (N := some 35) (v := ?_) (a' := ?_) #[true, true, true, true, true, true, true, true, true, true, false, false, false] rfl rfl (take_ofW HT_.out HW_.out (by kernel_rfl)) (fun _ _ _ h => h) (Or.inl ⟨by rfl, ?_⟩) hHeld ?_ ?_
              rotate_left
              ·rintro w' ⟨s0, s1, s2, s3, s4, s5⟩
               go_simp
               with_reducible rfl
              rotate_left
              ·simp only [Act.put, List.setIfInBounds_toArray, List.set_cons_zero, List.set_cons_succ, i64_w, i32_w]
               rfl
              refine take_ (i := 10) (N := some 40) (v := ?_) (a' := ?_) #[true, true, true, true, true, true, true, true, true, true, true, false, false] rfl rfl (take_ofW HT_.out HW_.out (by kernel_rfl)) (fun _ _ _ h => h) (Or.inl ⟨by rfl, ?_⟩) hHeld ?_ ?_
              rotate_left
              ·rintro w' ⟨s0, s1, s2, s3, s4, s5⟩
               go_simp
               with_reducible rfl
              rotate_left
              ·simp only [Act.put, List.setIfInBounds_toArray, List.set_cons_zero, List.set_cons_succ, i64_w, i32_w]
               rfl
              refine pure_ (i := 11) (N := some 41) (v := ?_) (a' := ?_) #[true, true, true, true, true, true, true, true, true, true, true, true, false] rfl rfl (any_of HT_.out (by kernel_rfl)) (fun _ _ _ h => h) (Or.inl ⟨by rfl, ?_⟩) ?_ ?_
              rotate_left
              ·intro w'
               go_simp
               with_reducible rfl
              rotate_left
              ·simp only [Act.put, List.setIfInBounds_toArray, List.set_cons_zero, List.set_cons_succ, i64_w, i32_w]
               rfl
              refine pure_ (i := 12) (N := some 42) (v := ?_) (a' := ?_) #[true, true, true, true, true, true, true, true, true, true, true, true, true] rfl rfl (any_of HT_.out (by kernel_rfl)) (fun _ _ _ h => h) (Or.inl ⟨by rfl, ?_⟩) ?_ ?_
              rotate_left
              ·intro w'
               go_simp
               with_reducible rfl
              rotate_left
              ·simp only [Act.put, List.setIfInBounds_toArray, List.set_cons_zero, List.set_cons_succ, i64_w, i32_w]
               rfl
              refine done_ (done_of HT_.out (by kernel_rfl)) ?_
              try go_wp2_with (first | ((with_reducible refine gate_builtin (b := .append) (xs := #[.tmp 45, .tmp 46]) rfl ?_); at_builtin; refine Kd.R_append Kd.string (w0 := w) w.heap.size rfl (.tmp 45) (.tmp 46) 92 9 (.string ⟨#[]⟩) 16 rfl Try.underlying92 info9 rfl (by decide) (by omega) u3 x3_2 (⟨#[]⟩ : ByteArray) [.string (⟨#[]⟩ : ByteArray)] (fun _ => True) (fun _ => False) rfl rfl ?aP (fun _ hk => hk.elim) ?aF ?aO ?aB ?aS ?aL ?_; (case aP => exact rfl); (case aB => exact (by repeat ((with_reducible (exact HB.out))))); (case aF => exact (fun _ _ => trivial)); (case aO => exact (by (with_reducible repeat ((apply Kd.R_drew))); exact HO_3.out)); (case aS => exact (below_size (by repeat ((with_reducible (exact HB.out)))))); (case aL => have := LMc17.out; omega); intro v233 w19 ho hb hg hat; rw [← Ny232.out] at ho; have n0_ := Aside0.mk (hb); have n1_ := Aside0.mk (ho); clear HB; clear HO_3; have HB := n0_; have HO234 := n1_; clear n0_ n1_; clear ho hb hg hat))
              go_roundg k2
              case measure => have := HK1.out; have := HK2.out; omega
              case rel => exact ⟨(y232), (wrap64 (x6_2 + 1)), (by (rfl)), H', ⟨by have := HK1.out; have := HK2.out; omega⟩, ⟨by (with_reducible repeat ((apply Kd.R_drew))); exact HO234.out⟩, ⟨by repeat ((with_reducible (exact HB.out)))⟩⟩
             ·rw [if_neg c17] at H
              exact absurd H (by simp)
            ·rw [if_neg c16] at H
             have c16b0 : decide (x6_2 < (wrap64 (((rd_T49 l0 x4_1).f0) + ((rd_T49 l0 x4_1).f2)))) = false := decide_eq_false c16
             clear c16
             have H' := Aside0.mk H
             clear H
             try go_wp2
             have n0_ := Aside0.mk (Kd.R_drew HO_3.out)
             have n1_ := Aside0.mk (below_drew1 HB.out)
             clear HO_3
             clear HB
             have HO_3 := n0_
             have HB := n1_
             clear n0_ n1_
             have p230 : 0 ≤ (x4_1 : Int) := of_decide_eq_true (by (with_reducible assumption))
             have q230 : x4_1 < (l0.length : Int) := of_decide_eq_true (by (with_reducible assumption))
             obtain ⟨ad230, e230, hx230_0, hx230_1, hx230_2⟩ := at_T49 HR0.out x4_1 p230 q230
             have hw230_2 := hx230_2
             have hw230_1 := hx230_1
             have hw230_0 := hx230_0
             obtain rfl : ad228 = ad230 := (by injection e230)
             replace hx230_0 := (HB.out.cell (World.block_lt_of_cell? w _ hx230_0)).trans hx230_0
             replace hx230_1 := (HB.out.cell (World.block_lt_of_cell? w _ hx230_1)).trans hx230_1
             replace hx230_2 := (HB.out.cell (World.block_lt_of_cell? w _ hx230_2)).trans hx230_2
             replace p230 := eq_true p230
             replace q230 := eq_true q230
             have p231 : 0 ≤ (x4_1 : Int) := of_decide_eq_true (by (with_reducible assumption))
             have q231 : x4_1 < (l0.length : Int) := of_decide_eq_true (by (with_reducible assumption))
             obtain ⟨ad231, e231, hx231_0, hx231_1, hx231_2⟩ := at_T49 HR0.out x4_1 p231 q231
             have hw231_2 := hx231_2
             have hw231_1 := hx231_1
             have hw231_0 := hx231_0
             obtain rfl : ad228 = ad231 := (by injection e231)
             replace hx231_0 := (HB.out.cell (World.block_lt_of_cell? w _ hx231_0)).trans hx231_0
             replace hx231_1 := (HB.out.cell (World.block_lt_of_cell? w _ hx231_1)).trans hx231_1
             replace hx231_2 := (HB.out.cell (World.block_lt_of_cell? w _ hx231_2)).trans hx231_2
             replace p231 := eq_true p231
             replace q231 := eq_true q231
             refine start_ (n := 13) (S := fun w' => w'.cell? (ad228.add ((x4_1).toNat * 3)) = some (.int .i64 ((rd_T49 l0 x4_1).f0)) ∧ w'.cell? ⟨(ad228.add ((x4_1).toNat * 3)).block, (ad228.add ((x4_1).toNat * 3)).off + 1, none⟩ = some (.string ((rd_T49 l0 x4_1).f1)) ∧ w'.cell? ⟨(ad228.add ((x4_1).toNat * 3)).block, (ad228.add ((x4_1).toNat * 3)).off + 2, none⟩ = some (.int .i64 ((rd_T49 l0 x4_1).f2)) ∧ w'.cell? (ad228.add ((x4_1).toNat * 3)) = some (.int .i64 ((rd_T49 l0 x4_1).f0)) ∧ w'.cell? ⟨(ad228.add ((x4_1).toNat * 3)).block, (ad228.add ((x4_1).toNat * 3)).off + 1, none⟩ = some (.string ((rd_T49 l0 x4_1).f1)) ∧ w'.cell? ⟨(ad228.add ((x4_1).toNat * 3)).block, (ad228.add ((x4_1).toNat * 3)).off + 2, none⟩ = some (.int .i64 ((rd_T49 l0 x4_1).f2))) (ds := []) #[false, false, false, false, false, false, false, false, false, false, false, false, false] (by kernel_rfl) rfl rfl ⟨((HB.out.cell (World.block_lt_of_cell? w _ hw230_0)).trans hw230_0), ((HB.out.cell (World.block_lt_of_cell? w _ hw230_1)).trans hw230_1), ((HB.out.cell (World.block_lt_of_cell? w _ hw230_2)).trans hw230_2), ((HB.out.cell (World.block_lt_of_cell? w _ hw231_0)).trans hw231_0), ((HB.out.cell (World.block_lt_of_cell? w _ hw231_1)).trans hw231_1), ((HB.out.cell (World.block_lt_of_cell? w _ hw231_2)).trans hw231_2)⟩ (fun hHeld => ?_); refine with_tabW variorumref09_Adds.tab8 variorumref09_Adds.bits8 (fun HT_ HW_ => ?_)
             generalize wr.drew = w20 at HO_3 HB hx230_0 hx230_1 hx230_2 hx231_0 hx231_1 hx231_2 hHeld ⊢
             refine pure_ (i := 0) (N := some 30) (v := ?_) (a' := ?_) #[true, false, false, false, false, false, false, false, false, false, false, false, false] rfl rfl (any_of HT_.out (by kernel_rfl)) (fun _ _ _ h => h) (Or.inl ⟨by rfl, ?_⟩) ?_ ?_
             rotate_left
             ·intro w'
              go_simp
              with_reducible rfl
             rotate_left
             ·simp only [Act.put, List.setIfInBounds_toArray, List.set_cons_zero, List.set_cons_succ, i64_w, i32_w]
              rfl
             refine pure_ (i := 1) (N := some 31) (v := ?_) (a' := ?_) #[true, true, false, false, false, false, false, false, false, false, false, false, false] rfl rfl (any_of HT_.out (by kernel_rfl)) (fun _ _ _ h => h) (Or.inl ⟨by rfl, ?_⟩) ?_ ?_
             rotate_left
             ·intro w'
              go_simp
              with_reducible rfl
             rotate_left
             ·simp only [Act.put, List.setIfInBounds_toArray, List.set_cons_zero, List.set_cons_succ, i64_w, i32_w]
              rfl
             refine pure_ (i := 2) (N := some 32) (v := ?_) (a' := ?_) #[true, true, true, false, false, false, false, false, false, false, false, false, false] rfl rfl (any_of HT_.out (by kernel_rfl)) (fun _ _ _ h => h) (Or.inl ⟨by rfl, ?_⟩) ?_ ?_
             rotate_left
             ·intro w'
              go_simp
              with_reducible rfl
             rotate_left
             ·simp only [Act.put, List.setIfInBounds_toArray, List.set_cons_zero, List.set_cons_succ, i64_w, i32_w]
              rfl
             refine pure_ (i := 3) (N := some 33) (v := ?_) (a' := ?_) #[true, true, true, true, false, false, false, false, false, false, false, false, false] rfl rfl (any_of HT_.out (by kernel_rfl)) (fun _ _ _ h => h) (Or.inl ⟨by rfl, ?_⟩) ?_ ?_
             rotate_left
             ·intro w'
              go_simp
              with_reducible rfl
             rotate_left
             ·simp only [Act.put, List.setIfInBounds_toArray, List.set_cons_zero, List.set_cons_succ, i64_w, i32_w]
              rfl
             refine pure_ (i := 4) (N := some 34) (v := ?_) (a' := ?_) #[true, true, true, true, true, false, false, false, false, false, false, false, false] rfl rfl (any_of HT_.out (by kernel_rfl)) (fun _ _ _ h => h) (Or.inl ⟨by rfl, ?_⟩) ?_ ?_
             rotate_left
             ·intro w'
              go_simp
              with_reducible rfl
             rotate_left
             ·simp only [Act.put, List.setIfInBounds_toArray, List.set_cons_zero, List.set_cons_succ, i64_w, i32_w]
              rfl
             refine pure_ (i := 6) (N := some 36) (v := ?_) (a' := ?_) #[true, true, true, true, true, false, true, false, false, false, false, false, false] rfl rfl (any_of HT_.out (by kernel_rfl)) (fun _ _ _ h => h) (Or.inl ⟨by rfl, ?_⟩) ?_ ?_
             rotate_left
             ·intro w'
              go_simp
              with_reducible rfl
             rotate_left
             ·simp only [Act.put, List.setIfInBounds_toArray, List.set_cons_zero, List.set_cons_succ, i64_w, i32_w]
              rfl
             refine pure_ (i := 7) (N := some 37) (v := ?_) (a' := ?_) #[true, true, true, true, true, false, true, true, false, false, false, false, false] rfl rfl (any_of HT_.out (by kernel_rfl)) (fun _ _ _ h => h) (Or.inl ⟨by rfl, ?_⟩) ?_ ?_
             rotate_left
             ·intro w'
              go_simp
              with_reducible rfl
             rotate_left
             ·simp only [Act.put, List.setIfInBounds_toArray, List.set_cons_zero, List.set_cons_succ, i64_w, i32_w]
              rfl
             refine pure_ (i := 8) (N := some 38) (v := ?_) (a' := ?_) #[true, true, true, true, true, false, true, true, true, false, false, false, false] rfl rfl (any_of HT_.out (by kernel_rfl)) (fun _ _ _ h => h) (Or.inl ⟨by rfl, ?_⟩) ?_ ?_
             rotate_left
             ·intro w'
              go_simp
              with_reducible rfl
             rotate_left
             ·simp only [Act.put, List.setIfInBounds_toArray, List.set_cons_zero, List.set_cons_succ, i64_w, i32_w]
              rfl
             refine pure_ (i := 9) (N := some 39) (v := ?_) (a' := ?_) #[true, true, true, true, true, false, true, true, true, true, false, false, false] rfl rfl (any_of HT_.out (by kernel_rfl)) (fun _ _ _ h => h) (Or.inl ⟨by rfl, ?_⟩) ?_ ?_
             rotate_left
             ·intro w'
              go_simp
              with_reducible rfl
             rotate_left
             ·simp only [Act.put, List.setIfInBounds_toArray, List.set_cons_zero, List.set_cons_succ, i64_w, i32_w]
              rfl
             refine take_ (i := 5) (N := some 35) (v := ?_) (a' := ?_) #[true, true, true, true, true, true, true, true, true, true, false, false, false] rfl rfl (take_ofW HT_.out HW_.out (by kernel_rfl)) (fun _ _ _ h => h) (Or.inl ⟨by rfl, ?_⟩) hHeld ?_ ?_
             rotate_left
             ·rintro w' ⟨s0, s1, s2, s3, s4, s5⟩
              go_simp
              with_reducible rfl
             rotate_left
             ·simp only [Act.put, List.setIfInBounds_toArray, List.set_cons_zero, List.set_cons_succ, i64_w, i32_w]
              rfl
             refine take_ (i := 10) (N := some 40) (v := ?_) (a' := ?_) #[true, true, true, true, true, true, true, true, true, true, true, false, false] rfl rfl (take_ofW HT_.out HW_.out (by kernel_rfl)) (fun _ _ _ h => h) (Or.inl ⟨by rfl, ?_⟩) hHeld ?_ ?_
             rotate_left
             ·rintro w' ⟨s0, s1, s2, s3, s4, s5⟩
              go_simp
              with_reducible rfl
             rotate_left
             ·simp only [Act.put, List.setIfInBounds_toArray, List.set_cons_zero, List.set_cons_succ, i64_w, i32_w]
              rfl
             refine pure_ (i := 11) (N := some 41) (v := ?_) (a' := ?_) #[true, true, true, true, true, true, true, true, true, true, true, true, false] rfl rfl (any_of HT_.out (by kernel_rfl)) (fun _ _ _ h => h) (Or.inl ⟨by rfl, ?_⟩) ?_ ?_
             rotate_left
             ·intro w'
              go_simp
              with_reducible rfl
             rotate_left
             ·simp only [Act.put, List.setIfInBounds_toArray, List.set_cons_zero, List.set_cons_succ, i64_w, i32_w]
              rfl
             refine pure_ (i := 12) (N := some 42) (v := ?_) (a' := ?_) #[true, true, true, true, true, true, true, true, true, true, true, true, true] rfl rfl (any_of HT_.out (by kernel_rfl)) (fun _ _ _ h => h) (Or.inl ⟨by rfl, ?_⟩) ?_ ?_
             rotate_left
             ·intro w'
              go_simp
              with_reducible rfl
             rotate_left
             ·simp only [Act.put, List.setIfInBounds_toArray, List.set_cons_zero, List.set_cons_succ, i64_w, i32_w]
              rfl
             refine done_ (done_of HT_.out (by kernel_rfl)) ?_
             try go_wp2
             go_roundg k2
             case measure => have := HK1.out; have := HK2.out; omega
             case rel => exact ⟨(x3_2), (wrap64 (x4_1 + 1)), (by (rfl)), H', ⟨by have := HK1.out; have := HK2.out; omega⟩, ⟨by (with_reducible repeat ((apply Kd.R_drew))); exact HO_3.out⟩, ⟨by repeat ((with_reducible (exact HB.out)))⟩⟩
           ·rw [if_neg c15] at H
            exact absurd H (by simp)
          ·rw [if_neg c14] at H
           exact absurd H (by simp)
       ·rw [if_neg c9] at H
        exact absurd H (by simp)
      ·rw [if_neg c8] at H
       exact absurd H (by simp)
     ·rw [if_neg c7] at H
      exact absurd H (by simp)
    ·rw [if_neg c6] at H
     exact absurd H (by simp)
   ·rw [if_neg c4] at H
    have c4b0 : decide (x4_1 < (l0.length : Int)) = false := decide_eq_false c4
    clear c4
    obtain rfl := Option.some.inj H
    go_wp2
    go_ret
    exact ⟨_, by (rfl), by (with_reducible repeat ((apply Kd.R_drew))); exact HO_3.out, by repeat ((with_reducible (exact HB.out)))⟩
end Go.Proofs.Ytjbnffadfohofaa.P
end
-- MERGED YtjbnffadfohofaaPvariorumref09Drops
section
namespace Go.Proofs.Ytjbnffadfohofaa.P
open Go.RowKit Go.Proofs.YtjbnffadfohofaaW.PrintWords Go.Proofs.YtjbnffadfohofaaW.PrintLast Go.Proofs.YtjbnffadfohofaaW.PrintMore
attribute [local go_sem] max2_int min2_int max_two min_two max_three min_three max_four min_four   -- for this text's walks alone
set_option linter.unusedVariables false
set_option linter.unusedSimpArgs false
mutual
def variorumref09_Drops.l0 : Nat → List (S49) → List Bool → Int → Option (List Bool)
 | 0, _, _, _ => none
 | k + 1, x0, x3, x4 => if x4 < (x0.length : Int) then (variorumref09_Drops.l1 k x0 x3 x4 0) else (some x3)
def variorumref09_Drops.l1 : Nat → List (S49) → List Bool → Int → Int → Option (List Bool)
 | 0, _, _, _, _ => none
 | k + 1, x0, x3, x4, x5 => if 0 ≤ x4 then (if x4 < (x0.length : Int) then (if x5 < ((rd_T49 x0 x4).f0) then (if x3.length < 140737488355328 then (variorumref09_Drops.l1 k x0 (x3 ++ [false]) x4 (wrap64 (x5 + 1))) else (none)) else (variorumref09_Drops.l2 k x0 x3 x4 0)) else (none)) else (none)
def variorumref09_Drops.l2 : Nat → List (S49) → List Bool → Int → Int → Option (List Bool)
 | 0, _, _, _, _ => none
 | k + 1, x0, x3, x4, x6 => if 0 ≤ x4 then (if x4 < (x0.length : Int) then (if x6 < ((rd_T49 x0 x4).f2) then (if x3.length < 140737488355328 then (variorumref09_Drops.l2 k x0 (x3 ++ [true]) x4 (wrap64 (x6 + 1))) else (none)) else (variorumref09_Drops.l0 k x0 x3 (wrap64 (x4 + 1)))) else (none)) else (none)
end
def variorumref09_Drops.f (k : Nat) (l0 : List (S49)) : Option (List Bool) := variorumref09_Drops.l0 k l0 ([] : List Bool) 0
set_option maxHeartbeats 8000000 in
set_option maxRecDepth 100000 in
theorem variorumref09_Drops.calls (k : Nat) (A0 : Option Addr) (c0 : Nat) (l0 : List (S49)) (r : List Bool) (w : World) (hr0 : Kd.C k49 w A0 l0.length l0) (hc0 : l0.length ≤ c0) (h : variorumref09_Drops.f k l0 = some r) :
  Calls Try.prog 46 #[.slice A0 l0.length c0] w fun e w' => ∃ v0_ : Value, e = .returned (v0_) ∧ Kd.R Kd.bool 4 w' w.heap.size (fun _ => True) v0_ r ∧ Below w.heap.size w w' := by
 have HR0 := Aside0.mk hr0
 have HC0 := Aside0.mk hc0
 clear hr0 hc0
 have HB := Aside0.mk (Below.refl w.heap.size w)
 have H : (variorumref09_Drops.l0 k l0 ([] : List Bool) 0) = some r := h
 clear h
 have H' := Aside0.mk H
 clear H
 go_enter Try.func46, Try.ntmps46
 go_wp2
 go_loopg [3, 4] k (fun kq v3 v4 w' => ∃ (x3_1 : List Bool) (x4_1 : Int), v4 = .int .i64 x4_1 ∧ Aside0 (variorumref09_Drops.l0 kq l0 x3_1 x4_1 = some r) ∧ Aside0 (kq ≤ k) ∧ Aside0 (Kd.R Kd.bool 4 w' w.heap.size (fun _ => True) v3 x3_1) ∧ Aside0 (Below w.heap.size w w'))
 case atStart => exact ⟨(([] : List Bool)), (0), (by (rfl)), H', ⟨Nat.le_refl _⟩, ⟨by (exact Kd.R_nil _ _ _ _ _)⟩, ⟨by repeat ((with_reducible (exact HB.out)))⟩⟩
 case round =>
  clear H'
  obtain ⟨x3_1, x4_1, rfl, HA, HK1, HO_3, HB⟩ := hrel
  cases gk with
  | zero => exact absurd HA.out (by simp [variorumref09_Drops.l0])
  | succ k1 =>
   have H := HA.out
   clear HA
   simp only [variorumref09_Drops.l0] at H
   by_cases c2 : x4_1 < (l0.length : Int)
   ·rw [if_pos c2] at H
    have c2b0 : decide (x4_1 < (l0.length : Int)) = true := decide_eq_true c2
    clear c2
    have H' := Aside0.mk H
    clear H
    go_wp2
    go_loopg [3, 5] k1 (fun kq v3 v5 w' => ∃ (x3_2 : List Bool) (x5_2 : Int), v5 = .int .i64 x5_2 ∧ Aside0 (variorumref09_Drops.l1 kq l0 x3_2 x4_1 x5_2 = some r) ∧ Aside0 (kq ≤ k1) ∧ Aside0 (Kd.R Kd.bool 4 w' w.heap.size (fun _ => True) v3 x3_2) ∧ Aside0 (Below w.heap.size w w'))
    case atStart => exact ⟨(x3_1), (0), (by (rfl)), H', ⟨Nat.le_refl _⟩, ⟨by (with_reducible repeat ((apply Kd.R_drew))); exact HO_3.out⟩, ⟨by repeat ((with_reducible (exact HB.out)))⟩⟩
    case round =>
     clear H'
     try clear c2
     try clear c2b0
     try clear p2
     obtain ⟨x3_2, x5_2, rfl, HA, HK2, HO_3, HB⟩ := hrel
     cases gk with
     | zero => exact absurd HA.out (by simp [variorumref09_Drops.l1])
     | succ k2 =>
      have H := HA.out
      clear HA
      simp only [variorumref09_Drops.l1] at H
      by_cases c3 : 0 ≤ x4_1
      ·rw [if_pos c3] at H
       have c3b0 : decide (0 ≤ x4_1) = true := decide_eq_true c3
       clear c3
       by_cases c4 : x4_1 < (l0.length : Int)
       ·rw [if_pos c4] at H
        have c4b0 : decide (x4_1 < (l0.length : Int)) = true := decide_eq_true c4
        clear c4
        by_cases c5 : x5_2 < ((rd_T49 l0 x4_1).f0)
        ·rw [if_pos c5] at H
         have c5b0 : decide (x5_2 < ((rd_T49 l0 x4_1).f0)) = true := decide_eq_true c5
         clear c5
         by_cases c6 : x3_2.length < 140737488355328
         ·rw [if_pos c6] at H
          have LMc6 := Aside0.mk c6
          clear c6
          obtain ⟨y217, hy217⟩ : ∃ y_ : List Bool, y_ = (x3_2 ++ [false]) := ⟨_, rfl⟩
          replace H : (variorumref09_Drops.l1 k2 l0 y217 x4_1 (wrap64 (x5_2 + 1))) = some r := by (rw [hy217]; with_reducible exact H)
          have Ny217 := Aside0.mk hy217
          clear hy217
          have H' := Aside0.mk H
          clear H
          have p216 : 0 ≤ (x4_1 : Int) := of_decide_eq_true (by (with_reducible assumption))
          have q216 : x4_1 < (l0.length : Int) := of_decide_eq_true (by (with_reducible assumption))
          obtain ⟨ad216, e216, hx216_0, hx216_1, hx216_2⟩ := at_T49 HR0.out x4_1 p216 q216
          cases e216
          replace hx216_0 := (HB.out.cell (World.block_lt_of_cell? w _ hx216_0)).trans hx216_0
          replace hx216_1 := (HB.out.cell (World.block_lt_of_cell? w _ hx216_1)).trans hx216_1
          replace hx216_2 := (HB.out.cell (World.block_lt_of_cell? w _ hx216_2)).trans hx216_2
          replace p216 := eq_true p216
          replace q216 := eq_true q216
          go_wp2_with (first | ((with_reducible refine gate_builtin (b := .append) (xs := #[.tmp 22, .tmp 23]) rfl ?_); at_builtin; refine Kd.R_append Kd.bool (w0 := w) w.heap.size rfl (.tmp 22) (.tmp 23) 83 4 (.bool false) 1 rfl Try.underlying83 info4 rfl (by decide) (by omega) u3 x3_2 false [.bool false] (fun _ => True) (fun _ => False) rfl rfl ?aP (fun _ hk => hk.elim) ?aF ?aO ?aB ?aS ?aL ?_; (case aP => exact rfl); (case aB => exact (by repeat ((with_reducible (exact HB.out))))); (case aF => exact (fun _ _ => trivial)); (case aO => exact (by (with_reducible repeat ((apply Kd.R_drew))); exact HO_3.out)); (case aS => exact (below_size (by repeat ((with_reducible (exact HB.out)))))); (case aL => have := LMc6.out; omega); intro v218 w7 ho hb hg hat; rw [← Ny217.out] at ho; have n0_ := Aside0.mk (hb); have n1_ := Aside0.mk (ho); clear HB; clear HO_3; have HB := n0_; have HO219 := n1_; clear n0_ n1_; clear ho hb hg hat))
          go_roundg k2
          case measure => have := HK1.out; have := HK2.out; omega
          case rel => exact ⟨(y217), (wrap64 (x5_2 + 1)), (by (rfl)), H', ⟨by have := HK1.out; have := HK2.out; omega⟩, ⟨by (with_reducible repeat ((apply Kd.R_drew))); exact HO219.out⟩, ⟨by repeat ((with_reducible (exact HB.out)))⟩⟩
         ·rw [if_neg c6] at H
          exact absurd H (by simp)
        ·rw [if_neg c5] at H
         have c5b0 : decide (x5_2 < ((rd_T49 l0 x4_1).f0)) = false := decide_eq_false c5
         clear c5
         have H' := Aside0.mk H
         clear H
         have p216 : 0 ≤ (x4_1 : Int) := of_decide_eq_true (by (with_reducible assumption))
         have q216 : x4_1 < (l0.length : Int) := of_decide_eq_true (by (with_reducible assumption))
         obtain ⟨ad216, e216, hx216_0, hx216_1, hx216_2⟩ := at_T49 HR0.out x4_1 p216 q216
         cases e216
         replace hx216_0 := (HB.out.cell (World.block_lt_of_cell? w _ hx216_0)).trans hx216_0
         replace hx216_1 := (HB.out.cell (World.block_lt_of_cell? w _ hx216_1)).trans hx216_1
         replace hx216_2 := (HB.out.cell (World.block_lt_of_cell? w _ hx216_2)).trans hx216_2
         replace p216 := eq_true p216
         replace q216 := eq_true q216
         go_wp2
         go_loopg [3, 6] k2 (fun kq v3 v6 w' => ∃ (x3_3 : List Bool) (x6_3 : Int), v6 = .int .i64 x6_3 ∧ Aside0 (variorumref09_Drops.l2 kq l0 x3_3 x4_1 x6_3 = some r) ∧ Aside0 (kq ≤ k2) ∧ Aside0 (Kd.R Kd.bool 4 w' w.heap.size (fun _ => True) v3 x3_3) ∧ Aside0 (Below w.heap.size w w'))
         case atStart => exact ⟨(x3_2), (0), (by (rfl)), H', ⟨Nat.le_refl _⟩, ⟨by (with_reducible repeat ((apply Kd.R_drew))); exact HO_3.out⟩, ⟨by repeat ((with_reducible (exact HB.out)))⟩⟩
         case round =>
          clear H'
          try clear c2
          try clear c2b0
          try clear p2
          try clear q2
          try clear hx2
          try clear c3
          try clear c3b0
          try clear c4
          try clear c4b0
          try clear c5
          try clear c5b0
          try clear c6
          try clear p6
          try clear hx216_0
          try clear hx216_1
          try clear hx216_2
          try clear p2
          try clear p216
          try clear q216
          obtain ⟨x3_3, x6_3, rfl, HA, HK3, HO_3, HB⟩ := hrel
          cases gk with
          | zero => exact absurd HA.out (by simp [variorumref09_Drops.l2])
          | succ k3 =>
           have H := HA.out
           clear HA
           simp only [variorumref09_Drops.l2] at H
           by_cases c8 : 0 ≤ x4_1
           ·rw [if_pos c8] at H
            have c8b0 : decide (0 ≤ x4_1) = true := decide_eq_true c8
            clear c8
            by_cases c9 : x4_1 < (l0.length : Int)
            ·rw [if_pos c9] at H
             have c9b0 : decide (x4_1 < (l0.length : Int)) = true := decide_eq_true c9
             clear c9
             by_cases c10 : x6_3 < ((rd_T49 l0 x4_1).f2)
             ·rw [if_pos c10] at H
              have c10b0 : decide (x6_3 < ((rd_T49 l0 x4_1).f2)) = true := decide_eq_true c10
              clear c10
              by_cases c11 : x3_3.length < 140737488355328
              ·rw [if_pos c11] at H
               have LMc11 := Aside0.mk c11
               clear c11
               obtain ⟨y221, hy221⟩ : ∃ y_ : List Bool, y_ = (x3_3 ++ [true]) := ⟨_, rfl⟩
               replace H : (variorumref09_Drops.l2 k3 l0 y221 x4_1 (wrap64 (x6_3 + 1))) = some r := by (rw [hy221]; with_reducible exact H)
               have Ny221 := Aside0.mk hy221
               clear hy221
               have H' := Aside0.mk H
               clear H
               have p220 : 0 ≤ (x4_1 : Int) := of_decide_eq_true (by (with_reducible assumption))
               have q220 : x4_1 < (l0.length : Int) := of_decide_eq_true (by (with_reducible assumption))
               obtain ⟨ad220, e220, hx220_0, hx220_1, hx220_2⟩ := at_T49 HR0.out x4_1 p220 q220
               obtain rfl : ad216 = ad220 := (by injection e220)
               replace hx220_0 := (HB.out.cell (World.block_lt_of_cell? w _ hx220_0)).trans hx220_0
               replace hx220_1 := (HB.out.cell (World.block_lt_of_cell? w _ hx220_1)).trans hx220_1
               replace hx220_2 := (HB.out.cell (World.block_lt_of_cell? w _ hx220_2)).trans hx220_2
               replace p220 := eq_true p220
               replace q220 := eq_true q220
               go_wp2_with (first | ((with_reducible refine gate_builtin (b := .append) (xs := #[.tmp 34, .tmp 35]) rfl ?_); at_builtin; refine Kd.R_append Kd.bool (w0 := w) w.heap.size rfl (.tmp 34) (.tmp 35) 83 4 (.bool false) 1 rfl Try.underlying83 info4 rfl (by decide) (by omega) u3 x3_3 true [.bool true] (fun _ => True) (fun _ => False) rfl rfl ?aP (fun _ hk => hk.elim) ?aF ?aO ?aB ?aS ?aL ?_; (case aP => exact rfl); (case aB => exact (by repeat ((with_reducible (exact HB.out))))); (case aF => exact (fun _ _ => trivial)); (case aO => exact (by (with_reducible repeat ((apply Kd.R_drew))); exact HO_3.out)); (case aS => exact (below_size (by repeat ((with_reducible (exact HB.out)))))); (case aL => have := LMc11.out; omega); intro v222 w12 ho hb hg hat; rw [← Ny221.out] at ho; have n0_ := Aside0.mk (hb); have n1_ := Aside0.mk (ho); clear HB; clear HO_3; have HB := n0_; have HO223 := n1_; clear n0_ n1_; clear ho hb hg hat))
               go_roundg k3
               case measure => have := HK1.out; have := HK2.out; have := HK3.out; omega
               case rel => exact ⟨(y221), (wrap64 (x6_3 + 1)), (by (rfl)), H', ⟨by have := HK1.out; have := HK2.out; have := HK3.out; omega⟩, ⟨by (with_reducible repeat ((apply Kd.R_drew))); exact HO223.out⟩, ⟨by repeat ((with_reducible (exact HB.out)))⟩⟩
              ·rw [if_neg c11] at H
               exact absurd H (by simp)
             ·rw [if_neg c10] at H
              have c10b0 : decide (x6_3 < ((rd_T49 l0 x4_1).f2)) = false := decide_eq_false c10
              clear c10
              have H' := Aside0.mk H
              clear H
              have p220 : 0 ≤ (x4_1 : Int) := of_decide_eq_true (by (with_reducible assumption))
              have q220 : x4_1 < (l0.length : Int) := of_decide_eq_true (by (with_reducible assumption))
              obtain ⟨ad220, e220, hx220_0, hx220_1, hx220_2⟩ := at_T49 HR0.out x4_1 p220 q220
              obtain rfl : ad216 = ad220 := (by injection e220)
              replace hx220_0 := (HB.out.cell (World.block_lt_of_cell? w _ hx220_0)).trans hx220_0
              replace hx220_1 := (HB.out.cell (World.block_lt_of_cell? w _ hx220_1)).trans hx220_1
              replace hx220_2 := (HB.out.cell (World.block_lt_of_cell? w _ hx220_2)).trans hx220_2
              replace p220 := eq_true p220
              replace q220 := eq_true q220
              go_wp2
              go_roundg k3
              case measure => have := HK1.out; have := HK2.out; have := HK3.out; omega
              case rel => exact ⟨(x3_3), (wrap64 (x4_1 + 1)), (by (rfl)), H', ⟨by have := HK1.out; have := HK2.out; have := HK3.out; omega⟩, ⟨by (with_reducible repeat ((apply Kd.R_drew))); exact HO_3.out⟩, ⟨by repeat ((with_reducible (exact HB.out)))⟩⟩
            ·rw [if_neg c9] at H
             exact absurd H (by simp)
           ·rw [if_neg c8] at H
            exact absurd H (by simp)
       ·rw [if_neg c4] at H
        exact absurd H (by simp)
      ·rw [if_neg c3] at H
       exact absurd H (by simp)
   ·rw [if_neg c2] at H
    have c2b0 : decide (x4_1 < (l0.length : Int)) = false := decide_eq_false c2
    clear c2
    obtain rfl := Option.some.inj H
    go_wp2
    go_ret
    exact ⟨_, by (rfl), by (with_reducible repeat ((apply Kd.R_drew))); exact HO_3.out, by repeat ((with_reducible (exact HB.out)))⟩
end Go.Proofs.Ytjbnffadfohofaa.P
end
-- MERGED YtjbnffadfohofaaPvariorumref10Move
section
namespace Go.Proofs.Ytjbnffadfohofaa.P
open Go.RowKit Go.Proofs.YtjbnffadfohofaaW.PrintWords Go.Proofs.YtjbnffadfohofaaW.PrintLast Go.Proofs.YtjbnffadfohofaaW.PrintMore
attribute [local go_sem] max2_int min2_int max_two min_two max_three min_three max_four min_four   -- for this text's walks alone
set_option linter.unusedVariables false
set_option linter.unusedSimpArgs false
mutual
def variorumref10_Move.j0 : Nat → List (S49) → Int → Bool → Bool → Option (Int × Bool)
 | 0, _, _, _, _ => none
 | k + 1, x0, x1, x2, x24 => if x24 = true then (some (0, false)) else ((variorumref09_Adds.f k x0).bind fun t237 => ((variorumref09_Drops.f k x0).bind fun t240 => (variorumref10_Move.l0 k x1 x2 t237 t240 0 0)))
def variorumref10_Move.l0 : Nat → Int → Bool → List ByteArray → List Bool → Int → Int → Option (Int × Bool)
 | 0, _, _, _, _, _, _ => none
 | k + 1, x1, x2, x8, x9, x10, x11 => if x11 < x1 then (if 0 ≤ x11 then (if x11 < (x8.length : Int) then (if x11 < (x9.length : Int) then (if rdOf false x9 x11 = true then (variorumref10_Move.l0 k x1 x2 x8 x9 (wrap64 (x10 + ((rdOf ByteArray.empty x8 x11).size : Int))) (wrap64 (x11 + 1))) else (variorumref10_Move.l0 k x1 x2 x8 x9 (wrap64 ((wrap64 (x10 + ((rdOf ByteArray.empty x8 x11).size : Int))) + 1)) (wrap64 (x11 + 1)))) else (none)) else (none)) else (none)) else (if x2 = true then (if 0 ≤ x1 then (if x1 < (x8.length : Int) then (some (wrap64 (x10 + ((rdOf ByteArray.empty x8 x1).size : Int)), true)) else (none)) else (none)) else (some (x10, true)))
end
def variorumref10_Move.f (k : Nat) (l0 : List (S49)) (a1 : Int) (a2 : Bool) : Option (Int × Bool) := (variorumref06_Good.f l0).bind fun t235 => (if t235 = true then (if a1 < 0 then (variorumref10_Move.j0 k l0 a1 a2 true) else ((variorumref06_In.f k l0).bind fun t236 => (variorumref10_Move.j0 k l0 a1 a2 (decide (a1 > t236))))) else (variorumref10_Move.j0 k l0 a1 a2 true))
set_option maxHeartbeats 8000000 in
set_option maxRecDepth 100000 in
theorem variorumref10_Move.calls (k : Nat) (A0 : Option Addr) (c0 : Nat) (l0 : List (S49)) (a1 : Int) (a2 : Bool) (r1 : Int) (r2 : Bool) (w : World) (hr0 : Kd.C k49 w A0 l0.length l0) (hc0 : l0.length ≤ c0) (h : variorumref10_Move.f k l0 a1 a2 = some (r1, r2)) :
  Calls Try.prog 47 #[.slice A0 l0.length c0, .int .i64 a1, .bool a2] w fun e w' => e = .returned (.tuple #[.int .i64 r1, .bool r2]) ∧ Below w.heap.size w w' := by
 have HR0 := Aside0.mk hr0
 have HC0 := Aside0.mk hc0
 clear hr0 hc0
 have HB := Aside0.mk (Below.refl w.heap.size w)
 have H : ((variorumref06_Good.f l0).bind fun t235 => (if t235 = true then (if a1 < 0 then (variorumref10_Move.j0 k l0 a1 a2 true) else ((variorumref06_In.f k l0).bind fun t236 => (variorumref10_Move.j0 k l0 a1 a2 (decide (a1 > t236))))) else (variorumref10_Move.j0 k l0 a1 a2 true))) = some (r1, r2) := h
 clear h
 have HC4 := Aside0.mk H
 clear H
 go_enter Try.func47, Try.ntmps47
 go_upto_region 1 with (fail)
 go_cut [24] (fun v24 wc => ∃ (kq : Nat) (x24_3 : Bool), v24 = .bool x24_3 ∧ Aside0 (variorumref10_Move.j0 kq l0 a1 a2 x24_3 = some (r1, r2)) ∧ Aside0 (kq ≤ k) ∧ Aside0 (Below w.heap.size w wc))
 case first =>
  have H := HC4.out
  clear HC4
  replace H := Option.bind_eq_some_iff.mp H
  obtain ⟨t235, A50, H⟩ := H
  replace H : (if t235 = true then (if a1 < 0 then (variorumref10_Move.j0 k l0 a1 a2 true) else ((variorumref06_In.f k l0).bind fun t236 => (variorumref10_Move.j0 k l0 a1 a2 (decide (a1 > t236))))) else (variorumref10_Move.j0 k l0 a1 a2 true)) = some (r1, r2) := H
  have A5 := Aside0.mk A50
  clear A50
  by_cases c6 : t235 = true
  ·subst c6
   have H1 : (if a1 < 0 then (variorumref10_Move.j0 k l0 a1 a2 true) else ((variorumref06_In.f k l0).bind fun t236 => (variorumref10_Move.j0 k l0 a1 a2 (decide (a1 > t236))))) = some (r1, r2) := by rw [if_pos rfl] at H; exact H
   clear H
   have H := H1
   clear H1
   by_cases c7 : a1 < 0
   ·rw [if_pos c7] at H
    have c7b0 : decide (a1 < 0) = true := decide_eq_true c7
    clear c7
    ((skip))
    have H' := Aside0.mk H
    clear H
    go_wp2_with (first | ((with_reducible refine gate_callee (f := 14) rfl ?_); refine goesL_ (some 13) rfl rfl Try.func14 (by kernel_rfl) rfl #[.slice A0 l0.length c0] rfl (by (try simp only [List.map_toArray, List.map_cons, List.map_nil]); (rfl)) ?_; (with_reducible refine (variorumref06_Good.calls _ _ l0 true _ ?side1 ?side2 A5.out).mono ?_); (case side1 => repeat ((exact (Kd.C_below HR0.out HB.out)))); (case side2 => exact HC0.out); rintro e w8 ⟨rfl, hb⟩; refine ⟨_, rfl, ?_⟩; have n0_ := Aside0.mk (below_step (by repeat ((with_reducible (exact HB.out)))) hb); clear HB; have HB := n0_; clear n0_; (try clear hb); (try clear hb2); (try clear hk); (try clear hi)))
    go_meet
    case rel => exact ⟨_, (true), (by (rfl)), H', ⟨by (omega)⟩, ⟨by repeat ((with_reducible (exact HB.out)))⟩⟩
   ·rw [if_neg c7] at H
    have c7b0 : decide (a1 < 0) = false := decide_eq_false c7
    clear c7
    ((skip))
    replace H := Option.bind_eq_some_iff.mp H
    obtain ⟨t236, A90, H⟩ := H
    replace H : (variorumref10_Move.j0 k l0 a1 a2 (decide (a1 > t236))) = some (r1, r2) := H
    have A9 := Aside0.mk A90
    clear A90
    have H' := Aside0.mk H
    clear H
    go_wp2_with (first | ((with_reducible refine gate_callee (f := 14) rfl ?_); refine goesL_ (some 13) rfl rfl Try.func14 (by kernel_rfl) rfl #[.slice A0 l0.length c0] rfl (by (try simp only [List.map_toArray, List.map_cons, List.map_nil]); (rfl)) ?_; (with_reducible refine (variorumref06_Good.calls _ _ l0 true _ ?side1 ?side2 A5.out).mono ?_); (case side1 => repeat ((exact (Kd.C_below HR0.out HB.out)))); (case side2 => exact HC0.out); rintro e w10 ⟨rfl, hb⟩; refine ⟨_, rfl, ?_⟩; have n0_ := Aside0.mk (below_step (by repeat ((with_reducible (exact HB.out)))) hb); clear HB; have HB := n0_; clear n0_; (try clear hb); (try clear hb2); (try clear hk); (try clear hi)) | (go_at_call 32; (with_reducible refine (variorumref06_In.calls k _ _ l0 t236 _ ?side1 ?side2 A9.out).mono ?_); (case side1 => repeat ((exact (Kd.C_below HR0.out HB.out)))); (case side2 => exact HC0.out); rintro e w11 ⟨rfl, hb⟩; have n0_ := Aside0.mk (below_step (by repeat ((with_reducible (exact HB.out)))) hb); clear HB; have HB := n0_; clear n0_; (try clear hb); (try clear hb2); (try clear hk); (try clear hi)))
    go_meet
    case rel => exact ⟨_, (decide (a1 > t236)), (by (rfl)), H', ⟨by (omega)⟩, ⟨by repeat ((with_reducible (exact HB.out)))⟩⟩
  ·replace c6 := Bool.eq_false_iff.mpr c6
   subst c6
   have H1 : (variorumref10_Move.j0 k l0 a1 a2 true) = some (r1, r2) := by rw [if_neg (show ¬ (false = true) by decide)] at H; exact H
   clear H
   have H := H1
   clear H1
   have H' := Aside0.mk H
   clear H
   go_wp2_with (first | ((with_reducible refine gate_callee (f := 14) rfl ?_); refine goesL_ (some 13) rfl rfl Try.func14 (by kernel_rfl) rfl #[.slice A0 l0.length c0] rfl (by (try simp only [List.map_toArray, List.map_cons, List.map_nil]); (rfl)) ?_; (with_reducible refine (variorumref06_Good.calls _ _ l0 false _ ?side1 ?side2 A5.out).mono ?_); (case side1 => repeat ((exact (Kd.C_below HR0.out HB.out)))); (case side2 => exact HC0.out); rintro e w12 ⟨rfl, hb⟩; refine ⟨_, rfl, ?_⟩; have n0_ := Aside0.mk (below_step (by repeat ((with_reducible (exact HB.out)))) hb); clear HB; have HB := n0_; clear n0_; (try clear hb); (try clear hb2); (try clear hk); (try clear hi)))
   go_meet
   case rel => exact ⟨_, (true), (by (rfl)), H', ⟨by (omega)⟩, ⟨by repeat ((with_reducible (exact HB.out)))⟩⟩
 case rest =>
  clear HC4
  try clear c1
  try clear p2
  try clear c4
  try clear c6
  try clear c7
  try clear c7b0
  obtain ⟨kq, x24_3, rfl, HA, HJ3, HB⟩ := hcut
  cases kq with
  | zero => exact absurd HA.out (by simp [variorumref10_Move.j0])
  | succ kj3 =>
   have H := HA.out
   clear HA
   simp only [variorumref10_Move.j0] at H
   by_cases c13 : x24_3 = true
   ·subst c13
    have H1 : (some (0, false)) = some (r1, r2) := by rw [if_pos rfl] at H; exact H
    clear H
    have H := H1
    clear H1
    simp only [Option.some.injEq, Prod.mk.injEq] at H
    obtain ⟨rfl, rfl⟩ := H
    go_wp2
    go_ret2
    exact ⟨by (rfl), by repeat ((with_reducible (exact HB.out)))⟩
   ·replace c13 := Bool.eq_false_iff.mpr c13
    subst c13
    have H1 : ((variorumref09_Adds.f kj3 l0).bind fun t237 => ((variorumref09_Drops.f kj3 l0).bind fun t240 => (variorumref10_Move.l0 kj3 a1 a2 t237 t240 0 0))) = some (r1, r2) := by rw [if_neg (show ¬ (false = true) by decide)] at H; exact H
    clear H
    have H := H1
    clear H1
    replace H := Option.bind_eq_some_iff.mp H
    obtain ⟨t237, A140, H⟩ := H
    replace H : ((variorumref09_Drops.f kj3 l0).bind fun t240 => (variorumref10_Move.l0 kj3 a1 a2 t237 t240 0 0)) = some (r1, r2) := H
    have A14 := Aside0.mk A140
    clear A140
    replace H := Option.bind_eq_some_iff.mp H
    obtain ⟨t240, A150, H⟩ := H
    replace H : (variorumref10_Move.l0 kj3 a1 a2 t237 t240 0 0) = some (r1, r2) := H
    have A15 := Aside0.mk A150
    clear A150
    have H' := Aside0.mk H
    clear H
    go_wp2_with (first | ((with_reducible refine gate_callee (f := 54) rfl ?_); refine goesL_ (some 26) rfl rfl Try.func54 (by kernel_rfl) rfl #[.slice A0 l0.length c0] rfl (by (try simp only [List.map_toArray, List.map_cons, List.map_nil]); (rfl)) ?_; (with_reducible refine (variorumref09_Adds.calls kj3 _ _ l0 t237 _ ?side1 ?side2 A14.out).mono ?_); (case side1 => repeat ((exact (Kd.C_below HR0.out HB.out)))); (case side2 => exact HC0.out); rintro e w16 ⟨v238, rfl, ho0, hb⟩; refine ⟨_, rfl, ?_⟩; have n0_ := Aside0.mk (Kd.R_lower ho0 (below_size (by repeat ((with_reducible (exact HB.out)))))); have n1_ := Aside0.mk (below_step (by repeat ((with_reducible (exact HB.out)))) hb); clear HB; have HO239 := n0_; have HB := n1_; clear n0_ n1_; (try clear hb); (try clear hb2); (try clear hk); (try clear hi); (try clear ho0)) | ((with_reducible refine gate_callee (f := 46) rfl ?_); refine goesL_ (some 28) rfl rfl Try.func46 (by kernel_rfl) rfl #[.slice A0 l0.length c0] rfl (by (try simp only [List.map_toArray, List.map_cons, List.map_nil]); (rfl)) ?_; (with_reducible refine (variorumref09_Drops.calls kj3 _ _ l0 t240 _ ?side1 ?side2 A15.out).mono ?_); (case side1 => repeat ((exact (Kd.C_below HR0.out HB.out)))); (case side2 => exact HC0.out); rintro e w17 ⟨v241, rfl, ho0, hb⟩; refine ⟨_, rfl, ?_⟩; have n0_ := Aside0.mk (Kd.R_below (by (with_reducible repeat ((apply Kd.R_drew))); exact HO239.out) hb); have n1_ := Aside0.mk (Kd.R_lower ho0 (below_size (by repeat ((with_reducible (exact HB.out)))))); have n2_ := Aside0.mk (below_step (by repeat ((with_reducible (exact HB.out)))) hb); clear HO239; clear HB; have HO239 := n0_; have HO242 := n1_; have HB := n2_; clear n0_ n1_ n2_; (try clear hb); (try clear hb2); (try clear hk); (try clear hi); (try clear ho0)))
    go_loopg [10, 11] kj3 (fun kq v10 v11 w' => ∃ (x10_2 : Int) (x11_2 : Int), v10 = .int .i64 x10_2 ∧ v11 = .int .i64 x11_2 ∧ Aside0 (variorumref10_Move.l0 kq a1 a2 t237 t240 x10_2 x11_2 = some (r1, r2)) ∧ Aside0 (kq ≤ kj3) ∧ Aside0 (Kd.R Kd.string 9 w' w.heap.size (fun _ => True) v238 t237) ∧ Aside0 (Kd.R Kd.bool 4 w' w.heap.size (fun _ => True) v241 t240) ∧ Aside0 (Below w.heap.size w w'))
    case atStart => exact ⟨(0), (0), (by (rfl)), (by (rfl)), H', ⟨Nat.le_refl _⟩, ⟨by (with_reducible repeat ((apply Kd.R_drew))); exact HO239.out⟩, ⟨by (with_reducible repeat ((apply Kd.R_drew))); exact HO242.out⟩, ⟨by repeat ((with_reducible (exact HB.out)))⟩⟩
    case round =>
     clear H'
     try clear c1
     try clear p2
     try clear c4
     try clear c5
     try clear c6
     try clear c7
     try clear c7b0
     try clear c13
     try clear c14
     try clear p2
     obtain ⟨x10_2, x11_2, rfl, rfl, HA, HK2, HO_8, HO_9, HB⟩ := hrel
     cases gk with
     | zero => exact absurd HA.out (by simp [variorumref10_Move.l0])
     | succ k2 =>
      have H := HA.out
      clear HA
      simp only [variorumref10_Move.l0] at H
      by_cases c18 : x11_2 < a1
      ·rw [if_pos c18] at H
       have c18b0 : decide (x11_2 < a1) = true := decide_eq_true c18
       clear c18
       by_cases c19 : 0 ≤ x11_2
       ·rw [if_pos c19] at H
        have c19b0 : decide (0 ≤ x11_2) = true := decide_eq_true c19
        clear c19
        by_cases c20 : x11_2 < (t237.length : Int)
        ·rw [if_pos c20] at H
         have c20b0 : decide (x11_2 < (t237.length : Int)) = true := decide_eq_true c20
         clear c20
         by_cases c21 : x11_2 < (t240.length : Int)
         ·rw [if_pos c21] at H
          have c21b0 : decide (x11_2 < (t240.length : Int)) = true := decide_eq_true c21
          clear c21
          obtain ⟨bq22, hbq22⟩ : ∃ b_ : Bool, b_ = (rdOf false t240 x11_2) := ⟨_, rfl⟩
          replace H : (if bq22 = true then (variorumref10_Move.l0 k2 a1 a2 t237 t240 (wrap64 (x10_2 + ((rdOf ByteArray.empty t237 x11_2).size : Int))) (wrap64 (x11_2 + 1))) else (variorumref10_Move.l0 k2 a1 a2 t237 t240 (wrap64 ((wrap64 (x10_2 + ((rdOf ByteArray.empty t237 x11_2).size : Int))) + 1)) (wrap64 (x11_2 + 1)))) = some (r1, r2) := by rw [← hbq22] at H; exact H
          have Nbq22 := Aside0.mk hbq22
          clear hbq22
          by_cases c23 : bq22 = true
          ·subst c23
           have H1 : (variorumref10_Move.l0 k2 a1 a2 t237 t240 (wrap64 (x10_2 + ((rdOf ByteArray.empty t237 x11_2).size : Int))) (wrap64 (x11_2 + 1))) = some (r1, r2) := by rw [if_pos rfl] at H; exact H
           clear H
           have H := H1
           clear H1
           have H' := Aside0.mk H
           clear H
           obtain ⟨Ao24, co24, eo24⟩ := Kd.R_slice HO_8.out
           subst eo24
           have p243 : 0 ≤ (x11_2 : Int) := of_decide_eq_true (by (with_reducible assumption))
           have q243 : x11_2 < (t237.length : Int) := of_decide_eq_true (by (with_reducible assumption))
           obtain ⟨ad243, e243, hx243_0⟩ := Kd.at_string (Kd.R_reads' HO_8.out).2.2 x11_2 p243 q243
           cases e243
           replace p243 := eq_true p243
           replace q243 := eq_true q243
           obtain ⟨Ao25, co25, eo25⟩ := Kd.R_slice HO_9.out
           subst eo25
           have p244 : 0 ≤ (x11_2 : Int) := of_decide_eq_true (by (with_reducible assumption))
           have q244 : x11_2 < (t240.length : Int) := of_decide_eq_true (by (with_reducible assumption))
           obtain ⟨ad244, e244, hx244_0⟩ := Kd.at_bool (Kd.R_reads' HO_9.out).2.2 x11_2 p244 q244
           (try rw [← Nbq22.out] at hx244_0)
           cases e244
           replace p244 := eq_true p244
           replace q244 := eq_true q244
           go_wp2
           go_roundg k2
           case measure => have := HJ3.out; have := HK2.out; omega
           case rel => exact ⟨(wrap64 (x10_2 + ((rdOf ByteArray.empty t237 x11_2).size : Int))), (wrap64 (x11_2 + 1)), (by (rfl)), (by (rfl)), H', ⟨by have := HJ3.out; have := HK2.out; omega⟩, ⟨by (with_reducible repeat ((apply Kd.R_drew))); exact HO_8.out⟩, ⟨by (with_reducible repeat ((apply Kd.R_drew))); exact HO_9.out⟩, ⟨by repeat ((with_reducible (exact HB.out)))⟩⟩
          ·replace c23 := Bool.eq_false_iff.mpr c23
           subst c23
           have H1 : (variorumref10_Move.l0 k2 a1 a2 t237 t240 (wrap64 ((wrap64 (x10_2 + ((rdOf ByteArray.empty t237 x11_2).size : Int))) + 1)) (wrap64 (x11_2 + 1))) = some (r1, r2) := by rw [if_neg (show ¬ (false = true) by decide)] at H; exact H
           clear H
           have H := H1
           clear H1
           have H' := Aside0.mk H
           clear H
           obtain ⟨Ao26, co26, eo26⟩ := Kd.R_slice HO_8.out
           subst eo26
           have p243 : 0 ≤ (x11_2 : Int) := of_decide_eq_true (by (with_reducible assumption))
           have q243 : x11_2 < (t237.length : Int) := of_decide_eq_true (by (with_reducible assumption))
           obtain ⟨ad243, e243, hx243_0⟩ := Kd.at_string (Kd.R_reads' HO_8.out).2.2 x11_2 p243 q243
           cases e243
           replace p243 := eq_true p243
           replace q243 := eq_true q243
           obtain ⟨Ao27, co27, eo27⟩ := Kd.R_slice HO_9.out
           subst eo27
           have p244 : 0 ≤ (x11_2 : Int) := of_decide_eq_true (by (with_reducible assumption))
           have q244 : x11_2 < (t240.length : Int) := of_decide_eq_true (by (with_reducible assumption))
           obtain ⟨ad244, e244, hx244_0⟩ := Kd.at_bool (Kd.R_reads' HO_9.out).2.2 x11_2 p244 q244
           (try rw [← Nbq22.out] at hx244_0)
           cases e244
           replace p244 := eq_true p244
           replace q244 := eq_true q244
           go_wp2
           go_roundg k2
           case measure => have := HJ3.out; have := HK2.out; omega
           case rel => exact ⟨(wrap64 ((wrap64 (x10_2 + ((rdOf ByteArray.empty t237 x11_2).size : Int))) + 1)), (wrap64 (x11_2 + 1)), (by (rfl)), (by (rfl)), H', ⟨by have := HJ3.out; have := HK2.out; omega⟩, ⟨by (with_reducible repeat ((apply Kd.R_drew))); exact HO_8.out⟩, ⟨by (with_reducible repeat ((apply Kd.R_drew))); exact HO_9.out⟩, ⟨by repeat ((with_reducible (exact HB.out)))⟩⟩
         ·rw [if_neg c21] at H
          exact absurd H (by simp)
        ·rw [if_neg c20] at H
         exact absurd H (by simp)
       ·rw [if_neg c19] at H
        exact absurd H (by simp)
      ·rw [if_neg c18] at H
       have c18b0 : decide (x11_2 < a1) = false := decide_eq_false c18
       clear c18
       by_cases c28 : a2 = true
       ·subst c28
        have H1 : (if 0 ≤ a1 then (if a1 < (t237.length : Int) then (some (wrap64 (x10_2 + ((rdOf ByteArray.empty t237 a1).size : Int)), true)) else (none)) else (none)) = some (r1, r2) := by rw [if_pos rfl] at H; exact H
        clear H
        have H := H1
        clear H1
        by_cases c29 : 0 ≤ a1
        ·rw [if_pos c29] at H
         have c29b0 : decide (0 ≤ a1) = true := decide_eq_true c29
         clear c29
         by_cases c30 : a1 < (t237.length : Int)
         ·rw [if_pos c30] at H
          have c30b0 : decide (a1 < (t237.length : Int)) = true := decide_eq_true c30
          clear c30
          simp only [Option.some.injEq, Prod.mk.injEq] at H
          obtain ⟨rfl, rfl⟩ := H
          obtain ⟨Ao31, co31, eo31⟩ := Kd.R_slice HO_8.out
          subst eo31
          have p245 : 0 ≤ (a1 : Int) := of_decide_eq_true (by (with_reducible assumption))
          have q245 : a1 < (t237.length : Int) := of_decide_eq_true (by (with_reducible assumption))
          obtain ⟨ad245, e245, hx245_0⟩ := Kd.at_string (Kd.R_reads' HO_8.out).2.2 a1 p245 q245
          cases e245
          replace p245 := eq_true p245
          replace q245 := eq_true q245
          go_wp2
          go_ret2
          exact ⟨by (rfl), by repeat ((with_reducible (exact HB.out)))⟩
         ·rw [if_neg c30] at H
          exact absurd H (by simp)
        ·rw [if_neg c29] at H
         exact absurd H (by simp)
       ·replace c28 := Bool.eq_false_iff.mpr c28
        subst c28
        have H1 : (some (x10_2, true)) = some (r1, r2) := by rw [if_neg (show ¬ (false = true) by decide)] at H; exact H
        clear H
        have H := H1
        clear H1
        simp only [Option.some.injEq, Prod.mk.injEq] at H
        obtain ⟨rfl, rfl⟩ := H
        go_wp2
        go_ret2
        exact ⟨by (rfl), by repeat ((with_reducible (exact HB.out)))⟩
end Go.Proofs.Ytjbnffadfohofaa.P
end

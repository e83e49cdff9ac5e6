/- Shaken: what the claim's theorem needs of our texts, of the printed ones and of the print's words. -/
import Derived.Test.YtjbnffadfohofaaXCarryWithinB
import Derived.Deep.QuietTactic
import Derived.BigQuiet
import Derived.Laws.EntriesVeiled
-- MERGED YtjbnffadfohofaaPlaceM
section
namespace Go.Proofs.Ytjbnffadfohofaa.PlaceM
open Go.RowKit Go.Shelf Go.Proofs.Ytjbnffadfohofaa.P Go.Proofs.YtjbnffadfohofaaW.PrintWords Go.Proofs.YtjbnffadfohofaaW.PrintLast Go.Proofs.YtjbnffadfohofaaW.PrintMore Go.Proofs.Ytjbnffadfohofaa.Own Go.Proofs.Ytjbnffadfohofaa.EditL Go.Proofs.Ytjbnffadfohofaa.EditK Go.Proofs.Ytjbnffadfohofaa.RangeG Go.Proofs.Ytjbnffadfohofaa.RangeB Go.Proofs.Ytjbnffadfohofaa.EditJ Go.Proofs.Ytjbnffadfohofaa.EditI Go.Proofs.Ytjbnffadfohofaa.EditR Go.Proofs.Ytjbnffadfohofaa.EditF Go.Proofs.Ytjbnffadfohofaa.PlaceI Go.Proofs.Ytjbnffadfohofaa.VaryR
attribute [local go_sem] Oper.semAt_some max2_int min2_int max_two min_two
set_option linter.unusedSimpArgs false
set_option linter.unusedVariables false
def brk (at_ : Int) (behind : Bool) (s : St) : Prop := at_ < s.i ∨ (s.i = at_ ∧ (behind = false ∨ s.r.f1.size = 0))
instance (at_ : Int) (behind : Bool) (s : St) : Decidable (brk at_ behind s) := by unfold brk; infer_instance
def upd (at_ : Int) (s : St) : Int := s.o + (s.r.f1.size : Int) + (if at_ - s.i < s.r.f0 then at_ - s.i else s.r.f0)
def mvS (at_ : Int) (behind : Bool) : List St → Int → Int
 | [], d => d
 | s :: l, d => if brk at_ behind s then d else mvS at_ behind l (upd at_ s)
def moveL (op : List Rn) (at_ : Int) (behind : Bool) : Int × Bool := if good op = true ∧ 0 ≤ at_ ∧ at_ ≤ inL op then (mvS at_ behind (stepsL op 0 0) 0, true) else (0, false)
theorem step_bounds : ∀ (f : List Rn) (i o : Int), (∀ r ∈ f, knd r ≠ 0) → 0 ≤ i → 0 ≤ o → i + inL f ≤ 16777216 → o + outL f ≤ 16777216 → ∀ s ∈ stepsL f i o, 0 ≤ s.i ∧ 0 ≤ s.o ∧ s.i + (s.r.f0 + s.r.f2) ≤ 16777216 ∧ s.o + (s.r.f0 + (s.r.f1.size : Int)) ≤ 16777216 ∧ knd s.r ≠ 0 := by
 intro f
 induction f with
 | nil => intro i o _ _ _ _ _ s hs; cases hs
 | cons r f ih =>
  intro i o hok hi ho h1 h2 s hs
  have hp := knd_pos (hok r List.mem_cons_self)
  have hf := inL_nonneg (l := f) (fun x hx => hok x (List.mem_cons_of_mem _ hx))
  simp only [inL, outL] at h1 h2
  rcases List.mem_cons.1 hs with rfl | hs
  ·exact ⟨hi, ho, by simp only; omega, by simp only; omega, hok r List.mem_cons_self⟩
  ·exact ih _ _ (fun x hx => hok x (List.mem_cons_of_mem _ hx)) (by omega) (by omega) (by omega) (by omega) s hs
set_option maxHeartbeats 1000000 in
set_option maxRecDepth 100000 in
theorem steps_c (A : Option Addr) (n c : Nat) (w : World) : Calls Try.prog 44 #[.slice A n c] w fun e w' => e = .returned (.func (.func 53) #[] #[.pointer (some ⟨w.heap.size, 0, none⟩)]) ∧ w' = w.alloc (.cells #[.slice A n c] 34) := by
 go_enter Try.func44, Try.ntmps44
 go_wp2_with fail
 go_ret
 exact ⟨rfl, rfl⟩
theorem good_c (A0 : Option Addr) (c0 : Nat) (l0 : List Rn) (hc : l0.length ≤ c0) (hl : l0.length ≤ 140737488351232) (W : World) (h : RC W A0 l0) : Calls Try.prog 30 #[.slice A0 l0.length c0] W fun e w' => e = .returned (.bool (good l0)) ∧ Below W.heap.size W w' :=
 edit_Good.calls (l0.length + 1) A0 c0 l0 _ W h hc (good_f hl _ (Nat.lt_succ_self _))
theorem in_c (A0 : Option Addr) (c0 : Nat) (l0 : List Rn) (hc : l0.length ≤ c0) (hl : l0.length ≤ 140737488351232) (hg : good l0 = true) (W : World) (h : RC W A0 l0) : Calls Try.prog 42 #[.slice A0 l0.length c0] W fun e w' => e = .returned (.int .i64 (inL l0)) ∧ Below W.heap.size W w' := by
 have := in_f hl (l0.length + 1) (Nat.lt_succ_self _)
 rw [hg, if_pos rfl] at this
 exact edit_In.calls (l0.length + 1) A0 c0 l0 _ W h hc this
def PlaceM.T1 : Bool × List (List Nat × List Nat) := (true, [([], []), ([0], [0]), ([1], [1]), ([2, 1], [2]), ([3], [3]), ([4, 3], [3, 4]), ([3, 5], [3, 5]), ([6, 3], [6]), ([7], [7]), ([7], [7]), ([9, 7, 7], [7, 9]), ([8, 10, 7], [7, 8, 10]), ([7, 11], [7, 11])])
def PlaceM.B1 : List Nat := [0, 1, 3, 7, 15, 31, 63, 127, 255, 255, 767, 2047, 4095]
theorem PlaceM.tab1 : rtab .any (opsOf Try.f45 1) = PlaceM.T1 := by kernel_rfl
theorem PlaceM.bits1 : waitsOk PlaceM.T1.2 PlaceM.B1 = true := by kernel_rfl
set_option maxHeartbeats 4000000 in
set_option maxRecDepth 100000 in
theorem move_no1 (A0 : Option Addr) (c0 : Nat) (l0 : List Rn) (at_ : Int) (behind : Bool) (w : World) (h : RC w A0 l0) (hc : l0.length ≤ c0) (hl : l0.length ≤ 140737488351232) (hg : good l0 = false) :
  Calls Try.prog 45 #[.slice A0 l0.length c0, .int .i64 at_, .bool behind] w fun e w' => e = .returned (.tuple #[.int .i64 0, .bool false]) ∧ Below w.heap.size w w' := by
 have HG := Aside0.mk (good_c A0 c0 l0 hc hl)
 rw [hg] at HG
 have H0 := Aside0.mk h
 clear h hc hl hg
 go_enter Try.func45, Try.ntmps45
 go_wp2_with fail
 obtain ⟨w2, hw2⟩ : ∃ w2, w2 = (w.alloc (.cells #[.int .i64 at_] 3)).alloc (.cells #[.bool behind] 4) := ⟨_, rfl⟩
 have hb2 : Below w.heap.size w w2 := by rw [hw2]; exact below_alloc (below_alloc (Below.refl _ _) _) _
 have HB := Aside0.mk hb2
 have HR := Aside0.mk (H0.out.below hb2)
 rw [← hw2]
 clear hw2 hb2
 refine start_ (n := 13) (S := fun w' => True) (ds := []) #[false, false, false, false, false, false, false, false, false, false, false, false, false] (by kernel_rfl) rfl rfl trivial (fun hHeld => ?_); refine with_tabW PlaceM.tab1 PlaceM.bits1 (fun HT_ HW_ => ?_)
 refine inv_at [0, 1, 2, 3, 4, 5, 6, 7, 8, 9, 10, 11, 12] (fun a0_ b a w' => a = putSel a0_ b [(0, 10, (.slice A0 l0.length c0)), (1, 11, (.bool false)), (2, 12, (.bool true)), (3, 13, (.bool true)), (4, 14, undef), (5, 15, undef), (6, 16, (.bool true)), (7, 17, (.bool true)), (8, 18, undef), (9, 19, undef), (10, 20, undef), (11, 21, undef), (12, 22, (.bool true))] ∧ (RC w' A0 l0) ∧ (Below w.heap.size w w')) HT_.out HW_.out (by kernel_rfl) (by kernel_rfl) ?_ ?_ ?_
 ·exact ⟨by simp only [putSel, Bool.false_eq_true, if_false], HR.out.below (below_drew1 (Below.refl _ _)), below_drew1 HB.out⟩
 ·skip
  clear HB HR
  refine steps_cons ?_ ?_
  ·rintro b a w' ⟨ha, Q_HR, Q_HB⟩ hb_ hon hoff
   refine ⟨_, rfl, fun K hK => ?_⟩
   have e0 : a.tmps[0]? = some ((.slice A0 l0.length c0)) := by rw [ha]; exact (putSel_off rfl).trans rfl
   replace ha := Aside0.mk ha
   have HR := Aside0.mk Q_HR
   have HB := Aside0.mk Q_HB
   refine value_ (w1 := w') (v := (.slice A0 l0.length c0)) (by rfl) rfl ?_ ?_
   ·go_simp
    (try simp only [i64_w])
    try rfl
   refine hK.out _ _ ⟨(by rw [ha.out]; exact putSel_upk 0 hb_ rfl rfl rfl), Q_HR, Q_HB⟩
  refine steps_cons ?_ ?_
  ·rintro b a w' ⟨ha, Q_HR, Q_HB⟩ hb_ hon hoff
   refine ⟨_, rfl, fun K hK => ?_⟩
   have e10 : a.tmps[10]? = some ((.slice A0 l0.length c0)) := by rw [ha]; exact putSel_on (e := (0, 10, (.slice A0 l0.length c0))) 0 rfl rfl (hon 0 (by kernel_rfl)) rfl
   replace ha := Aside0.mk ha
   have HR := Aside0.mk Q_HR
   have HB := Aside0.mk Q_HB
   refine goes_ Try.func30 (by kernel_rfl) rfl #[.slice A0 l0.length c0] (by rfl) rfl rfl (by first | (simp only [List.map_toArray, List.map_cons, List.map_nil, Act.eval, Array.getD_eq_getD_getElem?, Option.getD_some, e10]; done) | (simp only [List.map_toArray, List.map_cons, List.map_nil, Act.eval, Array.getD_eq_getD_getElem?, Option.getD_some, e10]; rfl)) ?_
   refine (HG.out _ HR.out).mono ?_
   rintro e w1_ ⟨rfl, hb⟩
   refine ⟨_, rfl, ?_⟩
   refine hK.out _ _ ⟨(by rw [ha.out]; exact putSel_upk 1 hb_ rfl rfl rfl), HR.out.below hb, below_step HB.out hb⟩
  refine steps_cons ?_ ?_
  ·rintro b a w' ⟨ha, Q_HR, Q_HB⟩ hb_ hon hoff
   refine ⟨_, rfl, fun K hK => ?_⟩
   have e11 : a.tmps[11]? = some ((.bool false)) := by rw [ha]; exact putSel_on (e := (1, 11, (.bool false))) 1 rfl rfl (hon 1 (by kernel_rfl)) rfl
   replace ha := Aside0.mk ha
   have HR := Aside0.mk Q_HR
   have HB := Aside0.mk Q_HB
   refine value_ (w1 := w') (v := (.bool true)) (by rfl) rfl ?_ ?_
   ·go_simp
    (try simp only [i64_w])
    try rfl
   refine hK.out _ _ ⟨(by rw [ha.out]; exact putSel_upk 2 hb_ rfl rfl rfl), Q_HR, Q_HB⟩
  refine steps_cons ?_ ?_
  ·rintro b a w' ⟨ha, Q_HR, Q_HB⟩ hb_ hon hoff
   refine ⟨_, rfl, fun K hK => ?_⟩
   have e12 : a.tmps[12]? = some ((.bool true)) := by rw [ha]; exact putSel_on (e := (2, 12, (.bool true))) 2 rfl rfl (hon 2 (by kernel_rfl)) rfl
   replace ha := Aside0.mk ha
   have HR := Aside0.mk Q_HR
   have HB := Aside0.mk Q_HB
   refine value_ (w1 := w') (v := (.bool true)) (by rfl) rfl ?_ ?_
   ·go_simp
    (try simp only [i64_w])
    try rfl
   refine hK.out _ _ ⟨(by rw [ha.out]; exact putSel_upk 3 hb_ rfl rfl rfl), Q_HR, Q_HB⟩
  refine steps_cons ?_ ?_
  ·rintro b a w' ⟨ha, Q_HR, Q_HB⟩ hb_ hon hoff
   refine ⟨_, rfl, fun K hK => ?_⟩
   have e13 : a.tmps[13]? = some ((.bool true)) := by rw [ha]; exact putSel_on (e := (3, 13, (.bool true))) 3 rfl rfl (hon 3 (by kernel_rfl)) rfl
   replace ha := Aside0.mk ha
   have HR := Aside0.mk Q_HR
   have HB := Aside0.mk Q_HB
   refine off_ (wanted_off rfl rfl rfl (e13.trans (by first | rfl | (simp [*]; done)))) ?_
   refine hK.out _ _ ⟨(by rw [ha.out]; exact putSel_upk 4 hb_ rfl rfl rfl), Q_HR, Q_HB⟩
  refine steps_cons ?_ ?_
  ·rintro b a w' ⟨ha, Q_HR, Q_HB⟩ hb_ hon hoff
   refine ⟨_, rfl, fun K hK => ?_⟩
   have e13 : a.tmps[13]? = some ((.bool true)) := by rw [ha]; exact putSel_on (e := (3, 13, (.bool true))) 3 rfl rfl (hon 3 (by kernel_rfl)) rfl
   replace ha := Aside0.mk ha
   have HR := Aside0.mk Q_HR
   have HB := Aside0.mk Q_HB
   refine off_ (wanted_off rfl rfl rfl (e13.trans (by first | rfl | (simp [*]; done)))) ?_
   refine hK.out _ _ ⟨(by rw [ha.out]; exact putSel_upk 5 hb_ rfl rfl rfl), Q_HR, Q_HB⟩
  refine steps_cons ?_ ?_
  ·rintro b a w' ⟨ha, Q_HR, Q_HB⟩ hb_ hon hoff
   refine ⟨_, rfl, fun K hK => ?_⟩
   have e13 : a.tmps[13]? = some ((.bool true)) := by rw [ha]; exact putSel_on (e := (3, 13, (.bool true))) 3 rfl rfl (hon 3 (by kernel_rfl)) rfl
   have e15 : a.tmps[15]? = some (undef) := by rw [ha]; exact putSel_on (e := (5, 15, undef)) 5 rfl rfl (hon 5 (by kernel_rfl)) rfl
   replace ha := Aside0.mk ha
   have HR := Aside0.mk Q_HR
   have HB := Aside0.mk Q_HB
   refine value_ (w1 := w') (v := (.bool true)) (by rfl) rfl ?_ ?_
   ·go_simp
    (try simp only [i64_w])
    try rfl
   refine hK.out _ _ ⟨(by rw [ha.out]; exact putSel_upk 6 hb_ rfl rfl rfl), Q_HR, Q_HB⟩
  refine steps_cons ?_ ?_
  ·rintro b a w' ⟨ha, Q_HR, Q_HB⟩ hb_ hon hoff
   refine ⟨_, rfl, fun K hK => ?_⟩
   have e16 : a.tmps[16]? = some ((.bool true)) := by rw [ha]; exact putSel_on (e := (6, 16, (.bool true))) 6 rfl rfl (hon 6 (by kernel_rfl)) rfl
   replace ha := Aside0.mk ha
   have HR := Aside0.mk Q_HR
   have HB := Aside0.mk Q_HB
   refine value_ (w1 := w') (v := (.bool true)) (by rfl) rfl ?_ ?_
   ·go_simp
    (try simp only [i64_w])
    try rfl
   refine hK.out _ _ ⟨(by rw [ha.out]; exact putSel_upk 7 hb_ rfl rfl rfl), Q_HR, Q_HB⟩
  refine steps_cons ?_ ?_
  ·rintro b a w' ⟨ha, Q_HR, Q_HB⟩ hb_ hon hoff
   refine ⟨_, rfl, fun K hK => ?_⟩
   have e17 : a.tmps[17]? = some ((.bool true)) := by rw [ha]; exact putSel_on (e := (7, 17, (.bool true))) 7 rfl rfl (hon 7 (by kernel_rfl)) rfl
   replace ha := Aside0.mk ha
   have HR := Aside0.mk Q_HR
   have HB := Aside0.mk Q_HB
   refine off_ (wanted_off rfl rfl rfl (e17.trans (by first | rfl | (simp [*]; done)))) ?_
   refine hK.out _ _ ⟨(by rw [ha.out]; exact putSel_upk 8 hb_ rfl rfl rfl), Q_HR, Q_HB⟩
  refine steps_cons ?_ ?_
  ·rintro b a w' ⟨ha, Q_HR, Q_HB⟩ hb_ hon hoff
   refine ⟨_, rfl, fun K hK => ?_⟩
   have e17 : a.tmps[17]? = some ((.bool true)) := by rw [ha]; exact putSel_on (e := (7, 17, (.bool true))) 7 rfl rfl (hon 7 (by kernel_rfl)) rfl
   replace ha := Aside0.mk ha
   have HR := Aside0.mk Q_HR
   have HB := Aside0.mk Q_HB
   refine off_ (wanted_off rfl rfl rfl (e17.trans (by first | rfl | (simp [*]; done)))) ?_
   refine hK.out _ _ ⟨(by rw [ha.out]; exact putSel_upk 9 hb_ rfl rfl rfl), Q_HR, Q_HB⟩
  refine steps_cons ?_ ?_
  ·rintro b a w' ⟨ha, Q_HR, Q_HB⟩ hb_ hon hoff
   refine ⟨_, rfl, fun K hK => ?_⟩
   have e17 : a.tmps[17]? = some ((.bool true)) := by rw [ha]; exact putSel_on (e := (7, 17, (.bool true))) 7 rfl rfl (hon 7 (by kernel_rfl)) rfl
   replace ha := Aside0.mk ha
   have HR := Aside0.mk Q_HR
   have HB := Aside0.mk Q_HB
   refine off_ (wanted_off rfl rfl rfl (e17.trans (by first | rfl | (simp [*]; done)))) ?_
   refine hK.out _ _ ⟨(by rw [ha.out]; exact putSel_upk 10 hb_ rfl rfl rfl), Q_HR, Q_HB⟩
  refine steps_cons ?_ ?_
  ·rintro b a w' ⟨ha, Q_HR, Q_HB⟩ hb_ hon hoff
   refine ⟨_, rfl, fun K hK => ?_⟩
   have e17 : a.tmps[17]? = some ((.bool true)) := by rw [ha]; exact putSel_on (e := (7, 17, (.bool true))) 7 rfl rfl (hon 7 (by kernel_rfl)) rfl
   replace ha := Aside0.mk ha
   have HR := Aside0.mk Q_HR
   have HB := Aside0.mk Q_HB
   refine off_ (wanted_off rfl rfl rfl (e17.trans (by first | rfl | (simp [*]; done)))) ?_
   refine hK.out _ _ ⟨(by rw [ha.out]; exact putSel_upk 11 hb_ rfl rfl rfl), Q_HR, Q_HB⟩
  refine steps_cons ?_ ?_
  ·rintro b a w' ⟨ha, Q_HR, Q_HB⟩ hb_ hon hoff
   refine ⟨_, rfl, fun K hK => ?_⟩
   have e17 : a.tmps[17]? = some ((.bool true)) := by rw [ha]; exact putSel_on (e := (7, 17, (.bool true))) 7 rfl rfl (hon 7 (by kernel_rfl)) rfl
   have e21 : a.tmps[21]? = some (undef) := by rw [ha]; exact putSel_on (e := (11, 21, undef)) 11 rfl rfl (hon 11 (by kernel_rfl)) rfl
   replace ha := Aside0.mk ha
   have HR := Aside0.mk Q_HR
   have HB := Aside0.mk Q_HB
   refine value_ (w1 := w') (v := (.bool true)) (by rfl) rfl ?_ ?_
   ·go_simp
    (try simp only [i64_w])
    try rfl
   refine hK.out _ _ ⟨(by rw [ha.out]; exact putSel_upk 12 hb_ rfl rfl rfl), Q_HR, Q_HB⟩
  exact steps_nil
 rintro b a we hall ⟨ha, Q_HR, Q_HB⟩
 clear HB HR
 have hb0_ := hall 0 (by kernel_rfl)
 have hb1_ := hall 1 (by kernel_rfl)
 have hb2_ := hall 2 (by kernel_rfl)
 have hb3_ := hall 3 (by kernel_rfl)
 have hb4_ := hall 4 (by kernel_rfl)
 have hb5_ := hall 5 (by kernel_rfl)
 have hb6_ := hall 6 (by kernel_rfl)
 have hb7_ := hall 7 (by kernel_rfl)
 have hb8_ := hall 8 (by kernel_rfl)
 have hb9_ := hall 9 (by kernel_rfl)
 have hb10_ := hall 10 (by kernel_rfl)
 have hb11_ := hall 11 (by kernel_rfl)
 have hb12_ := hall 12 (by kernel_rfl)
 subst ha
 simp only [putSel, hb0_, hb1_, hb2_, hb3_, hb4_, hb5_, hb6_, hb7_, hb8_, hb9_, hb10_, hb11_, hb12_, if_true, Act.put, List.setIfInBounds_toArray, List.set_cons_zero, List.set_cons_succ]
 have HR := Aside0.mk Q_HR
 clear Q_HR
 have HB := Aside0.mk Q_HB
 clear Q_HB
 clear hall hb0_ hb1_ hb2_ hb3_ hb4_ hb5_ hb6_ hb7_ hb8_ hb9_ hb10_ hb11_ hb12_
 go_wp2_with fail
 go_ret2
 exact ⟨rfl, HB.out⟩
set_option maxHeartbeats 4000000 in
set_option maxRecDepth 100000 in
theorem move_no2 (A0 : Option Addr) (c0 : Nat) (l0 : List Rn) (at_ : Int) (behind : Bool) (w : World) (h : RC w A0 l0) (hc : l0.length ≤ c0) (hl : l0.length ≤ 140737488351232) (hg : good l0 = true) (ha : at_ < 0) :
  Calls Try.prog 45 #[.slice A0 l0.length c0, .int .i64 at_, .bool behind] w fun e w' => e = .returned (.tuple #[.int .i64 0, .bool false]) ∧ Below w.heap.size w w' := by
 have HG := Aside0.mk (good_c A0 c0 l0 hc hl)
 rw [hg] at HG
 have H0 := Aside0.mk h
 clear h hc hl hg
 go_enter Try.func45, Try.ntmps45
 go_wp2_with fail
 obtain ⟨w2, hw2⟩ : ∃ w2, w2 = (w.alloc (.cells #[.int .i64 at_] 3)).alloc (.cells #[.bool behind] 4) := ⟨_, rfl⟩
 have hb2 : Below w.heap.size w w2 := by rw [hw2]; exact below_alloc (below_alloc (Below.refl _ _) _) _
 have HB := Aside0.mk hb2
 have HR := Aside0.mk (H0.out.below hb2)
 have X4 := Aside0.mk (show Boxed w2 w.heap.size 3 (.int .i64 at_) by rw [hw2]; exact (Boxed.new w _ _).alloc _)
 rw [← hw2]
 clear hw2 hb2
 refine start_ (n := 13) (S := fun w' => True) (ds := []) #[false, false, false, false, false, false, false, false, false, false, false, false, false] (by kernel_rfl) rfl rfl trivial (fun hHeld => ?_); refine with_tabW PlaceM.tab1 PlaceM.bits1 (fun HT_ HW_ => ?_)
 refine inv_at [0, 1, 2, 3, 4, 5, 6, 7, 8, 9, 10, 11, 12] (fun a0_ b a w' => a = putSel a0_ b [(0, 10, (.slice A0 l0.length c0)), (1, 11, (.bool true)), (2, 12, (.bool false)), (3, 13, (.bool false)), (4, 14, (.int .i64 at_)), (5, 15, (.bool true)), (6, 16, (.bool true)), (7, 17, (.bool true)), (8, 18, undef), (9, 19, undef), (10, 20, undef), (11, 21, undef), (12, 22, (.bool true))] ∧ (RC w' A0 l0) ∧ (Below w.heap.size w w') ∧ (Boxed w' w.heap.size 3 (.int .i64 at_))) HT_.out HW_.out (by kernel_rfl) (by kernel_rfl) ?_ ?_ ?_
 ·exact ⟨by simp only [putSel, Bool.false_eq_true, if_false], HR.out.below (below_drew1 (Below.refl _ _)), below_drew1 HB.out, X4.out.below (below_drew1 (Below.refl _ _))⟩
 ·skip
  clear HB HR X4
  refine steps_cons ?_ ?_
  ·rintro b a w' ⟨ha, Q_HR, Q_HB, Q_X4⟩ hb_ hon hoff
   refine ⟨_, rfl, fun K hK => ?_⟩
   have e0 : a.tmps[0]? = some ((.slice A0 l0.length c0)) := by rw [ha]; exact (putSel_off rfl).trans rfl
   replace ha := Aside0.mk ha
   have HR := Aside0.mk Q_HR
   have HB := Aside0.mk Q_HB
   have X4 := Aside0.mk Q_X4
   refine value_ (w1 := w') (v := (.slice A0 l0.length c0)) (by rfl) rfl ?_ ?_
   ·go_simp
    (try simp only [i64_w])
    try rfl
   refine hK.out _ _ ⟨(by rw [ha.out]; exact putSel_upk 0 hb_ rfl rfl rfl), Q_HR, Q_HB, Q_X4⟩
  refine steps_cons ?_ ?_
  ·rintro b a w' ⟨ha, Q_HR, Q_HB, Q_X4⟩ hb_ hon hoff
   refine ⟨_, rfl, fun K hK => ?_⟩
   have e10 : a.tmps[10]? = some ((.slice A0 l0.length c0)) := by rw [ha]; exact putSel_on (e := (0, 10, (.slice A0 l0.length c0))) 0 rfl rfl (hon 0 (by kernel_rfl)) rfl
   replace ha := Aside0.mk ha
   have HR := Aside0.mk Q_HR
   have HB := Aside0.mk Q_HB
   have X4 := Aside0.mk Q_X4
   refine goes_ Try.func30 (by kernel_rfl) rfl #[.slice A0 l0.length c0] (by rfl) rfl rfl (by first | (simp only [List.map_toArray, List.map_cons, List.map_nil, Act.eval, Array.getD_eq_getD_getElem?, Option.getD_some, e10]; done) | (simp only [List.map_toArray, List.map_cons, List.map_nil, Act.eval, Array.getD_eq_getD_getElem?, Option.getD_some, e10]; rfl)) ?_
   refine (HG.out _ HR.out).mono ?_
   rintro e w1_ ⟨rfl, hb⟩
   refine ⟨_, rfl, ?_⟩
   refine hK.out _ _ ⟨(by rw [ha.out]; exact putSel_upk 1 hb_ rfl rfl rfl), HR.out.below hb, below_step HB.out hb, X4.out.below hb⟩
  refine steps_cons ?_ ?_
  ·rintro b a w' ⟨ha, Q_HR, Q_HB, Q_X4⟩ hb_ hon hoff
   refine ⟨_, rfl, fun K hK => ?_⟩
   have e11 : a.tmps[11]? = some ((.bool true)) := by rw [ha]; exact putSel_on (e := (1, 11, (.bool true))) 1 rfl rfl (hon 1 (by kernel_rfl)) rfl
   replace ha := Aside0.mk ha
   have HR := Aside0.mk Q_HR
   have HB := Aside0.mk Q_HB
   have X4 := Aside0.mk Q_X4
   refine value_ (w1 := w') (v := (.bool false)) (by rfl) rfl ?_ ?_
   ·go_simp
    (try simp only [i64_w])
    try rfl
   refine hK.out _ _ ⟨(by rw [ha.out]; exact putSel_upk 2 hb_ rfl rfl rfl), Q_HR, Q_HB, Q_X4⟩
  refine steps_cons ?_ ?_
  ·rintro b a w' ⟨ha, Q_HR, Q_HB, Q_X4⟩ hb_ hon hoff
   refine ⟨_, rfl, fun K hK => ?_⟩
   have e12 : a.tmps[12]? = some ((.bool false)) := by rw [ha]; exact putSel_on (e := (2, 12, (.bool false))) 2 rfl rfl (hon 2 (by kernel_rfl)) rfl
   replace ha := Aside0.mk ha
   have HR := Aside0.mk Q_HR
   have HB := Aside0.mk Q_HB
   have X4 := Aside0.mk Q_X4
   refine value_ (w1 := w') (v := (.bool false)) (by rfl) rfl ?_ ?_
   ·go_simp
    (try simp only [i64_w])
    try rfl
   refine hK.out _ _ ⟨(by rw [ha.out]; exact putSel_upk 3 hb_ rfl rfl rfl), Q_HR, Q_HB, Q_X4⟩
  refine steps_cons ?_ ?_
  ·rintro b a w' ⟨ha, Q_HR, Q_HB, Q_X4⟩ hb_ hon hoff
   refine ⟨_, rfl, fun K hK => ?_⟩
   have e4 : a.tmps[4]? = some ((.pointer (some ⟨w.heap.size, 0, none⟩))) := by rw [ha]; exact (putSel_off rfl).trans rfl
   have e13 : a.tmps[13]? = some ((.bool false)) := by rw [ha]; exact putSel_on (e := (3, 13, (.bool false))) 3 rfl rfl (hon 3 (by kernel_rfl)) rfl
   replace ha := Aside0.mk ha
   have HR := Aside0.mk Q_HR
   have HB := Aside0.mk Q_HB
   have X4 := Aside0.mk Q_X4
   have hc_ := X4.out.cell
   refine value_ (w1 := w') (v := (.int .i64 at_)) (wanted_on rfl rfl rfl (e13.trans (by first | rfl | (simp [*]; done)))) rfl ?_ ?_
   ·go_simp
    (try simp only [i64_w])
    try rfl
   refine hK.out _ _ ⟨(by rw [ha.out]; exact putSel_upk 4 hb_ rfl rfl rfl), Q_HR, Q_HB, Q_X4⟩
  refine steps_cons ?_ ?_
  ·rintro b a w' ⟨ha, Q_HR, Q_HB, Q_X4⟩ hb_ hon hoff
   refine ⟨_, rfl, fun K hK => ?_⟩
   have e14 : a.tmps[14]? = some ((.int .i64 at_)) := by rw [ha]; exact putSel_on (e := (4, 14, (.int .i64 at_))) 4 rfl rfl (hon 4 (by kernel_rfl)) rfl
   have e13 : a.tmps[13]? = some ((.bool false)) := by rw [ha]; exact putSel_on (e := (3, 13, (.bool false))) 3 rfl rfl (hon 3 (by kernel_rfl)) rfl
   replace ha := Aside0.mk ha
   have HR := Aside0.mk Q_HR
   have HB := Aside0.mk Q_HB
   have X4 := Aside0.mk Q_X4
   refine value_ (w1 := w') (v := (.bool true)) (wanted_on rfl rfl rfl (e13.trans (by first | rfl | (simp [*]; done)))) rfl ?_ ?_
   ·go_simp
    (try simp only [i64_w])
    try rfl
   refine hK.out _ _ ⟨(by rw [ha.out]; exact putSel_upk 5 hb_ rfl rfl rfl), Q_HR, Q_HB, Q_X4⟩
  refine steps_cons ?_ ?_
  ·rintro b a w' ⟨ha, Q_HR, Q_HB, Q_X4⟩ hb_ hon hoff
   refine ⟨_, rfl, fun K hK => ?_⟩
   have e13 : a.tmps[13]? = some ((.bool false)) := by rw [ha]; exact putSel_on (e := (3, 13, (.bool false))) 3 rfl rfl (hon 3 (by kernel_rfl)) rfl
   have e15 : a.tmps[15]? = some ((.bool true)) := by rw [ha]; exact putSel_on (e := (5, 15, (.bool true))) 5 rfl rfl (hon 5 (by kernel_rfl)) rfl
   replace ha := Aside0.mk ha
   have HR := Aside0.mk Q_HR
   have HB := Aside0.mk Q_HB
   have X4 := Aside0.mk Q_X4
   refine value_ (w1 := w') (v := (.bool true)) (by rfl) rfl ?_ ?_
   ·go_simp
    (try simp only [i64_w])
    try rfl
   refine hK.out _ _ ⟨(by rw [ha.out]; exact putSel_upk 6 hb_ rfl rfl rfl), Q_HR, Q_HB, Q_X4⟩
  refine steps_cons ?_ ?_
  ·rintro b a w' ⟨ha, Q_HR, Q_HB, Q_X4⟩ hb_ hon hoff
   refine ⟨_, rfl, fun K hK => ?_⟩
   have e16 : a.tmps[16]? = some ((.bool true)) := by rw [ha]; exact putSel_on (e := (6, 16, (.bool true))) 6 rfl rfl (hon 6 (by kernel_rfl)) rfl
   replace ha := Aside0.mk ha
   have HR := Aside0.mk Q_HR
   have HB := Aside0.mk Q_HB
   have X4 := Aside0.mk Q_X4
   refine value_ (w1 := w') (v := (.bool true)) (by rfl) rfl ?_ ?_
   ·go_simp
    (try simp only [i64_w])
    try rfl
   refine hK.out _ _ ⟨(by rw [ha.out]; exact putSel_upk 7 hb_ rfl rfl rfl), Q_HR, Q_HB, Q_X4⟩
  refine steps_cons ?_ ?_
  ·rintro b a w' ⟨ha, Q_HR, Q_HB, Q_X4⟩ hb_ hon hoff
   refine ⟨_, rfl, fun K hK => ?_⟩
   have e17 : a.tmps[17]? = some ((.bool true)) := by rw [ha]; exact putSel_on (e := (7, 17, (.bool true))) 7 rfl rfl (hon 7 (by kernel_rfl)) rfl
   replace ha := Aside0.mk ha
   have HR := Aside0.mk Q_HR
   have HB := Aside0.mk Q_HB
   have X4 := Aside0.mk Q_X4
   refine off_ (wanted_off rfl rfl rfl (e17.trans (by first | rfl | (simp [*]; done)))) ?_
   refine hK.out _ _ ⟨(by rw [ha.out]; exact putSel_upk 8 hb_ rfl rfl rfl), Q_HR, Q_HB, Q_X4⟩
  refine steps_cons ?_ ?_
  ·rintro b a w' ⟨ha, Q_HR, Q_HB, Q_X4⟩ hb_ hon hoff
   refine ⟨_, rfl, fun K hK => ?_⟩
   have e17 : a.tmps[17]? = some ((.bool true)) := by rw [ha]; exact putSel_on (e := (7, 17, (.bool true))) 7 rfl rfl (hon 7 (by kernel_rfl)) rfl
   replace ha := Aside0.mk ha
   have HR := Aside0.mk Q_HR
   have HB := Aside0.mk Q_HB
   have X4 := Aside0.mk Q_X4
   refine off_ (wanted_off rfl rfl rfl (e17.trans (by first | rfl | (simp [*]; done)))) ?_
   refine hK.out _ _ ⟨(by rw [ha.out]; exact putSel_upk 9 hb_ rfl rfl rfl), Q_HR, Q_HB, Q_X4⟩
  refine steps_cons ?_ ?_
  ·rintro b a w' ⟨ha, Q_HR, Q_HB, Q_X4⟩ hb_ hon hoff
   refine ⟨_, rfl, fun K hK => ?_⟩
   have e17 : a.tmps[17]? = some ((.bool true)) := by rw [ha]; exact putSel_on (e := (7, 17, (.bool true))) 7 rfl rfl (hon 7 (by kernel_rfl)) rfl
   replace ha := Aside0.mk ha
   have HR := Aside0.mk Q_HR
   have HB := Aside0.mk Q_HB
   have X4 := Aside0.mk Q_X4
   refine off_ (wanted_off rfl rfl rfl (e17.trans (by first | rfl | (simp [*]; done)))) ?_
   refine hK.out _ _ ⟨(by rw [ha.out]; exact putSel_upk 10 hb_ rfl rfl rfl), Q_HR, Q_HB, Q_X4⟩
  refine steps_cons ?_ ?_
  ·rintro b a w' ⟨ha, Q_HR, Q_HB, Q_X4⟩ hb_ hon hoff
   refine ⟨_, rfl, fun K hK => ?_⟩
   have e17 : a.tmps[17]? = some ((.bool true)) := by rw [ha]; exact putSel_on (e := (7, 17, (.bool true))) 7 rfl rfl (hon 7 (by kernel_rfl)) rfl
   replace ha := Aside0.mk ha
   have HR := Aside0.mk Q_HR
   have HB := Aside0.mk Q_HB
   have X4 := Aside0.mk Q_X4
   refine off_ (wanted_off rfl rfl rfl (e17.trans (by first | rfl | (simp [*]; done)))) ?_
   refine hK.out _ _ ⟨(by rw [ha.out]; exact putSel_upk 11 hb_ rfl rfl rfl), Q_HR, Q_HB, Q_X4⟩
  refine steps_cons ?_ ?_
  ·rintro b a w' ⟨ha, Q_HR, Q_HB, Q_X4⟩ hb_ hon hoff
   refine ⟨_, rfl, fun K hK => ?_⟩
   have e17 : a.tmps[17]? = some ((.bool true)) := by rw [ha]; exact putSel_on (e := (7, 17, (.bool true))) 7 rfl rfl (hon 7 (by kernel_rfl)) rfl
   have e21 : a.tmps[21]? = some (undef) := by rw [ha]; exact putSel_on (e := (11, 21, undef)) 11 rfl rfl (hon 11 (by kernel_rfl)) rfl
   replace ha := Aside0.mk ha
   have HR := Aside0.mk Q_HR
   have HB := Aside0.mk Q_HB
   have X4 := Aside0.mk Q_X4
   refine value_ (w1 := w') (v := (.bool true)) (by rfl) rfl ?_ ?_
   ·go_simp
    (try simp only [i64_w])
    try rfl
   refine hK.out _ _ ⟨(by rw [ha.out]; exact putSel_upk 12 hb_ rfl rfl rfl), Q_HR, Q_HB, Q_X4⟩
  exact steps_nil
 rintro b a we hall ⟨ha, Q_HR, Q_HB, Q_X4⟩
 clear HB HR X4
 have hb0_ := hall 0 (by kernel_rfl)
 have hb1_ := hall 1 (by kernel_rfl)
 have hb2_ := hall 2 (by kernel_rfl)
 have hb3_ := hall 3 (by kernel_rfl)
 have hb4_ := hall 4 (by kernel_rfl)
 have hb5_ := hall 5 (by kernel_rfl)
 have hb6_ := hall 6 (by kernel_rfl)
 have hb7_ := hall 7 (by kernel_rfl)
 have hb8_ := hall 8 (by kernel_rfl)
 have hb9_ := hall 9 (by kernel_rfl)
 have hb10_ := hall 10 (by kernel_rfl)
 have hb11_ := hall 11 (by kernel_rfl)
 have hb12_ := hall 12 (by kernel_rfl)
 subst ha
 simp only [putSel, hb0_, hb1_, hb2_, hb3_, hb4_, hb5_, hb6_, hb7_, hb8_, hb9_, hb10_, hb11_, hb12_, if_true, Act.put, List.setIfInBounds_toArray, List.set_cons_zero, List.set_cons_succ]
 have HR := Aside0.mk Q_HR
 clear Q_HR
 have HB := Aside0.mk Q_HB
 clear Q_HB
 have X4 := Aside0.mk Q_X4
 clear Q_X4
 clear hall hb0_ hb1_ hb2_ hb3_ hb4_ hb5_ hb6_ hb7_ hb8_ hb9_ hb10_ hb11_ hb12_
 go_wp2_with fail
 go_ret2
 exact ⟨rfl, HB.out⟩
set_option maxHeartbeats 4000000 in
set_option maxRecDepth 100000 in
theorem move_no3 (A0 : Option Addr) (c0 : Nat) (l0 : List Rn) (at_ : Int) (behind : Bool) (w : World) (h : RC w A0 l0) (hc : l0.length ≤ c0) (hl : l0.length ≤ 140737488351232) (hg : good l0 = true) (ha : 0 ≤ at_) (hi : inL l0 < at_) :
  Calls Try.prog 45 #[.slice A0 l0.length c0, .int .i64 at_, .bool behind] w fun e w' => e = .returned (.tuple #[.int .i64 0, .bool false]) ∧ Below w.heap.size w w' := by
 have HG := Aside0.mk (good_c A0 c0 l0 hc hl)
 have HI := Aside0.mk (in_c A0 c0 l0 hc hl hg)
 rw [hg] at HG
 have H0 := Aside0.mk h
 have a1 : decide (at_ < 0) = false := by simp; omega
 have a2 : decide (inL l0 < at_) = true := by simpa using hi
 clear h hc hl hg
 go_enter Try.func45, Try.ntmps45
 go_wp2_with fail
 obtain ⟨w2, hw2⟩ : ∃ w2, w2 = (w.alloc (.cells #[.int .i64 at_] 3)).alloc (.cells #[.bool behind] 4) := ⟨_, rfl⟩
 have hb2 : Below w.heap.size w w2 := by rw [hw2]; exact below_alloc (below_alloc (Below.refl _ _) _) _
 have HB := Aside0.mk hb2
 have HR := Aside0.mk (H0.out.below hb2)
 have X4 := Aside0.mk (show Boxed w2 w.heap.size 3 (.int .i64 at_) by rw [hw2]; exact (Boxed.new w _ _).alloc _)
 rw [← hw2]
 clear hw2 hb2
 refine start_ (n := 13) (S := fun w' => True) (ds := []) #[false, false, false, false, false, false, false, false, false, false, false, false, false] (by kernel_rfl) rfl rfl trivial (fun hHeld => ?_); refine with_tabW PlaceM.tab1 PlaceM.bits1 (fun HT_ HW_ => ?_)
 refine inv_at [0, 1, 2, 3, 4, 5, 6, 7, 8, 9, 10, 11, 12] (fun a0_ b a w' => a = putSel a0_ b [(0, 10, (.slice A0 l0.length c0)), (1, 11, (.bool true)), (2, 12, (.bool false)), (3, 13, (.bool false)), (4, 14, (.int .i64 at_)), (5, 15, (.bool false)), (6, 16, (.bool false)), (7, 17, (.bool false)), (8, 18, (.int .i64 at_)), (9, 19, (.slice A0 l0.length c0)), (10, 20, (.int .i64 (inL l0))), (11, 21, (.bool true)), (12, 22, (.bool true))] ∧ (RC w' A0 l0) ∧ (Below w.heap.size w w') ∧ (Boxed w' w.heap.size 3 (.int .i64 at_))) HT_.out HW_.out (by kernel_rfl) (by kernel_rfl) ?_ ?_ ?_
 ·exact ⟨by simp only [putSel, Bool.false_eq_true, if_false], HR.out.below (below_drew1 (Below.refl _ _)), below_drew1 HB.out, X4.out.below (below_drew1 (Below.refl _ _))⟩
 ·skip
  clear HB HR X4
  refine steps_cons ?_ ?_
  ·rintro b a w' ⟨ha, Q_HR, Q_HB, Q_X4⟩ hb_ hon hoff
   refine ⟨_, rfl, fun K hK => ?_⟩
   have e0 : a.tmps[0]? = some ((.slice A0 l0.length c0)) := by rw [ha]; exact (putSel_off rfl).trans rfl
   replace ha := Aside0.mk ha
   have HR := Aside0.mk Q_HR
   have HB := Aside0.mk Q_HB
   have X4 := Aside0.mk Q_X4
   refine value_ (w1 := w') (v := (.slice A0 l0.length c0)) (by rfl) rfl ?_ ?_
   ·go_simp
    (try simp only [i64_w])
    try rfl
   refine hK.out _ _ ⟨(by rw [ha.out]; exact putSel_upk 0 hb_ rfl rfl rfl), Q_HR, Q_HB, Q_X4⟩
  refine steps_cons ?_ ?_
  ·rintro b a w' ⟨ha, Q_HR, Q_HB, Q_X4⟩ hb_ hon hoff
   refine ⟨_, rfl, fun K hK => ?_⟩
   have e10 : a.tmps[10]? = some ((.slice A0 l0.length c0)) := by rw [ha]; exact putSel_on (e := (0, 10, (.slice A0 l0.length c0))) 0 rfl rfl (hon 0 (by kernel_rfl)) rfl
   replace ha := Aside0.mk ha
   have HR := Aside0.mk Q_HR
   have HB := Aside0.mk Q_HB
   have X4 := Aside0.mk Q_X4
   refine goes_ Try.func30 (by kernel_rfl) rfl #[.slice A0 l0.length c0] (by rfl) rfl rfl (by first | (simp only [List.map_toArray, List.map_cons, List.map_nil, Act.eval, Array.getD_eq_getD_getElem?, Option.getD_some, e10]; done) | (simp only [List.map_toArray, List.map_cons, List.map_nil, Act.eval, Array.getD_eq_getD_getElem?, Option.getD_some, e10]; rfl)) ?_
   refine (HG.out _ HR.out).mono ?_
   rintro e w1_ ⟨rfl, hb⟩
   refine ⟨_, rfl, ?_⟩
   refine hK.out _ _ ⟨(by rw [ha.out]; exact putSel_upk 1 hb_ rfl rfl rfl), HR.out.below hb, below_step HB.out hb, X4.out.below hb⟩
  refine steps_cons ?_ ?_
  ·rintro b a w' ⟨ha, Q_HR, Q_HB, Q_X4⟩ hb_ hon hoff
   refine ⟨_, rfl, fun K hK => ?_⟩
   have e11 : a.tmps[11]? = some ((.bool true)) := by rw [ha]; exact putSel_on (e := (1, 11, (.bool true))) 1 rfl rfl (hon 1 (by kernel_rfl)) rfl
   replace ha := Aside0.mk ha
   have HR := Aside0.mk Q_HR
   have HB := Aside0.mk Q_HB
   have X4 := Aside0.mk Q_X4
   refine value_ (w1 := w') (v := (.bool false)) (by rfl) rfl ?_ ?_
   ·go_simp
    (try simp only [i64_w])
    try rfl
   refine hK.out _ _ ⟨(by rw [ha.out]; exact putSel_upk 2 hb_ rfl rfl rfl), Q_HR, Q_HB, Q_X4⟩
  refine steps_cons ?_ ?_
  ·rintro b a w' ⟨ha, Q_HR, Q_HB, Q_X4⟩ hb_ hon hoff
   refine ⟨_, rfl, fun K hK => ?_⟩
   have e12 : a.tmps[12]? = some ((.bool false)) := by rw [ha]; exact putSel_on (e := (2, 12, (.bool false))) 2 rfl rfl (hon 2 (by kernel_rfl)) rfl
   replace ha := Aside0.mk ha
   have HR := Aside0.mk Q_HR
   have HB := Aside0.mk Q_HB
   have X4 := Aside0.mk Q_X4
   refine value_ (w1 := w') (v := (.bool false)) (by rfl) rfl ?_ ?_
   ·go_simp
    (try simp only [i64_w])
    try rfl
   refine hK.out _ _ ⟨(by rw [ha.out]; exact putSel_upk 3 hb_ rfl rfl rfl), Q_HR, Q_HB, Q_X4⟩
  refine steps_cons ?_ ?_
  ·rintro b a w' ⟨ha, Q_HR, Q_HB, Q_X4⟩ hb_ hon hoff
   refine ⟨_, rfl, fun K hK => ?_⟩
   have e4 : a.tmps[4]? = some ((.pointer (some ⟨w.heap.size, 0, none⟩))) := by rw [ha]; exact (putSel_off rfl).trans rfl
   have e13 : a.tmps[13]? = some ((.bool false)) := by rw [ha]; exact putSel_on (e := (3, 13, (.bool false))) 3 rfl rfl (hon 3 (by kernel_rfl)) rfl
   replace ha := Aside0.mk ha
   have HR := Aside0.mk Q_HR
   have HB := Aside0.mk Q_HB
   have X4 := Aside0.mk Q_X4
   have hc_ := X4.out.cell
   refine value_ (w1 := w') (v := (.int .i64 at_)) (wanted_on rfl rfl rfl (e13.trans (by first | rfl | (simp [*]; done)))) rfl ?_ ?_
   ·go_simp
    (try simp only [i64_w])
    try rfl
   refine hK.out _ _ ⟨(by rw [ha.out]; exact putSel_upk 4 hb_ rfl rfl rfl), Q_HR, Q_HB, Q_X4⟩
  refine steps_cons ?_ ?_
  ·rintro b a w' ⟨ha, Q_HR, Q_HB, Q_X4⟩ hb_ hon hoff
   refine ⟨_, rfl, fun K hK => ?_⟩
   have e14 : a.tmps[14]? = some ((.int .i64 at_)) := by rw [ha]; exact putSel_on (e := (4, 14, (.int .i64 at_))) 4 rfl rfl (hon 4 (by kernel_rfl)) rfl
   have e13 : a.tmps[13]? = some ((.bool false)) := by rw [ha]; exact putSel_on (e := (3, 13, (.bool false))) 3 rfl rfl (hon 3 (by kernel_rfl)) rfl
   replace ha := Aside0.mk ha
   have HR := Aside0.mk Q_HR
   have HB := Aside0.mk Q_HB
   have X4 := Aside0.mk Q_X4
   refine value_ (w1 := w') (v := (.bool false)) (wanted_on rfl rfl rfl (e13.trans (by first | rfl | (simp [*]; done)))) rfl ?_ ?_
   ·go_simp
    (try simp only [i64_w])
    try rfl
   refine hK.out _ _ ⟨(by rw [ha.out]; exact putSel_upk 5 hb_ rfl rfl rfl), Q_HR, Q_HB, Q_X4⟩
  refine steps_cons ?_ ?_
  ·rintro b a w' ⟨ha, Q_HR, Q_HB, Q_X4⟩ hb_ hon hoff
   refine ⟨_, rfl, fun K hK => ?_⟩
   have e13 : a.tmps[13]? = some ((.bool false)) := by rw [ha]; exact putSel_on (e := (3, 13, (.bool false))) 3 rfl rfl (hon 3 (by kernel_rfl)) rfl
   have e15 : a.tmps[15]? = some ((.bool false)) := by rw [ha]; exact putSel_on (e := (5, 15, (.bool false))) 5 rfl rfl (hon 5 (by kernel_rfl)) rfl
   replace ha := Aside0.mk ha
   have HR := Aside0.mk Q_HR
   have HB := Aside0.mk Q_HB
   have X4 := Aside0.mk Q_X4
   refine value_ (w1 := w') (v := (.bool false)) (by rfl) rfl ?_ ?_
   ·go_simp
    (try simp only [i64_w])
    try rfl
   refine hK.out _ _ ⟨(by rw [ha.out]; exact putSel_upk 6 hb_ rfl rfl rfl), Q_HR, Q_HB, Q_X4⟩
  refine steps_cons ?_ ?_
  ·rintro b a w' ⟨ha, Q_HR, Q_HB, Q_X4⟩ hb_ hon hoff
   refine ⟨_, rfl, fun K hK => ?_⟩
   have e16 : a.tmps[16]? = some ((.bool false)) := by rw [ha]; exact putSel_on (e := (6, 16, (.bool false))) 6 rfl rfl (hon 6 (by kernel_rfl)) rfl
   replace ha := Aside0.mk ha
   have HR := Aside0.mk Q_HR
   have HB := Aside0.mk Q_HB
   have X4 := Aside0.mk Q_X4
   refine value_ (w1 := w') (v := (.bool false)) (by rfl) rfl ?_ ?_
   ·go_simp
    (try simp only [i64_w])
    try rfl
   refine hK.out _ _ ⟨(by rw [ha.out]; exact putSel_upk 7 hb_ rfl rfl rfl), Q_HR, Q_HB, Q_X4⟩
  refine steps_cons ?_ ?_
  ·rintro b a w' ⟨ha, Q_HR, Q_HB, Q_X4⟩ hb_ hon hoff
   refine ⟨_, rfl, fun K hK => ?_⟩
   have e4 : a.tmps[4]? = some ((.pointer (some ⟨w.heap.size, 0, none⟩))) := by rw [ha]; exact (putSel_off rfl).trans rfl
   have e17 : a.tmps[17]? = some ((.bool false)) := by rw [ha]; exact putSel_on (e := (7, 17, (.bool false))) 7 rfl rfl (hon 7 (by kernel_rfl)) rfl
   replace ha := Aside0.mk ha
   have HR := Aside0.mk Q_HR
   have HB := Aside0.mk Q_HB
   have X4 := Aside0.mk Q_X4
   have hc_ := X4.out.cell
   refine value_ (w1 := w') (v := (.int .i64 at_)) (wanted_on rfl rfl rfl (e17.trans (by first | rfl | (simp [*]; done)))) rfl ?_ ?_
   ·go_simp
    (try simp only [i64_w])
    try rfl
   refine hK.out _ _ ⟨(by rw [ha.out]; exact putSel_upk 8 hb_ rfl rfl rfl), Q_HR, Q_HB, Q_X4⟩
  refine steps_cons ?_ ?_
  ·rintro b a w' ⟨ha, Q_HR, Q_HB, Q_X4⟩ hb_ hon hoff
   refine ⟨_, rfl, fun K hK => ?_⟩
   have e0 : a.tmps[0]? = some ((.slice A0 l0.length c0)) := by rw [ha]; exact (putSel_off rfl).trans rfl
   have e17 : a.tmps[17]? = some ((.bool false)) := by rw [ha]; exact putSel_on (e := (7, 17, (.bool false))) 7 rfl rfl (hon 7 (by kernel_rfl)) rfl
   replace ha := Aside0.mk ha
   have HR := Aside0.mk Q_HR
   have HB := Aside0.mk Q_HB
   have X4 := Aside0.mk Q_X4
   refine value_ (w1 := w') (v := (.slice A0 l0.length c0)) (wanted_on rfl rfl rfl (e17.trans (by first | rfl | (simp [*]; done)))) rfl ?_ ?_
   ·go_simp
    (try simp only [i64_w])
    try rfl
   refine hK.out _ _ ⟨(by rw [ha.out]; exact putSel_upk 9 hb_ rfl rfl rfl), Q_HR, Q_HB, Q_X4⟩
  refine steps_cons ?_ ?_
  ·rintro b a w' ⟨ha, Q_HR, Q_HB, Q_X4⟩ hb_ hon hoff
   refine ⟨_, rfl, fun K hK => ?_⟩
   have e19 : a.tmps[19]? = some ((.slice A0 l0.length c0)) := by rw [ha]; exact putSel_on (e := (9, 19, (.slice A0 l0.length c0))) 9 rfl rfl (hon 9 (by kernel_rfl)) rfl
   have e17 : a.tmps[17]? = some ((.bool false)) := by rw [ha]; exact putSel_on (e := (7, 17, (.bool false))) 7 rfl rfl (hon 7 (by kernel_rfl)) rfl
   replace ha := Aside0.mk ha
   have HR := Aside0.mk Q_HR
   have HB := Aside0.mk Q_HB
   have X4 := Aside0.mk Q_X4
   refine goes_ Try.func42 (by kernel_rfl) rfl #[.slice A0 l0.length c0] (wanted_on rfl rfl rfl (e17.trans (by first | rfl | (simp [*]; done)))) rfl rfl (by first | (simp only [List.map_toArray, List.map_cons, List.map_nil, Act.eval, Array.getD_eq_getD_getElem?, Option.getD_some, e19, e17]; done) | (simp only [List.map_toArray, List.map_cons, List.map_nil, Act.eval, Array.getD_eq_getD_getElem?, Option.getD_some, e19, e17]; rfl)) ?_
   refine (HI.out _ HR.out).mono ?_
   rintro e w1_ ⟨rfl, hb⟩
   refine ⟨_, rfl, ?_⟩
   refine hK.out _ _ ⟨(by rw [ha.out]; exact putSel_upk 10 hb_ rfl rfl rfl), HR.out.below hb, below_step HB.out hb, X4.out.below hb⟩
  refine steps_cons ?_ ?_
  ·rintro b a w' ⟨ha, Q_HR, Q_HB, Q_X4⟩ hb_ hon hoff
   refine ⟨_, rfl, fun K hK => ?_⟩
   have e18 : a.tmps[18]? = some ((.int .i64 at_)) := by rw [ha]; exact putSel_on (e := (8, 18, (.int .i64 at_))) 8 rfl rfl (hon 8 (by kernel_rfl)) rfl
   have e20 : a.tmps[20]? = some ((.int .i64 (inL l0))) := by rw [ha]; exact putSel_on (e := (10, 20, (.int .i64 (inL l0)))) 10 rfl rfl (hon 10 (by kernel_rfl)) rfl
   have e17 : a.tmps[17]? = some ((.bool false)) := by rw [ha]; exact putSel_on (e := (7, 17, (.bool false))) 7 rfl rfl (hon 7 (by kernel_rfl)) rfl
   replace ha := Aside0.mk ha
   have HR := Aside0.mk Q_HR
   have HB := Aside0.mk Q_HB
   have X4 := Aside0.mk Q_X4
   refine value_ (w1 := w') (v := (.bool true)) (wanted_on rfl rfl rfl (e17.trans (by first | rfl | (simp [*]; done)))) rfl ?_ ?_
   ·go_simp
    (try simp only [i64_w])
    try rfl
   refine hK.out _ _ ⟨(by rw [ha.out]; exact putSel_upk 11 hb_ rfl rfl rfl), Q_HR, Q_HB, Q_X4⟩
  refine steps_cons ?_ ?_
  ·rintro b a w' ⟨ha, Q_HR, Q_HB, Q_X4⟩ hb_ hon hoff
   refine ⟨_, rfl, fun K hK => ?_⟩
   have e17 : a.tmps[17]? = some ((.bool false)) := by rw [ha]; exact putSel_on (e := (7, 17, (.bool false))) 7 rfl rfl (hon 7 (by kernel_rfl)) rfl
   have e21 : a.tmps[21]? = some ((.bool true)) := by rw [ha]; exact putSel_on (e := (11, 21, (.bool true))) 11 rfl rfl (hon 11 (by kernel_rfl)) rfl
   replace ha := Aside0.mk ha
   have HR := Aside0.mk Q_HR
   have HB := Aside0.mk Q_HB
   have X4 := Aside0.mk Q_X4
   refine value_ (w1 := w') (v := (.bool true)) (by rfl) rfl ?_ ?_
   ·go_simp
    (try simp only [i64_w])
    try rfl
   refine hK.out _ _ ⟨(by rw [ha.out]; exact putSel_upk 12 hb_ rfl rfl rfl), Q_HR, Q_HB, Q_X4⟩
  exact steps_nil
 rintro b a we hall ⟨ha, Q_HR, Q_HB, Q_X4⟩
 clear HB HR X4
 have hb0_ := hall 0 (by kernel_rfl)
 have hb1_ := hall 1 (by kernel_rfl)
 have hb2_ := hall 2 (by kernel_rfl)
 have hb3_ := hall 3 (by kernel_rfl)
 have hb4_ := hall 4 (by kernel_rfl)
 have hb5_ := hall 5 (by kernel_rfl)
 have hb6_ := hall 6 (by kernel_rfl)
 have hb7_ := hall 7 (by kernel_rfl)
 have hb8_ := hall 8 (by kernel_rfl)
 have hb9_ := hall 9 (by kernel_rfl)
 have hb10_ := hall 10 (by kernel_rfl)
 have hb11_ := hall 11 (by kernel_rfl)
 have hb12_ := hall 12 (by kernel_rfl)
 subst ha
 simp only [putSel, hb0_, hb1_, hb2_, hb3_, hb4_, hb5_, hb6_, hb7_, hb8_, hb9_, hb10_, hb11_, hb12_, if_true, Act.put, List.setIfInBounds_toArray, List.set_cons_zero, List.set_cons_succ]
 have HR := Aside0.mk Q_HR
 clear Q_HR
 have HB := Aside0.mk Q_HB
 clear Q_HB
 have X4 := Aside0.mk Q_X4
 clear Q_X4
 clear hall hb0_ hb1_ hb2_ hb3_ hb4_ hb5_ hb6_ hb7_ hb8_ hb9_ hb10_ hb11_ hb12_
 go_wp2_with fail
 go_ret2
 exact ⟨rfl, HB.out⟩
def MovePost (v : Int) (w : World) (e : Ending) (w' : World) : Prop := e = .returned (.tuple #[.int .i64 v, .bool true]) ∧ Below w.heap.size w w'
set_option maxHeartbeats 8000000 in
set_option maxRecDepth 100000 in
theorem move_yes (A0 : Option Addr) (c0 : Nat) (l0 : List Rn) (at_ : Int) (behind : Bool) (w : World) (h : RC w A0 l0) (hc : l0.length ≤ c0) (hl : l0.length ≤ 140737488351232) (hg : good l0 = true) (ha : 0 ≤ at_) (hi : at_ ≤ inL l0) :
  Calls Try.prog 45 #[.slice A0 l0.length c0, .int .i64 at_, .bool behind] w (MovePost (mvS at_ behind (stepsL l0 0 0) 0) w) := by
 refine (callsIn_wide (n := 12)).1 ?_
 have HG := Aside0.mk (good_c A0 c0 l0 hc hl)
 have HI := Aside0.mk (in_c A0 c0 l0 hc hl hg)
 rw [hg] at HG
 obtain ⟨g1, g2, g3, g4⟩ := good_ok hg
 have gs := (fits_iff g4 0 0 (by decide) (by decide)).1 g3
 have HOK := Aside0.mk g4
 have HSM := Aside0.mk (show Sums 0 0 E l0 from ⟨by decide, by decide, by omega, by rw [E_size]; omega⟩)
 have HLEN := Aside0.mk g2
 have hM : at_ ≤ 16777216 := by omega
 have H0 := Aside0.mk h
 have HA := Aside0.mk (RC.lt h)
 have a1 : decide (at_ < 0) = false := by simp; omega
 have a2 : decide (inL l0 < at_) = false := by simpa using hi
 obtain ⟨V, hV⟩ : ∃ V, V = mvS at_ behind (stepsL l0 0 0) 0 := ⟨_, rfl⟩
 rw [← hV]
 have HV := Aside0.mk hV
 clear h hc hl hg g1 g2 g3 g4 gs hV hi
 refine callsIn_of_wp_marks Try.func45 rfl trivial ?_ rfl
 simp only [Try.ntmps45, List.size_toArray, List.length_cons, List.length_nil, Nat.reduceAdd, Nat.reduceSub, Array.replicate_succ, Array.replicate_zero, List.push_toArray, List.append_toArray, List.nil_append, List.cons_append]
 gi_wp2
 obtain ⟨w2, hw2⟩ : ∃ w2, w2 = (w.alloc (.cells #[.int .i64 at_] 3)).alloc (.cells #[.bool behind] 4) := ⟨_, rfl⟩
 have hb2 : Below w.heap.size w w2 := by rw [hw2]; exact below_alloc (below_alloc (Below.refl _ _) _) _
 have HB := Aside0.mk hb2
 have HR := Aside0.mk (H0.out.below hb2)
 have X4 := Aside0.mk (show Boxed w2 w.heap.size 3 (.int .i64 at_) by rw [hw2]; exact (Boxed.new w _ _).alloc _)
 have X5 := Aside0.mk (show Boxed w2 (w.heap.size + 1) 4 (.bool behind) by
  rw [hw2]
  have := Boxed.new (w.alloc (.cells #[.int .i64 at_] 3)) 4 (.bool behind)
  rwa [World.size_alloc] at this)
 rw [← hw2]
 clear hw2 hb2
 refine wpIn_wide.2 ?_
 refine start_ (n := 13) (S := fun w' => True) (ds := []) #[false, false, false, false, false, false, false, false, false, false, false, false, false] (by kernel_rfl) rfl rfl trivial (fun hHeld => ?_); refine with_tabW PlaceM.tab1 PlaceM.bits1 (fun HT_ HW_ => ?_)
 refine inv_at [0, 1, 2, 3, 4, 5, 6, 7, 8, 9, 10, 11, 12] (fun a0_ b a w' => a = putSel a0_ b [(0, 10, (.slice A0 l0.length c0)), (1, 11, (.bool true)), (2, 12, (.bool false)), (3, 13, (.bool false)), (4, 14, (.int .i64 at_)), (5, 15, (.bool false)), (6, 16, (.bool false)), (7, 17, (.bool false)), (8, 18, (.int .i64 at_)), (9, 19, (.slice A0 l0.length c0)), (10, 20, (.int .i64 (inL l0))), (11, 21, (.bool false)), (12, 22, (.bool false))] ∧ (RC w' A0 l0) ∧ (Below w.heap.size w w') ∧ (Boxed w' w.heap.size 3 (.int .i64 at_)) ∧ (Boxed w' (w.heap.size + 1) 4 (.bool behind))) HT_.out HW_.out (by kernel_rfl) (by kernel_rfl) ?_ ?_ ?_
 ·exact ⟨by simp only [putSel, Bool.false_eq_true, if_false], HR.out.below (below_drew1 (Below.refl _ _)), below_drew1 HB.out, X4.out.below (below_drew1 (Below.refl _ _)), X5.out.below (below_drew1 (Below.refl _ _))⟩
 ·skip
  clear HB HR X4 X5
  refine steps_cons ?_ ?_
  ·rintro b a w' ⟨ha, Q_HR, Q_HB, Q_X4, Q_X5⟩ hb_ hon hoff
   refine ⟨_, rfl, fun K hK => ?_⟩
   have e0 : a.tmps[0]? = some ((.slice A0 l0.length c0)) := by rw [ha]; exact (putSel_off rfl).trans rfl
   replace ha := Aside0.mk ha
   have HR := Aside0.mk Q_HR
   have HB := Aside0.mk Q_HB
   have X4 := Aside0.mk Q_X4
   have X5 := Aside0.mk Q_X5
   refine value_ (w1 := w') (v := (.slice A0 l0.length c0)) (by rfl) rfl ?_ ?_
   ·go_simp
    (try simp only [i64_w])
    try rfl
   refine hK.out _ _ ⟨(by rw [ha.out]; exact putSel_upk 0 hb_ rfl rfl rfl), Q_HR, Q_HB, Q_X4, Q_X5⟩
  refine steps_cons ?_ ?_
  ·rintro b a w' ⟨ha, Q_HR, Q_HB, Q_X4, Q_X5⟩ hb_ hon hoff
   refine ⟨_, rfl, fun K hK => ?_⟩
   have e10 : a.tmps[10]? = some ((.slice A0 l0.length c0)) := by rw [ha]; exact putSel_on (e := (0, 10, (.slice A0 l0.length c0))) 0 rfl rfl (hon 0 (by kernel_rfl)) rfl
   replace ha := Aside0.mk ha
   have HR := Aside0.mk Q_HR
   have HB := Aside0.mk Q_HB
   have X4 := Aside0.mk Q_X4
   have X5 := Aside0.mk Q_X5
   refine goes_ Try.func30 (by kernel_rfl) rfl #[.slice A0 l0.length c0] (by rfl) rfl rfl (by first | (simp only [List.map_toArray, List.map_cons, List.map_nil, Act.eval, Array.getD_eq_getD_getElem?, Option.getD_some, e10]; done) | (simp only [List.map_toArray, List.map_cons, List.map_nil, Act.eval, Array.getD_eq_getD_getElem?, Option.getD_some, e10]; rfl)) ?_
   refine (HG.out _ HR.out).mono ?_
   rintro e w1_ ⟨rfl, hb⟩
   refine ⟨_, rfl, ?_⟩
   refine hK.out _ _ ⟨(by rw [ha.out]; exact putSel_upk 1 hb_ rfl rfl rfl), HR.out.below hb, below_step HB.out hb, X4.out.below hb, X5.out.below hb⟩
  refine steps_cons ?_ ?_
  ·rintro b a w' ⟨ha, Q_HR, Q_HB, Q_X4, Q_X5⟩ hb_ hon hoff
   refine ⟨_, rfl, fun K hK => ?_⟩
   have e11 : a.tmps[11]? = some ((.bool true)) := by rw [ha]; exact putSel_on (e := (1, 11, (.bool true))) 1 rfl rfl (hon 1 (by kernel_rfl)) rfl
   replace ha := Aside0.mk ha
   have HR := Aside0.mk Q_HR
   have HB := Aside0.mk Q_HB
   have X4 := Aside0.mk Q_X4
   have X5 := Aside0.mk Q_X5
   refine value_ (w1 := w') (v := (.bool false)) (by rfl) rfl ?_ ?_
   ·go_simp
    (try simp only [i64_w])
    try rfl
   refine hK.out _ _ ⟨(by rw [ha.out]; exact putSel_upk 2 hb_ rfl rfl rfl), Q_HR, Q_HB, Q_X4, Q_X5⟩
  refine steps_cons ?_ ?_
  ·rintro b a w' ⟨ha, Q_HR, Q_HB, Q_X4, Q_X5⟩ hb_ hon hoff
   refine ⟨_, rfl, fun K hK => ?_⟩
   have e12 : a.tmps[12]? = some ((.bool false)) := by rw [ha]; exact putSel_on (e := (2, 12, (.bool false))) 2 rfl rfl (hon 2 (by kernel_rfl)) rfl
   replace ha := Aside0.mk ha
   have HR := Aside0.mk Q_HR
   have HB := Aside0.mk Q_HB
   have X4 := Aside0.mk Q_X4
   have X5 := Aside0.mk Q_X5
   refine value_ (w1 := w') (v := (.bool false)) (by rfl) rfl ?_ ?_
   ·go_simp
    (try simp only [i64_w])
    try rfl
   refine hK.out _ _ ⟨(by rw [ha.out]; exact putSel_upk 3 hb_ rfl rfl rfl), Q_HR, Q_HB, Q_X4, Q_X5⟩
  refine steps_cons ?_ ?_
  ·rintro b a w' ⟨ha, Q_HR, Q_HB, Q_X4, Q_X5⟩ hb_ hon hoff
   refine ⟨_, rfl, fun K hK => ?_⟩
   have e4 : a.tmps[4]? = some ((.pointer (some ⟨w.heap.size, 0, none⟩))) := by rw [ha]; exact (putSel_off rfl).trans rfl
   have e13 : a.tmps[13]? = some ((.bool false)) := by rw [ha]; exact putSel_on (e := (3, 13, (.bool false))) 3 rfl rfl (hon 3 (by kernel_rfl)) rfl
   replace ha := Aside0.mk ha
   have HR := Aside0.mk Q_HR
   have HB := Aside0.mk Q_HB
   have X4 := Aside0.mk Q_X4
   have X5 := Aside0.mk Q_X5
   have hc_ := X4.out.cell
   refine value_ (w1 := w') (v := (.int .i64 at_)) (wanted_on rfl rfl rfl (e13.trans (by first | rfl | (simp [*]; done)))) rfl ?_ ?_
   ·go_simp
    (try simp only [i64_w])
    try rfl
   refine hK.out _ _ ⟨(by rw [ha.out]; exact putSel_upk 4 hb_ rfl rfl rfl), Q_HR, Q_HB, Q_X4, Q_X5⟩
  refine steps_cons ?_ ?_
  ·rintro b a w' ⟨ha, Q_HR, Q_HB, Q_X4, Q_X5⟩ hb_ hon hoff
   refine ⟨_, rfl, fun K hK => ?_⟩
   have e14 : a.tmps[14]? = some ((.int .i64 at_)) := by rw [ha]; exact putSel_on (e := (4, 14, (.int .i64 at_))) 4 rfl rfl (hon 4 (by kernel_rfl)) rfl
   have e13 : a.tmps[13]? = some ((.bool false)) := by rw [ha]; exact putSel_on (e := (3, 13, (.bool false))) 3 rfl rfl (hon 3 (by kernel_rfl)) rfl
   replace ha := Aside0.mk ha
   have HR := Aside0.mk Q_HR
   have HB := Aside0.mk Q_HB
   have X4 := Aside0.mk Q_X4
   have X5 := Aside0.mk Q_X5
   refine value_ (w1 := w') (v := (.bool false)) (wanted_on rfl rfl rfl (e13.trans (by first | rfl | (simp [*]; done)))) rfl ?_ ?_
   ·go_simp
    (try simp only [i64_w])
    try rfl
   refine hK.out _ _ ⟨(by rw [ha.out]; exact putSel_upk 5 hb_ rfl rfl rfl), Q_HR, Q_HB, Q_X4, Q_X5⟩
  refine steps_cons ?_ ?_
  ·rintro b a w' ⟨ha, Q_HR, Q_HB, Q_X4, Q_X5⟩ hb_ hon hoff
   refine ⟨_, rfl, fun K hK => ?_⟩
   have e13 : a.tmps[13]? = some ((.bool false)) := by rw [ha]; exact putSel_on (e := (3, 13, (.bool false))) 3 rfl rfl (hon 3 (by kernel_rfl)) rfl
   have e15 : a.tmps[15]? = some ((.bool false)) := by rw [ha]; exact putSel_on (e := (5, 15, (.bool false))) 5 rfl rfl (hon 5 (by kernel_rfl)) rfl
   replace ha := Aside0.mk ha
   have HR := Aside0.mk Q_HR
   have HB := Aside0.mk Q_HB
   have X4 := Aside0.mk Q_X4
   have X5 := Aside0.mk Q_X5
   refine value_ (w1 := w') (v := (.bool false)) (by rfl) rfl ?_ ?_
   ·go_simp
    (try simp only [i64_w])
    try rfl
   refine hK.out _ _ ⟨(by rw [ha.out]; exact putSel_upk 6 hb_ rfl rfl rfl), Q_HR, Q_HB, Q_X4, Q_X5⟩
  refine steps_cons ?_ ?_
  ·rintro b a w' ⟨ha, Q_HR, Q_HB, Q_X4, Q_X5⟩ hb_ hon hoff
   refine ⟨_, rfl, fun K hK => ?_⟩
   have e16 : a.tmps[16]? = some ((.bool false)) := by rw [ha]; exact putSel_on (e := (6, 16, (.bool false))) 6 rfl rfl (hon 6 (by kernel_rfl)) rfl
   replace ha := Aside0.mk ha
   have HR := Aside0.mk Q_HR
   have HB := Aside0.mk Q_HB
   have X4 := Aside0.mk Q_X4
   have X5 := Aside0.mk Q_X5
   refine value_ (w1 := w') (v := (.bool false)) (by rfl) rfl ?_ ?_
   ·go_simp
    (try simp only [i64_w])
    try rfl
   refine hK.out _ _ ⟨(by rw [ha.out]; exact putSel_upk 7 hb_ rfl rfl rfl), Q_HR, Q_HB, Q_X4, Q_X5⟩
  refine steps_cons ?_ ?_
  ·rintro b a w' ⟨ha, Q_HR, Q_HB, Q_X4, Q_X5⟩ hb_ hon hoff
   refine ⟨_, rfl, fun K hK => ?_⟩
   have e4 : a.tmps[4]? = some ((.pointer (some ⟨w.heap.size, 0, none⟩))) := by rw [ha]; exact (putSel_off rfl).trans rfl
   have e17 : a.tmps[17]? = some ((.bool false)) := by rw [ha]; exact putSel_on (e := (7, 17, (.bool false))) 7 rfl rfl (hon 7 (by kernel_rfl)) rfl
   replace ha := Aside0.mk ha
   have HR := Aside0.mk Q_HR
   have HB := Aside0.mk Q_HB
   have X4 := Aside0.mk Q_X4
   have X5 := Aside0.mk Q_X5
   have hc_ := X4.out.cell
   refine value_ (w1 := w') (v := (.int .i64 at_)) (wanted_on rfl rfl rfl (e17.trans (by first | rfl | (simp [*]; done)))) rfl ?_ ?_
   ·go_simp
    (try simp only [i64_w])
    try rfl
   refine hK.out _ _ ⟨(by rw [ha.out]; exact putSel_upk 8 hb_ rfl rfl rfl), Q_HR, Q_HB, Q_X4, Q_X5⟩
  refine steps_cons ?_ ?_
  ·rintro b a w' ⟨ha, Q_HR, Q_HB, Q_X4, Q_X5⟩ hb_ hon hoff
   refine ⟨_, rfl, fun K hK => ?_⟩
   have e0 : a.tmps[0]? = some ((.slice A0 l0.length c0)) := by rw [ha]; exact (putSel_off rfl).trans rfl
   have e17 : a.tmps[17]? = some ((.bool false)) := by rw [ha]; exact putSel_on (e := (7, 17, (.bool false))) 7 rfl rfl (hon 7 (by kernel_rfl)) rfl
   replace ha := Aside0.mk ha
   have HR := Aside0.mk Q_HR
   have HB := Aside0.mk Q_HB
   have X4 := Aside0.mk Q_X4
   have X5 := Aside0.mk Q_X5
   refine value_ (w1 := w') (v := (.slice A0 l0.length c0)) (wanted_on rfl rfl rfl (e17.trans (by first | rfl | (simp [*]; done)))) rfl ?_ ?_
   ·go_simp
    (try simp only [i64_w])
    try rfl
   refine hK.out _ _ ⟨(by rw [ha.out]; exact putSel_upk 9 hb_ rfl rfl rfl), Q_HR, Q_HB, Q_X4, Q_X5⟩
  refine steps_cons ?_ ?_
  ·rintro b a w' ⟨ha, Q_HR, Q_HB, Q_X4, Q_X5⟩ hb_ hon hoff
   refine ⟨_, rfl, fun K hK => ?_⟩
   have e19 : a.tmps[19]? = some ((.slice A0 l0.length c0)) := by rw [ha]; exact putSel_on (e := (9, 19, (.slice A0 l0.length c0))) 9 rfl rfl (hon 9 (by kernel_rfl)) rfl
   have e17 : a.tmps[17]? = some ((.bool false)) := by rw [ha]; exact putSel_on (e := (7, 17, (.bool false))) 7 rfl rfl (hon 7 (by kernel_rfl)) rfl
   replace ha := Aside0.mk ha
   have HR := Aside0.mk Q_HR
   have HB := Aside0.mk Q_HB
   have X4 := Aside0.mk Q_X4
   have X5 := Aside0.mk Q_X5
   refine goes_ Try.func42 (by kernel_rfl) rfl #[.slice A0 l0.length c0] (wanted_on rfl rfl rfl (e17.trans (by first | rfl | (simp [*]; done)))) rfl rfl (by first | (simp only [List.map_toArray, List.map_cons, List.map_nil, Act.eval, Array.getD_eq_getD_getElem?, Option.getD_some, e19, e17]; done) | (simp only [List.map_toArray, List.map_cons, List.map_nil, Act.eval, Array.getD_eq_getD_getElem?, Option.getD_some, e19, e17]; rfl)) ?_
   refine (HI.out _ HR.out).mono ?_
   rintro e w1_ ⟨rfl, hb⟩
   refine ⟨_, rfl, ?_⟩
   refine hK.out _ _ ⟨(by rw [ha.out]; exact putSel_upk 10 hb_ rfl rfl rfl), HR.out.below hb, below_step HB.out hb, X4.out.below hb, X5.out.below hb⟩
  refine steps_cons ?_ ?_
  ·rintro b a w' ⟨ha, Q_HR, Q_HB, Q_X4, Q_X5⟩ hb_ hon hoff
   refine ⟨_, rfl, fun K hK => ?_⟩
   have e18 : a.tmps[18]? = some ((.int .i64 at_)) := by rw [ha]; exact putSel_on (e := (8, 18, (.int .i64 at_))) 8 rfl rfl (hon 8 (by kernel_rfl)) rfl
   have e20 : a.tmps[20]? = some ((.int .i64 (inL l0))) := by rw [ha]; exact putSel_on (e := (10, 20, (.int .i64 (inL l0)))) 10 rfl rfl (hon 10 (by kernel_rfl)) rfl
   have e17 : a.tmps[17]? = some ((.bool false)) := by rw [ha]; exact putSel_on (e := (7, 17, (.bool false))) 7 rfl rfl (hon 7 (by kernel_rfl)) rfl
   replace ha := Aside0.mk ha
   have HR := Aside0.mk Q_HR
   have HB := Aside0.mk Q_HB
   have X4 := Aside0.mk Q_X4
   have X5 := Aside0.mk Q_X5
   refine value_ (w1 := w') (v := (.bool false)) (wanted_on rfl rfl rfl (e17.trans (by first | rfl | (simp [*]; done)))) rfl ?_ ?_
   ·go_simp
    (try simp only [i64_w])
    try rfl
   refine hK.out _ _ ⟨(by rw [ha.out]; exact putSel_upk 11 hb_ rfl rfl rfl), Q_HR, Q_HB, Q_X4, Q_X5⟩
  refine steps_cons ?_ ?_
  ·rintro b a w' ⟨ha, Q_HR, Q_HB, Q_X4, Q_X5⟩ hb_ hon hoff
   refine ⟨_, rfl, fun K hK => ?_⟩
   have e17 : a.tmps[17]? = some ((.bool false)) := by rw [ha]; exact putSel_on (e := (7, 17, (.bool false))) 7 rfl rfl (hon 7 (by kernel_rfl)) rfl
   have e21 : a.tmps[21]? = some ((.bool false)) := by rw [ha]; exact putSel_on (e := (11, 21, (.bool false))) 11 rfl rfl (hon 11 (by kernel_rfl)) rfl
   replace ha := Aside0.mk ha
   have HR := Aside0.mk Q_HR
   have HB := Aside0.mk Q_HB
   have X4 := Aside0.mk Q_X4
   have X5 := Aside0.mk Q_X5
   refine value_ (w1 := w') (v := (.bool false)) (by rfl) rfl ?_ ?_
   ·go_simp
    (try simp only [i64_w])
    try rfl
   refine hK.out _ _ ⟨(by rw [ha.out]; exact putSel_upk 12 hb_ rfl rfl rfl), Q_HR, Q_HB, Q_X4, Q_X5⟩
  exact steps_nil
 rintro b a we hall ⟨ha, Q_HR, Q_HB, Q_X4, Q_X5⟩
 clear HB HR X4 X5
 have hb0_ := hall 0 (by kernel_rfl)
 have hb1_ := hall 1 (by kernel_rfl)
 have hb2_ := hall 2 (by kernel_rfl)
 have hb3_ := hall 3 (by kernel_rfl)
 have hb4_ := hall 4 (by kernel_rfl)
 have hb5_ := hall 5 (by kernel_rfl)
 have hb6_ := hall 6 (by kernel_rfl)
 have hb7_ := hall 7 (by kernel_rfl)
 have hb8_ := hall 8 (by kernel_rfl)
 have hb9_ := hall 9 (by kernel_rfl)
 have hb10_ := hall 10 (by kernel_rfl)
 have hb11_ := hall 11 (by kernel_rfl)
 have hb12_ := hall 12 (by kernel_rfl)
 subst ha
 simp only [putSel, hb0_, hb1_, hb2_, hb3_, hb4_, hb5_, hb6_, hb7_, hb8_, hb9_, hb10_, hb11_, hb12_, if_true, Act.put, List.setIfInBounds_toArray, List.set_cons_zero, List.set_cons_succ]
 have HR := Aside0.mk Q_HR
 clear Q_HR
 have HB := Aside0.mk Q_HB
 clear Q_HB
 have X4 := Aside0.mk Q_X4
 clear Q_X4
 have X5 := Aside0.mk Q_X5
 clear Q_X5
 clear hall hb0_ hb1_ hb2_ hb3_ hb4_ hb5_ hb6_ hb7_ hb8_ hb9_ hb10_ hb11_ hb12_
 gi_wp2
 refine ⟨trivial, ?_⟩
 refine (callsIn_wide.2 (steps_c A0 _ c0 _)).mono ?_
 rintro e w4 ⟨rfl, hw4⟩
 obtain ⟨O, hO⟩ : ∃ O, O = we.heap.size := ⟨_, rfl⟩
 have hOw : w.heap.size + 1 < O := by rw [hO]; exact X5.out.lt
 have hb3 := below_alloc (Below.refl we.heap.size we) (.cells #[.int .i64 0] 3)
 have hz3 : (we.alloc (.cells #[.int .i64 0] 3)).heap.size = we.heap.size + 1 := by simp
 have hb4 : Below we.heap.size we w4 := by rw [hw4]; exact hb3.trans (below_alloc (Below.refl _ _) _ |>.mono (by simp))
 have HB4 := Aside0.mk (show Below w.heap.size w w4 from HB.out.trans (hb4.mono HB.out.size))
 have HX4 := Aside0.mk (X4.out.below hb4)
 have HX5 := Aside0.mk (X5.out.below hb4)
 have HR4 := Aside0.mk (HR.out.below hb4)
 have HO4 := Aside0.mk (show Boxed w4 O 3 (.int .i64 0) by rw [hw4, hO]; exact (Boxed.new we _ _).alloc _)
 obtain ⟨T, hT⟩ : ∃ T, T = we.heap.size + 1 := ⟨_, rfl⟩
 have HT4 := Aside0.mk (show w4.heap[T]? = some (.cells #[.slice A0 l0.length c0] 34 (0, 0)) by
  rw [hw4, hT, ← hz3]; exact Own.heap_new _ _)
 have hT4 := (Array.getElem?_eq_some_iff.1 HT4.out).1
 have HTO := Aside0.mk (show T ≠ O by omega)
 have HZ4 := Aside0.mk (show O < w4.heap.size ∧ T < w4.heap.size ∧ w.heap.size + 1 < O from ⟨HO4.out.lt, hT4, hOw⟩)
 rw [World.size_alloc, ← hT]
 rw [← hO]
 clear hw4 hO hT hz3 hb3 hb4 hOw hT4 X4 X5 HR HB HG HI H0 a1 a2
 gi_wp2
 have HFF := Aside0.mk (show ∀ k, (fun k => k = O) k → k < w4.heap.size from fun k hk => by have := HZ4.out.1; omega)
 have HFF1 : ∀ k, (fun k => k = O) k → k < w4.heap.size := HFF.out
 obtain ⟨L, hL⟩ : ∃ L, L = stepsL l0 0 0 := ⟨_, rfl⟩
 obtain ⟨Q, hQ⟩ : ∃ Q : List St → World → Prop, Q = fun pre W => ∃ d : Int, Boxed W O 3 (.int .i64 d) ∧ mvS at_ behind (L.drop pre.length) d = V := ⟨_, rfl⟩
 have HQQ := Aside0.mk (show ∀ pre W W', (∀ k, (fun k => k = O) k → W'.heap[k]? = W.heap[k]?) → Q pre W → Q pre W' from fun pre W W' hk hq => by
  rw [hQ] at hq ⊢
  obtain ⟨d, h1, h2⟩ := hq
  exact ⟨d, (hk O rfl).trans h1, h2⟩)
 have HXX := Aside0.mk (show ∀ (pre : List St) (W W' : World), (∀ k, (fun k => k = O) k → W'.heap[k]? = W.heap[k]?) → (fun (_ : List St) W => Boxed W O 3 (.int .i64 V)) pre W → (fun (_ : List St) W => Boxed W O 3 (.int .i64 V)) pre W' from fun pre W W' hk hq => (hk O rfl).trans hq)
 have HQE := Aside0.mk hQ
 have HLE := Aside0.mk hL
 clear hQ hL HFF1
 refine range_g (n := 12) (w := w4) (by decide) (gf := 53) (lb := #[.pointer (some ⟨T, 0, none⟩)]) rfl (enters_of Try.func53 (by kernel_rfl) rfl) (fun s : St => #[.agg #[.int .i64 s.r.f0, .string s.r.f1, .int .i64 s.r.f2, .int .i64 s.i, .int .i64 s.o]]) (fun _ => rfl) L (Held A0 c0 T l0)
  (by rw [HLE.out]; exact steps_it A0 c0 T l0 HOK.out HSM.out (by have := HLEN.out; omega)) (Jf w4 (fun k => k = O) Q) (jf_party HFF.out HQQ.out) ?hK (jf_own (Nat.le_refl _) HFF.out HQQ.out) (fun c s W => c = .exit 0 ∧ Jf w4 (fun k => k = O) (fun (_ : List St) W => Boxed W O 3 (.int .i64 V)) [] Priv.none W)
  (fun c s W W' row h hg hr => ⟨h.1, jf_own (Nat.le_refl _) HFF.out HXX.out ([], Priv.none) W W' row h.2 hg hr⟩) ?h0
  (fun x a' W => ∃ Bx, W.heap[Bx]? = some (.cells #[.int .i64 x.r.f0, .string x.r.f1, .int .i64 x.r.f2, .int .i64 x.i, .int .i64 x.o] 76 (0, 0)) ∧ a' = { tmps := #[.slice A0 l0.length c0, .int .i64 at_, .bool behind, undef, .pointer (some ⟨w.heap.size, 0, none⟩), .pointer (some ⟨w.heap.size + 1, 0, none⟩), .int .i64 0, .bool false, .pointer (some ⟨O, 0, none⟩), .pointer (some ⟨Bx, 0, none⟩), .slice A0 l0.length c0, .bool true, .bool false, .bool false, .int .i64 at_, .bool false, .bool false, .bool false, .int .i64 at_, .slice A0 l0.length c0, .int .i64 (inL l0), .bool false, .bool false, .slice A0 l0.length c0, .func (.func 53) #[] #[.pointer (some ⟨T, 0, none⟩)], .agg #[.int .i64 x.r.f0, .string x.r.f1, .int .i64 x.r.f2, .int .i64 x.i, .int .i64 x.o], undef, undef, undef, undef, undef, undef, undef, undef, undef, undef, undef, undef, undef, undef, undef, undef, undef, undef, undef, undef, undef, undef, undef, undef, undef, undef, undef, undef, undef, undef, undef, undef, undef, undef, undef, undef, undef], defers := [] })
  (fun x a' s W W' row hs hg hr => by obtain ⟨Bx, h1, h2⟩ := hs; exact ⟨Bx, (hg.block Bx (Array.getElem?_eq_some_iff.1 h1).1 (fun e => by obtain ⟨_, q, h3, h4⟩ := hr Bx e.symm; rw [h1] at h3; cases h3; cases h4)).trans h1, h2⟩) ?assign ?body ?done ?stop
 case hK =>
  intro pre G W hj
  refine ⟨(hj.but.block _ HZ4.out.2.1 HTO.out).trans HT4.out, C_same HR4.out fun ad e hp => ?_⟩
  have hlt := HA.out ad e hp
  exact hj.but.block _ (by have := HZ4.out; omega) (fun e2 => by have e3 : ad.block = O := e2; have := HZ4.out; omega)
 case h0 => exact jf_start rfl (by rw [HQE.out]; exact ⟨0, HO4.out, by rw [HV.out, HLE.out]; rfl⟩)
 case assign =>
  intro l pre G x W K hj hK
  gi_wp2
  exact hK _ _ ((KeepsOthers.alloc _ _).from _) ((jf_party HFF.out HQQ.out).below hj (below_alloc (Below.refl _ _) _)) ⟨W.heap.size, Own.heap_new _ _, rfl⟩
 case body =>
  rintro l pre x suf G a' W hLp hj ⟨Bx, hx, rfl⟩
  have hq := hj.q
  rw [HQE.out] at hq
  obtain ⟨d, hbo, hmv⟩ := hq
  have hdr : L.drop pre.length = x :: suf := by rw [hLp]; simp
  rw [hdr] at hmv
  have HMV := Aside0.mk (show (if brk at_ behind x then d else mvS at_ behind suf (upd at_ x)) = V from hmv)
  have HNX := Aside0.mk (show L.drop (pre ++ [x]).length = suf by rw [hLp]; simp)
  have bnd := step_bounds l0 0 0 HOK.out (by decide) (by decide) HSM.out.i (by have := HSM.out.o; rw [E_size] at this; exact this) x (by rw [← HLE.out, hLp]; simp)
  obtain ⟨xi0, xo0, xi, xo, xk⟩ := bnd
  have xp := knd_pos xk
  have xf0 := xp.1
  have xf2 := xp.2
  have hxM : x.i ≤ 16777216 := by omega
  have hoM : x.o ≤ 16777216 := by omega
  have hfM : x.r.f0 ≤ 16777216 := by omega
  have hsM : (x.r.f1.size : Int) ≤ 16777216 := by omega
  have HJ := Aside0.mk hj
  have HBO := Aside0.mk hbo
  have c8 := hbo.cell
  have f8 := hbo.frozen
  have b4 : Boxed W w.heap.size 3 (.int .i64 at_) := ((hj.but.block _ (by have := HZ4.out; omega) (fun e => by have e2 : w.heap.size = O := e; have := HZ4.out; omega)).trans HX4.out)
  have b5 : Boxed W (w.heap.size + 1) 4 (.bool behind) := ((hj.but.block _ (by have := HZ4.out; omega) (fun e => by have e2 : w.heap.size + 1 = O := e; have := HZ4.out; omega)).trans HX5.out)
  have c4 := b4.cell
  have c5 := b5.cell
  obtain ⟨x0, x1, x2, x3, x4⟩ := blk_step (s := x) hx
  clear hx hj hbo hmv hdr hLp xk xp b4 b5 xi xo
  by_cases h1 : at_ < x.i
  ·have HBR := Aside0.mk (show brk at_ behind x from .inl h1)
   have hdv : d = V := by have := HMV.out; rwa [if_pos HBR.out] at this
   have HX := Aside0.mk (show Jf w4 (fun k => k = O) (fun (_ : List St) W => Boxed W O 3 (.int .i64 V)) [] Priv.none W from ⟨by rw [← hdv]; exact HBO.out, HJ.out.but, fun k o hk => by cases hk⟩)
   clear hdv
   gi_wp2
   exact ⟨KeepsFrom.refl _ _, rfl, HX.out⟩
  ·by_cases h2 : x.i = at_
   ·have e2 : (x.i == at_) = true := by simpa using h2
    cases behind with
    | false =>
     have HBR := Aside0.mk (show brk at_ false x from .inr ⟨h2, .inl rfl⟩)
     have hdv : d = V := by have := HMV.out; rwa [if_pos HBR.out] at this
     have HX := Aside0.mk (show Jf w4 (fun k => k = O) (fun (_ : List St) W => Boxed W O 3 (.int .i64 V)) [] Priv.none W from ⟨by rw [← hdv]; exact HBO.out, HJ.out.but, fun k o hk => by cases hk⟩)
     clear hdv
     gi_wp2
     exact ⟨KeepsFrom.refl _ _, rfl, HX.out⟩
    | true =>
     by_cases h3 : x.r.f1.size = 0
     ·have q1 : (x.r.f1.toList == ([] : List UInt8)) = true := by rw [tl_beq]; simpa using h3
      have q2 : x.r.f1.toList = [] := tl_nil.2 h3
      have HBR := Aside0.mk (show brk at_ true x from .inr ⟨h2, .inr h3⟩)
      have hdv : d = V := by have := HMV.out; rwa [if_pos HBR.out] at this
      have HX := Aside0.mk (show Jf w4 (fun k => k = O) (fun (_ : List St) W => Boxed W O 3 (.int .i64 V)) [] Priv.none W from ⟨by rw [← hdv]; exact HBO.out, HJ.out.but, fun k o hk => by cases hk⟩)
      clear hdv
      gi_wp2
      exact ⟨KeepsFrom.refl _ _, rfl, HX.out⟩
     ·have q1 : (x.r.f1.toList == ([] : List UInt8)) = false := by rw [tl_beq]; simpa using h3
      have q2 : ¬ x.r.f1.toList = [] := by rw [tl_nil]; exact h3
      have HBR := Aside0.mk (show ¬ brk at_ true x from fun h => h.elim (fun h => h1 h) (fun h => h.2.elim (fun h => by cases h) (fun h => h3 h)))
      have HMV2 := Aside0.mk (show mvS at_ true suf (upd at_ x) = V by have := HMV.out; rwa [if_neg HBR.out] at this)
      by_cases hm : at_ - x.i < x.r.f0
      ·have HU := Aside0.mk (show upd at_ x = x.o + (x.r.f1.size : Int) + (at_ - x.i) by unfold upd; rw [if_pos hm])
       gi_wp2
       exact ⟨(KeepsOthers.setCell _ _ _).from _, jf_step HFF.out HJ.out (ButS.setCell W O 0 _ rfl) (by rw [HQE.out]; exact ⟨_, HBO.out.set _, by rw [HNX.out, ← HMV2.out, HU.out]; first | done | rfl | (congr 1; omega)⟩)⟩
      ·have HU := Aside0.mk (show upd at_ x = x.o + (x.r.f1.size : Int) + x.r.f0 by unfold upd; rw [if_neg hm])
       gi_wp2
       exact ⟨(KeepsOthers.setCell _ _ _).from _, jf_step HFF.out HJ.out (ButS.setCell W O 0 _ rfl) (by rw [HQE.out]; exact ⟨_, HBO.out.set _, by rw [HNX.out, ← HMV2.out, HU.out]; first | done | rfl | (congr 1; omega)⟩)⟩
   ·have e2 : (x.i == at_) = false := by simpa using h2
    have HBR := Aside0.mk (show ¬ brk at_ behind x from fun h => h.elim (fun h => h1 h) (fun h => h2 h.1))
    have HMV2 := Aside0.mk (show mvS at_ behind suf (upd at_ x) = V by have := HMV.out; rwa [if_neg HBR.out] at this)
    by_cases hm : at_ - x.i < x.r.f0
    ·have HU := Aside0.mk (show upd at_ x = x.o + (x.r.f1.size : Int) + (at_ - x.i) by unfold upd; rw [if_pos hm])
     gi_wp2
     exact ⟨(KeepsOthers.setCell _ _ _).from _, jf_step HFF.out HJ.out (ButS.setCell W O 0 _ rfl) (by rw [HQE.out]; exact ⟨_, HBO.out.set _, by rw [HNX.out, ← HMV2.out, HU.out]; first | done | rfl | (congr 1; omega)⟩)⟩
    ·have HU := Aside0.mk (show upd at_ x = x.o + (x.r.f1.size : Int) + x.r.f0 by unfold upd; rw [if_neg hm])
     gi_wp2
     exact ⟨(KeepsOthers.setCell _ _ _).from _, jf_step HFF.out HJ.out (ButS.setCell W O 0 _ rfl) (by rw [HQE.out]; exact ⟨_, HBO.out.set _, by rw [HNX.out, ← HMV2.out, HU.out]; first | done | rfl | (congr 1; omega)⟩)⟩
 case done =>
  intro D G W hD hj hK
  have hq := hj.q
  rw [HQE.out] at hq
  obtain ⟨d, hbo, hmv⟩ := hq
  rw [List.drop_length] at hmv
  have hdv : d = V := hmv
  subst hdv
  have c8 := hbo.cell
  have HJ := Aside0.mk hj
  have HKD := Aside0.mk hK
  have HDD := Aside0.mk hD
  clear hj hbo hmv hK hD
  gi_wp2
  refine ⟨by simp, .inl ⟨_, _, rfl, run_takeDeferred HKD.out, ?_⟩⟩
  refine ⟨.tuple #[.int .i64 d, .bool true], by simp [results, Try.results45, go_sem], rfl, ?_⟩
  exact (HJ.out.but.below HB4.out (fun k hk => by have := HZ4.out; have e2 : k = O := hk; omega) HB4.out.size).trans ⟨rfl, rfl, rfl, by simp, fun k hk => World.putObj_heap_other (by have := HDD.out; have := HB4.out.size; omega)⟩
 case stop =>
  rintro D c s W hD ⟨rfl, hj⟩ hK
  have c8 := (show Boxed W O 3 (.int .i64 V) from hj.q).cell
  have HJ := Aside0.mk hj
  have HKD := Aside0.mk hK
  have HDD := Aside0.mk hD
  clear hj hK hD
  gi_wp2
  refine ⟨by simp, .inl ⟨_, _, rfl, run_takeDeferred HKD.out, ?_⟩⟩
  refine ⟨.tuple #[.int .i64 V, .bool true], by simp [results, Try.results45, go_sem], rfl, ?_⟩
  exact (HJ.out.but.below HB4.out (fun k hk => by have := HZ4.out; have e2 : k = O := hk; omega) HB4.out.size).trans ⟨rfl, rfl, rfl, by simp, fun k hk => World.putObj_heap_other (by have := HDD.out; have := HB4.out.size; omega)⟩
theorem move_c (A0 : Option Addr) (c0 : Nat) (l0 : List Rn) (at_ : Int) (behind : Bool) (w : World) (h : RC w A0 l0) (hc : l0.length ≤ c0) (hl : l0.length ≤ 140737488351232) :
  Calls Try.prog 45 #[.slice A0 l0.length c0, .int .i64 at_, .bool behind] w fun e w' => e = .returned (.tuple #[.int .i64 (moveL l0 at_ behind).1, .bool (moveL l0 at_ behind).2]) ∧ Below w.heap.size w w' := by
 unfold moveL
 cases hg : good l0 with
 | false => rw [if_neg (fun h => by cases h.1)]; exact move_no1 A0 c0 l0 at_ behind w h hc hl hg
 | true =>
  by_cases ha : at_ < 0
  ·rw [if_neg (fun h => by omega)]; exact move_no2 A0 c0 l0 at_ behind w h hc hl hg ha
  ·by_cases hi : inL l0 < at_
   ·rw [if_neg (fun h => by omega)]; exact move_no3 A0 c0 l0 at_ behind w h hc hl hg (by omega) hi
   ·rw [if_pos ⟨rfl, by omega, by omega⟩]; exact move_yes A0 c0 l0 at_ behind w h hc hl hg (by omega) (by omega)
end Go.Proofs.Ytjbnffadfohofaa.PlaceM
end
-- MERGED YtjbnffadfohofaaPlaceC
section
namespace Go.Proofs.Ytjbnffadfohofaa.PlaceC
open Go.RowKit Go.Shelf Go.Proofs.Ytjbnffadfohofaa.P Go.Proofs.YtjbnffadfohofaaW.PrintWords Go.Proofs.YtjbnffadfohofaaW.PrintLast Go.Proofs.YtjbnffadfohofaaW.PrintMore Go.Proofs.Ytjbnffadfohofaa.Own Go.Proofs.Ytjbnffadfohofaa.EditL Go.Proofs.Ytjbnffadfohofaa.EditK Go.Proofs.Ytjbnffadfohofaa.RangeG Go.Proofs.Ytjbnffadfohofaa.RangeB Go.Proofs.Ytjbnffadfohofaa.EditJ Go.Proofs.Ytjbnffadfohofaa.EditI Go.Proofs.Ytjbnffadfohofaa.EditR Go.Proofs.Ytjbnffadfohofaa.EditF Go.Proofs.Ytjbnffadfohofaa.PlaceI Go.Proofs.Ytjbnffadfohofaa.PlaceM Go.Proofs.Ytjbnffadfohofaa.VaryR
attribute [local go_sem] max2_int min2_int max_two min_two
set_option linter.unusedSimpArgs false
set_option linter.unusedVariables false
structure Sp where
 e0 : Int
 e1 : Int
 found : Bool
def lo (a : Int) (s : St) : Int := if a < s.i then s.i else a
def hi (b : Int) (s : St) : Int := if s.i + s.r.f0 < b then s.i + s.r.f0 else b
def meetL (a b : Int) (s : St) (m : Sp) : Sp := if hi b s ≤ lo a s then m else ⟨if m.found then m.e0 else s.o + lo a s - s.i, s.o + hi b s - s.i, true⟩
def SpIn (BE BF : Nat) (m : Sp) (w : World) : Prop := w.heap[BE]? = some (.cells #[.int .i64 m.e0, .int .i64 m.e1] 74 (0, 0)) ∧ w.heap[BF]? = some (.cells #[.bool m.found] 4 (0, 0))
def MeetPost (BE BF : Nat) (m : Sp) (w : World) (e : Ending) (w' : World) : Prop := (∃ v, e = .returned v) ∧ ButS (fun k => k = BE ∨ k = BF) w w' ∧ SpIn BE BF m w'
set_option maxHeartbeats 4000000 in
set_option maxRecDepth 100000 in
theorem meet_c (BX BE BF : Nat) (a b : Int) (s : St) (m : Sp) (w : World) (hx : w.heap[BX]? = some (.cells #[.int .i64 a, .int .i64 b] 42 (0, 0))) (hm : SpIn BE BF m w) (h1 : BE ≠ BF) (h2 : BX ≠ BE) (h3 : BX ≠ BF)
  (ha : 0 ≤ a) (hb : b ≤ 16777216) (ha2 : a ≤ 16777216) (hb0 : 0 ≤ b) (hi0 : 0 ≤ s.i) (hi1 : s.i + s.r.f0 ≤ 16777216) (ho0 : 0 ≤ s.o) (ho1 : s.o ≤ 16777216) (hf0 : 0 ≤ s.r.f0) :
  Calls Try.prog 43 #[.agg #[.int .i64 s.r.f0, .string s.r.f1, .int .i64 s.r.f2, .int .i64 s.i, .int .i64 s.o], .pointer (some ⟨BX, 0, none⟩), .pointer (some ⟨BF, 0, none⟩), .pointer (some ⟨BE, 0, none⟩)] w (MeetPost BE BF (meetL a b s m) w) := by
 have hE := hm.1
 have hF := hm.2
 have HX := Aside0.mk hx
 have HM := Aside0.mk hm
 have H1 := Aside0.mk h1
 have hsi : s.i ≤ 16777216 := by omega
 have hsf : s.r.f0 ≤ 16777216 := by omega
 have hXl := (Array.getElem?_eq_some_iff.1 hx).1
 have hEl := (Array.getElem?_eq_some_iff.1 hE).1
 have hFl := (Array.getElem?_eq_some_iff.1 hF).1
 have cx0 : w.cell? ⟨BX, 0, none⟩ = some (.int .i64 a) := by rw [cell_of_row w _ 0 _ _ _ hx]; rfl
 have cx1 : w.cell? ⟨BX, 1, none⟩ = some (.int .i64 b) := by rw [cell_of_row w _ 1 _ _ _ hx]; rfl
 clear hx hm hE hF
 go_enter Try.func43, Try.ntmps43
 go_wp2_with fail
 go_quiet (fail)
 obtain ⟨F, hF⟩ : ∃ F, F = lo a s := ⟨_, rfl⟩
 obtain ⟨T, hT⟩ : ∃ T, T = hi b s := ⟨_, rfl⟩
 rw [show (if a < s.i then s.i else a) = F from hF.symm, show (if s.i + s.r.f0 < b then s.i + s.r.f0 else b) = T from hT.symm]
 have hFb : 0 ≤ F ∧ F ≤ 16777216 := by rw [hF]; unfold lo; split <;> omega
 have hTb : 0 ≤ T ∧ T ≤ 16777216 := by rw [hT]; unfold hi; split <;> omega
 have hML : meetL a b s m = if T ≤ F then m else ⟨if m.found then m.e0 else s.o + F - s.i, s.o + T - s.i, true⟩ := by rw [hF, hT]; rfl
 have HML := Aside0.mk hML
 obtain ⟨hF0, hF1⟩ := hFb
 obtain ⟨hT0, hT1⟩ := hTb
 obtain ⟨w5, hw5⟩ : ∃ w5, w5 = ((w.alloc (.cells #[.int .i64 s.r.f0, .string s.r.f1, .int .i64 s.r.f2, .int .i64 s.i, .int .i64 s.o] 76)).drewN nq) := ⟨_, rfl⟩
 have hb5 : Below w.heap.size w w5 := by rw [hw5]; exact pw_below_drewN (below_alloc (Below.refl _ _) _) _
 have hs5 : w5.heap[w.heap.size]? = some (scs s) := by rw [hw5]; exact Own.heap_new w _
 have hE5 := (hb5.block BE hEl).trans HM.out.1
 have hF5 := (hb5.block BF hFl).trans HM.out.2
 rw [← hw5]
 have HBS := Aside0.mk (ButS.of_below (F := fun k => k = BE ∨ k = BF) hb5)
 have HE5 := Aside0.mk hE5
 have HF5 := Aside0.mk hF5
 obtain ⟨y0, y1, y2, y3, y4⟩ := blk_step hs5
 have cf : w5.cell? ⟨BF, 0, none⟩ = some (.bool m.found) := by rw [cell_of_row w5 _ 0 _ _ _ hF5]; rfl
 have ce0 : w5.cell? ⟨BE, 0, none⟩ = some (.int .i64 m.e0) := by rw [cell_of_row w5 _ 0 _ _ _ hE5]; rfl
 have ce1 : w5.cell? ⟨BE, 1, none⟩ = some (.int .i64 m.e1) := by rw [cell_of_row w5 _ 1 _ _ _ hE5]; rfl
 have ff : w5.frozen? ⟨BF, 0, none⟩ = false := frozen_of_row w5 _ 0 _ _ hF5
 have fe0 : w5.frozen? ⟨BE, 0, none⟩ = false := frozen_of_row w5 _ 0 _ _ hE5
 have fe1 : w5.frozen? ⟨BE, 1, none⟩ = false := frozen_of_row w5 _ 1 _ _ hE5
 have n1 : BE ≠ BF := H1.out
 have n2 : BF ≠ BE := fun e => H1.out e.symm
 have n3 : BE ≠ w.heap.size := by omega
 have n4 : BF ≠ w.heap.size := by omega
 have n5 : w.heap.size ≠ BE := by omega
 have n6 : w.heap.size ≠ BF := by omega
 clear hF hT hML hw5 hb5 hs5 hE5 hF5 cx0 cx1
 by_cases hTF : T ≤ F
 ·have HV := Aside0.mk (show meetL a b s m = m by rw [HML.out, if_pos hTF])
  go_wp2_with fail
  refine bodyPost_ret (results_none rfl _ _ _) rfl ?_
  exact ⟨⟨_, rfl⟩, HBS.out, by rw [HV.out]; exact ⟨HE5.out, HF5.out⟩⟩
 ·obtain ⟨m0, m1, mf⟩ := m
  have HV := Aside0.mk (show meetL a b s ⟨m0, m1, mf⟩ = ⟨if mf then m0 else s.o + F - s.i, s.o + T - s.i, true⟩ by rw [HML.out, if_neg hTF])
  simp only at cf ce0 ce1
  have hTF2 : F < T := by omega
  cases mf with
  | true =>
   go_wp2_with fail
   refine bodyPost_end (results_none rfl _ _ _) rfl ?_
   refine ⟨⟨_, rfl⟩, (HBS.out.trans (ButS.setCell _ _ _ _ (.inl rfl))).trans (ButS.setCell _ _ _ _ (.inr rfl)), ?_⟩
   rw [HV.out]
   exact ⟨(Below.heap_setCell _ ⟨BF, 0, none⟩ _ _ n1).trans (blk_put HE5.out 1 _ rfl), blk_put ((Below.heap_setCell _ ⟨BE, 1, none⟩ _ _ n2).trans HF5.out) 0 _ rfl⟩
  | false =>
   go_wp2_with fail
   refine bodyPost_end (results_none rfl _ _ _) rfl ?_
   refine ⟨⟨_, rfl⟩, ((HBS.out.trans (ButS.setCell _ _ _ _ (.inl rfl))).trans (ButS.setCell _ _ _ _ (.inl rfl))).trans (ButS.setCell _ _ _ _ (.inr rfl)), ?_⟩
   rw [HV.out]
   exact ⟨(Below.heap_setCell _ ⟨BF, 0, none⟩ _ _ n1).trans (blk_put (blk_put HE5.out 0 _ rfl) 1 _ rfl), blk_put ((Below.heap_setCell _ ⟨BE, 1, none⟩ _ _ n2).trans ((Below.heap_setCell _ ⟨BE, 0, none⟩ _ _ n2).trans HF5.out)) 0 _ rfl⟩
end Go.Proofs.Ytjbnffadfohofaa.PlaceC
end
-- MERGED YtjbnffadfohofaaPlaceS
section
namespace Go.Proofs.Ytjbnffadfohofaa.PlaceS
open Go.RowKit Go.Shelf Go.Proofs.Ytjbnffadfohofaa.P Go.Proofs.YtjbnffadfohofaaW.PrintWords Go.Proofs.YtjbnffadfohofaaW.PrintLast Go.Proofs.YtjbnffadfohofaaW.PrintMore Go.Proofs.Ytjbnffadfohofaa.Own Go.Proofs.Ytjbnffadfohofaa.EditL Go.Proofs.Ytjbnffadfohofaa.EditK Go.Proofs.Ytjbnffadfohofaa.RangeG Go.Proofs.Ytjbnffadfohofaa.RangeB Go.Proofs.Ytjbnffadfohofaa.EditJ Go.Proofs.Ytjbnffadfohofaa.EditI Go.Proofs.Ytjbnffadfohofaa.EditR Go.Proofs.Ytjbnffadfohofaa.EditF Go.Proofs.Ytjbnffadfohofaa.PlaceI Go.Proofs.Ytjbnffadfohofaa.PlaceM Go.Proofs.Ytjbnffadfohofaa.PlaceC Go.Proofs.Ytjbnffadfohofaa.VaryR
attribute [local go_sem] Oper.semAt_some max2_int min2_int max_two min_two
set_option linter.unusedSimpArgs false
set_option linter.unusedVariables false
def Sx (BX : Nat) (a b : Int) (w : World) : Prop := w.heap[BX]? = some (.cells #[.int .i64 a, .int .i64 b] 42 (0, 0))
theorem Sx.below {BX : Nat} {a b : Int} {w w' : World} (h : Sx BX a b w) (hb : Below w.heap.size w w') : Sx BX a b w' := (hb.block _ (Array.getElem?_eq_some_iff.1 h).1).trans h
theorem Sx.c0 {BX : Nat} {a b : Int} {w : World} (h : Sx BX a b w) : w.cell? ⟨BX, 0, none⟩ = some (.int .i64 a) := by rw [cell_of_row w _ 0 _ _ _ h]; rfl
theorem Sx.c1 {BX : Nat} {a b : Int} {w : World} (h : Sx BX a b w) : w.cell? ⟨BX, 1, none⟩ = some (.int .i64 b) := by rw [cell_of_row w _ 1 _ _ _ h]; rfl
theorem Sx.fz {BX : Nat} {a b : Int} {w : World} (h : Sx BX a b w) (o : Nat) : w.frozen? ⟨BX, o, none⟩ = false := frozen_of_row w _ o _ _ h
def spS (a b : Int) : List St → Sp → Sp
 | [], m => m
 | s :: l, m => spS a b l (meetL a b s m)
def spanL (op : List Rn) (a b : Int) : (Int × Int) × Bool :=
 if good op = true ∧ 0 ≤ a ∧ a ≤ b ∧ b ≤ inL op then
  (if (spS a b (stepsL op 0 0) ⟨0, 0, false⟩).found then ((spS a b (stepsL op 0 0) ⟨0, 0, false⟩).e0, (spS a b (stepsL op 0 0) ⟨0, 0, false⟩).e1) else ((moveL op a false).1, (moveL op a false).1), true)
 else ((0, 0), false)
def PlaceS.T1 : Bool × List (List Nat × List Nat) := (true, [([], []), ([0], [0]), ([1], [1]), ([2, 1], [2]), ([3], [3]), ([4, 3], [3, 4]), ([5, 3], [3, 5]), ([3, 6], [3, 6]), ([7, 3], [7]), ([8], [8]), ([9, 8], [8, 9]), ([8], [8]), ([11, 8], [8, 11]), ([10, 12, 8], [8, 10, 12]), ([8, 13], [8, 13]), ([14, 8], [14]), ([15], [15]), ([16, 15], [15, 16]), ([15], [15]), ([18, 15, 15], [15, 18]), ([17, 19, 15], [15, 17, 19]), ([15, 20], [15, 20])])
def PlaceS.B1 : List Nat := [0, 1, 3, 7, 15, 31, 63, 127, 255, 511, 1023, 511, 2559, 8191, 16383, 32767, 65535, 131071, 65535, 327679, 1048575, 2097151]
theorem PlaceS.tab1 : rtab .any (opsOf Try.f35 1) = PlaceS.T1 := by kernel_rfl
theorem PlaceS.bits1 : waitsOk PlaceS.T1.2 PlaceS.B1 = true := by kernel_rfl
theorem res_span (tmps : Array Value) (W : World) (BR : Nat) (x y : Int) (b : Bool) (h4 : tmps.getD 4 undef = .pointer (some ⟨BR, 0, none⟩)) (h5 : tmps.getD 5 undef = .bool b) (hB : Sx BR x y W) :
  (results Try.f35 tmps).run Try.prog W = .ok (.tuple #[.agg #[.int .i64 x, .int .i64 y], .bool b]) W := by
 have h4' : tmps[4]?.getD undef = .pointer (some ⟨BR, 0, none⟩) := by simpa using h4
 have h5' : tmps[5]?.getD undef = .bool b := by simpa using h5
 have c0 := hB.c0
 have c1 := hB.c1
 simp [results, Try.results35, h4', h5', c0, c1, go_sem]
def SpanPost (v : (Int × Int) × Bool) (w : World) (e : Ending) (w' : World) : Prop := e = .returned (.tuple #[.agg #[.int .i64 v.1.1, .int .i64 v.1.2], .bool v.2]) ∧ Below w.heap.size w w'
theorem below_set' {B : Nat} {w W : World} (h : Below B w W) {b o : Nat} {u : Value} (hb : B ≤ b) : Below B w (W.setCell ⟨b, o, none⟩ u) := h.setCell (p := ⟨b, o, none⟩) hb u
set_option maxHeartbeats 4000000 in
set_option maxRecDepth 100000 in
theorem span_no1 (A0 : Option Addr) (c0 : Nat) (l0 : List Rn) (xa xb : Int) (w : World) (h : RC w A0 l0) (hc : l0.length ≤ c0) (hl : l0.length ≤ 140737488351232) (hg : good l0 = false) :
  Calls Try.prog 35 #[.slice A0 l0.length c0, .agg #[.int .i64 xa, .int .i64 xb]] w (SpanPost ((0, 0), false) w) := by
 have HG := Aside0.mk (good_c A0 c0 l0 hc hl)
 rw [hg] at HG
 have H0 := Aside0.mk h
 clear h hc hl hg
 go_enter Try.func35, Try.ntmps35
 go_wp2_with fail
 obtain ⟨w2, hw2⟩ : ∃ w2, w2 = (w.alloc (.cells #[.int .i64 xa, .int .i64 xb] 42)).alloc (.cells #[.int .i64 0, .int .i64 0] 42) := ⟨_, rfl⟩
 have hb2 : Below w.heap.size w w2 := by rw [hw2]; exact below_alloc (below_alloc (Below.refl _ _) _) _
 have HB := Aside0.mk hb2
 have HR := Aside0.mk (H0.out.below hb2)
 have X3 := Aside0.mk (show Sx w.heap.size xa xb w2 by rw [hw2]; exact (show Sx w.heap.size xa xb (w.alloc _) from Own.heap_new w _).below (below_alloc (Below.refl _ _) _))
 have X4 := Aside0.mk (show Sx (w.heap.size + 1) 0 0 w2 by
  rw [hw2]
  have := Own.heap_new (w.alloc (.cells #[.int .i64 xa, .int .i64 xb] 42)) (.cells #[.int .i64 0, .int .i64 0] 42)
  rwa [World.size_alloc] at this)
 rw [← hw2]
 clear hw2 hb2
 refine start_ (n := 22) (S := fun w' => True) (ds := []) #[false, false, false, false, false, false, false, false, false, false, false, false, false, false, false, false, false, false, false, false, false, false] (by kernel_rfl) rfl rfl trivial (fun hHeld => ?_); refine with_tabW PlaceS.tab1 PlaceS.bits1 (fun HT_ HW_ => ?_)
 refine inv_at [0, 1, 2, 3, 4, 5, 6, 7, 8, 9, 10, 11, 12, 13, 14, 15, 16, 17, 18, 19, 20, 21] (fun a0_ b a w' => a = putSel a0_ b [(0, 12, (.slice A0 l0.length c0)), (1, 13, (.bool false)), (2, 14, (.bool true)), (3, 15, (.bool true)), (4, 16, undef), (5, 17, undef), (6, 18, undef), (7, 19, (.bool true)), (8, 20, (.bool true)), (9, 21, undef), (10, 22, undef), (11, 23, undef), (12, 24, undef), (13, 25, undef), (14, 26, (.bool true)), (15, 27, (.bool true)), (16, 28, undef), (17, 29, undef), (18, 30, undef), (19, 31, undef), (20, 32, undef), (21, 33, (.bool true))] ∧ (RC w' A0 l0) ∧ (Below w.heap.size w w') ∧ (Sx w.heap.size xa xb w') ∧ (Sx (w.heap.size + 1) 0 0 w')) HT_.out HW_.out (by kernel_rfl) (by kernel_rfl) ?_ ?_ ?_
 ·exact ⟨by simp only [putSel, Bool.false_eq_true, if_false], HR.out.below (below_drew1 (Below.refl _ _)), below_drew1 HB.out, X3.out.below (below_drew1 (Below.refl _ _)), X4.out.below (below_drew1 (Below.refl _ _))⟩
 ·skip
  clear HB HR X3 X4
  refine steps_cons ?_ ?_
  ·rintro b a w' ⟨ha, Q_HR, Q_HB, Q_X3, Q_X4⟩ hb_ hon hoff
   refine ⟨_, rfl, fun K hK => ?_⟩
   have e0 : a.tmps[0]? = some ((.slice A0 l0.length c0)) := by rw [ha]; exact (putSel_off rfl).trans rfl
   replace ha := Aside0.mk ha
   have HR := Aside0.mk Q_HR
   have HB := Aside0.mk Q_HB
   have X3 := Aside0.mk Q_X3
   have X4 := Aside0.mk Q_X4
   refine value_ (w1 := w') (v := (.slice A0 l0.length c0)) (by rfl) rfl ?_ ?_
   ·go_simp
    (try simp only [i64_w])
    try rfl
   refine hK.out _ _ ⟨(by rw [ha.out]; exact putSel_upk 0 hb_ rfl rfl rfl), Q_HR, Q_HB, Q_X3, Q_X4⟩
  refine steps_cons ?_ ?_
  ·rintro b a w' ⟨ha, Q_HR, Q_HB, Q_X3, Q_X4⟩ hb_ hon hoff
   refine ⟨_, rfl, fun K hK => ?_⟩
   have e12 : a.tmps[12]? = some ((.slice A0 l0.length c0)) := by rw [ha]; exact putSel_on (e := (0, 12, (.slice A0 l0.length c0))) 0 rfl rfl (hon 0 (by kernel_rfl)) rfl
   replace ha := Aside0.mk ha
   have HR := Aside0.mk Q_HR
   have HB := Aside0.mk Q_HB
   have X3 := Aside0.mk Q_X3
   have X4 := Aside0.mk Q_X4
   refine goes_ Try.func30 (by kernel_rfl) rfl #[.slice A0 l0.length c0] (by rfl) rfl rfl (by first | (simp only [List.map_toArray, List.map_cons, List.map_nil, Act.eval, Array.getD_eq_getD_getElem?, Option.getD_some, e12]; done) | (simp only [List.map_toArray, List.map_cons, List.map_nil, Act.eval, Array.getD_eq_getD_getElem?, Option.getD_some, e12]; rfl)) ?_
   refine (HG.out _ HR.out).mono ?_
   rintro e w1_ ⟨rfl, hb⟩
   refine ⟨_, rfl, ?_⟩
   refine hK.out _ _ ⟨(by rw [ha.out]; exact putSel_upk 1 hb_ rfl rfl rfl), HR.out.below hb, below_step HB.out hb, X3.out.below hb, X4.out.below hb⟩
  refine steps_cons ?_ ?_
  ·rintro b a w' ⟨ha, Q_HR, Q_HB, Q_X3, Q_X4⟩ hb_ hon hoff
   refine ⟨_, rfl, fun K hK => ?_⟩
   have e13 : a.tmps[13]? = some ((.bool false)) := by rw [ha]; exact putSel_on (e := (1, 13, (.bool false))) 1 rfl rfl (hon 1 (by kernel_rfl)) rfl
   replace ha := Aside0.mk ha
   have HR := Aside0.mk Q_HR
   have HB := Aside0.mk Q_HB
   have X3 := Aside0.mk Q_X3
   have X4 := Aside0.mk Q_X4
   refine value_ (w1 := w') (v := (.bool true)) (by rfl) rfl ?_ ?_
   ·go_simp
    (try simp only [i64_w])
    try rfl
   refine hK.out _ _ ⟨(by rw [ha.out]; exact putSel_upk 2 hb_ rfl rfl rfl), Q_HR, Q_HB, Q_X3, Q_X4⟩
  refine steps_cons ?_ ?_
  ·rintro b a w' ⟨ha, Q_HR, Q_HB, Q_X3, Q_X4⟩ hb_ hon hoff
   refine ⟨_, rfl, fun K hK => ?_⟩
   have e14 : a.tmps[14]? = some ((.bool true)) := by rw [ha]; exact putSel_on (e := (2, 14, (.bool true))) 2 rfl rfl (hon 2 (by kernel_rfl)) rfl
   replace ha := Aside0.mk ha
   have HR := Aside0.mk Q_HR
   have HB := Aside0.mk Q_HB
   have X3 := Aside0.mk Q_X3
   have X4 := Aside0.mk Q_X4
   refine value_ (w1 := w') (v := (.bool true)) (by rfl) rfl ?_ ?_
   ·go_simp
    (try simp only [i64_w])
    try rfl
   refine hK.out _ _ ⟨(by rw [ha.out]; exact putSel_upk 3 hb_ rfl rfl rfl), Q_HR, Q_HB, Q_X3, Q_X4⟩
  refine steps_cons ?_ ?_
  ·rintro b a w' ⟨ha, Q_HR, Q_HB, Q_X3, Q_X4⟩ hb_ hon hoff
   refine ⟨_, rfl, fun K hK => ?_⟩
   have e15 : a.tmps[15]? = some ((.bool true)) := by rw [ha]; exact putSel_on (e := (3, 15, (.bool true))) 3 rfl rfl (hon 3 (by kernel_rfl)) rfl
   replace ha := Aside0.mk ha
   have HR := Aside0.mk Q_HR
   have HB := Aside0.mk Q_HB
   have X3 := Aside0.mk Q_X3
   have X4 := Aside0.mk Q_X4
   refine off_ (wanted_off rfl rfl rfl (e15.trans (by first | rfl | (simp [*]; done)))) ?_
   refine hK.out _ _ ⟨(by rw [ha.out]; exact putSel_upk 4 hb_ rfl rfl rfl), Q_HR, Q_HB, Q_X3, Q_X4⟩
  refine steps_cons ?_ ?_
  ·rintro b a w' ⟨ha, Q_HR, Q_HB, Q_X3, Q_X4⟩ hb_ hon hoff
   refine ⟨_, rfl, fun K hK => ?_⟩
   have e15 : a.tmps[15]? = some ((.bool true)) := by rw [ha]; exact putSel_on (e := (3, 15, (.bool true))) 3 rfl rfl (hon 3 (by kernel_rfl)) rfl
   replace ha := Aside0.mk ha
   have HR := Aside0.mk Q_HR
   have HB := Aside0.mk Q_HB
   have X3 := Aside0.mk Q_X3
   have X4 := Aside0.mk Q_X4
   refine off_ (wanted_off rfl rfl rfl (e15.trans (by first | rfl | (simp [*]; done)))) ?_
   refine hK.out _ _ ⟨(by rw [ha.out]; exact putSel_upk 5 hb_ rfl rfl rfl), Q_HR, Q_HB, Q_X3, Q_X4⟩
  refine steps_cons ?_ ?_
  ·rintro b a w' ⟨ha, Q_HR, Q_HB, Q_X3, Q_X4⟩ hb_ hon hoff
   refine ⟨_, rfl, fun K hK => ?_⟩
   have e15 : a.tmps[15]? = some ((.bool true)) := by rw [ha]; exact putSel_on (e := (3, 15, (.bool true))) 3 rfl rfl (hon 3 (by kernel_rfl)) rfl
   replace ha := Aside0.mk ha
   have HR := Aside0.mk Q_HR
   have HB := Aside0.mk Q_HB
   have X3 := Aside0.mk Q_X3
   have X4 := Aside0.mk Q_X4
   refine off_ (wanted_off rfl rfl rfl (e15.trans (by first | rfl | (simp [*]; done)))) ?_
   refine hK.out _ _ ⟨(by rw [ha.out]; exact putSel_upk 6 hb_ rfl rfl rfl), Q_HR, Q_HB, Q_X3, Q_X4⟩
  refine steps_cons ?_ ?_
  ·rintro b a w' ⟨ha, Q_HR, Q_HB, Q_X3, Q_X4⟩ hb_ hon hoff
   refine ⟨_, rfl, fun K hK => ?_⟩
   have e15 : a.tmps[15]? = some ((.bool true)) := by rw [ha]; exact putSel_on (e := (3, 15, (.bool true))) 3 rfl rfl (hon 3 (by kernel_rfl)) rfl
   have e18 : a.tmps[18]? = some (undef) := by rw [ha]; exact putSel_on (e := (6, 18, undef)) 6 rfl rfl (hon 6 (by kernel_rfl)) rfl
   replace ha := Aside0.mk ha
   have HR := Aside0.mk Q_HR
   have HB := Aside0.mk Q_HB
   have X3 := Aside0.mk Q_X3
   have X4 := Aside0.mk Q_X4
   refine value_ (w1 := w') (v := (.bool true)) (by rfl) rfl ?_ ?_
   ·go_simp
    (try simp only [i64_w])
    try rfl
   refine hK.out _ _ ⟨(by rw [ha.out]; exact putSel_upk 7 hb_ rfl rfl rfl), Q_HR, Q_HB, Q_X3, Q_X4⟩
  refine steps_cons ?_ ?_
  ·rintro b a w' ⟨ha, Q_HR, Q_HB, Q_X3, Q_X4⟩ hb_ hon hoff
   refine ⟨_, rfl, fun K hK => ?_⟩
   have e19 : a.tmps[19]? = some ((.bool true)) := by rw [ha]; exact putSel_on (e := (7, 19, (.bool true))) 7 rfl rfl (hon 7 (by kernel_rfl)) rfl
   replace ha := Aside0.mk ha
   have HR := Aside0.mk Q_HR
   have HB := Aside0.mk Q_HB
   have X3 := Aside0.mk Q_X3
   have X4 := Aside0.mk Q_X4
   refine value_ (w1 := w') (v := (.bool true)) (by rfl) rfl ?_ ?_
   ·go_simp
    (try simp only [i64_w])
    try rfl
   refine hK.out _ _ ⟨(by rw [ha.out]; exact putSel_upk 8 hb_ rfl rfl rfl), Q_HR, Q_HB, Q_X3, Q_X4⟩
  refine steps_cons ?_ ?_
  ·rintro b a w' ⟨ha, Q_HR, Q_HB, Q_X3, Q_X4⟩ hb_ hon hoff
   refine ⟨_, rfl, fun K hK => ?_⟩
   have e20 : a.tmps[20]? = some ((.bool true)) := by rw [ha]; exact putSel_on (e := (8, 20, (.bool true))) 8 rfl rfl (hon 8 (by kernel_rfl)) rfl
   replace ha := Aside0.mk ha
   have HR := Aside0.mk Q_HR
   have HB := Aside0.mk Q_HB
   have X3 := Aside0.mk Q_X3
   have X4 := Aside0.mk Q_X4
   refine off_ (wanted_off rfl rfl rfl (e20.trans (by first | rfl | (simp [*]; done)))) ?_
   refine hK.out _ _ ⟨(by rw [ha.out]; exact putSel_upk 9 hb_ rfl rfl rfl), Q_HR, Q_HB, Q_X3, Q_X4⟩
  refine steps_cons ?_ ?_
  ·rintro b a w' ⟨ha, Q_HR, Q_HB, Q_X3, Q_X4⟩ hb_ hon hoff
   refine ⟨_, rfl, fun K hK => ?_⟩
   have e20 : a.tmps[20]? = some ((.bool true)) := by rw [ha]; exact putSel_on (e := (8, 20, (.bool true))) 8 rfl rfl (hon 8 (by kernel_rfl)) rfl
   replace ha := Aside0.mk ha
   have HR := Aside0.mk Q_HR
   have HB := Aside0.mk Q_HB
   have X3 := Aside0.mk Q_X3
   have X4 := Aside0.mk Q_X4
   refine off_ (wanted_off rfl rfl rfl (e20.trans (by first | rfl | (simp [*]; done)))) ?_
   refine hK.out _ _ ⟨(by rw [ha.out]; exact putSel_upk 10 hb_ rfl rfl rfl), Q_HR, Q_HB, Q_X3, Q_X4⟩
  refine steps_cons ?_ ?_
  ·rintro b a w' ⟨ha, Q_HR, Q_HB, Q_X3, Q_X4⟩ hb_ hon hoff
   refine ⟨_, rfl, fun K hK => ?_⟩
   have e20 : a.tmps[20]? = some ((.bool true)) := by rw [ha]; exact putSel_on (e := (8, 20, (.bool true))) 8 rfl rfl (hon 8 (by kernel_rfl)) rfl
   replace ha := Aside0.mk ha
   have HR := Aside0.mk Q_HR
   have HB := Aside0.mk Q_HB
   have X3 := Aside0.mk Q_X3
   have X4 := Aside0.mk Q_X4
   refine off_ (wanted_off rfl rfl rfl (e20.trans (by first | rfl | (simp [*]; done)))) ?_
   refine hK.out _ _ ⟨(by rw [ha.out]; exact putSel_upk 11 hb_ rfl rfl rfl), Q_HR, Q_HB, Q_X3, Q_X4⟩
  refine steps_cons ?_ ?_
  ·rintro b a w' ⟨ha, Q_HR, Q_HB, Q_X3, Q_X4⟩ hb_ hon hoff
   refine ⟨_, rfl, fun K hK => ?_⟩
   have e20 : a.tmps[20]? = some ((.bool true)) := by rw [ha]; exact putSel_on (e := (8, 20, (.bool true))) 8 rfl rfl (hon 8 (by kernel_rfl)) rfl
   replace ha := Aside0.mk ha
   have HR := Aside0.mk Q_HR
   have HB := Aside0.mk Q_HB
   have X3 := Aside0.mk Q_X3
   have X4 := Aside0.mk Q_X4
   refine off_ (wanted_off rfl rfl rfl (e20.trans (by first | rfl | (simp [*]; done)))) ?_
   refine hK.out _ _ ⟨(by rw [ha.out]; exact putSel_upk 12 hb_ rfl rfl rfl), Q_HR, Q_HB, Q_X3, Q_X4⟩
  refine steps_cons ?_ ?_
  ·rintro b a w' ⟨ha, Q_HR, Q_HB, Q_X3, Q_X4⟩ hb_ hon hoff
   refine ⟨_, rfl, fun K hK => ?_⟩
   have e20 : a.tmps[20]? = some ((.bool true)) := by rw [ha]; exact putSel_on (e := (8, 20, (.bool true))) 8 rfl rfl (hon 8 (by kernel_rfl)) rfl
   replace ha := Aside0.mk ha
   have HR := Aside0.mk Q_HR
   have HB := Aside0.mk Q_HB
   have X3 := Aside0.mk Q_X3
   have X4 := Aside0.mk Q_X4
   refine off_ (wanted_off rfl rfl rfl (e20.trans (by first | rfl | (simp [*]; done)))) ?_
   refine hK.out _ _ ⟨(by rw [ha.out]; exact putSel_upk 13 hb_ rfl rfl rfl), Q_HR, Q_HB, Q_X3, Q_X4⟩
  refine steps_cons ?_ ?_
  ·rintro b a w' ⟨ha, Q_HR, Q_HB, Q_X3, Q_X4⟩ hb_ hon hoff
   refine ⟨_, rfl, fun K hK => ?_⟩
   have e20 : a.tmps[20]? = some ((.bool true)) := by rw [ha]; exact putSel_on (e := (8, 20, (.bool true))) 8 rfl rfl (hon 8 (by kernel_rfl)) rfl
   have e25 : a.tmps[25]? = some (undef) := by rw [ha]; exact putSel_on (e := (13, 25, undef)) 13 rfl rfl (hon 13 (by kernel_rfl)) rfl
   replace ha := Aside0.mk ha
   have HR := Aside0.mk Q_HR
   have HB := Aside0.mk Q_HB
   have X3 := Aside0.mk Q_X3
   have X4 := Aside0.mk Q_X4
   refine value_ (w1 := w') (v := (.bool true)) (by rfl) rfl ?_ ?_
   ·go_simp
    (try simp only [i64_w])
    try rfl
   refine hK.out _ _ ⟨(by rw [ha.out]; exact putSel_upk 14 hb_ rfl rfl rfl), Q_HR, Q_HB, Q_X3, Q_X4⟩
  refine steps_cons ?_ ?_
  ·rintro b a w' ⟨ha, Q_HR, Q_HB, Q_X3, Q_X4⟩ hb_ hon hoff
   refine ⟨_, rfl, fun K hK => ?_⟩
   have e26 : a.tmps[26]? = some ((.bool true)) := by rw [ha]; exact putSel_on (e := (14, 26, (.bool true))) 14 rfl rfl (hon 14 (by kernel_rfl)) rfl
   replace ha := Aside0.mk ha
   have HR := Aside0.mk Q_HR
   have HB := Aside0.mk Q_HB
   have X3 := Aside0.mk Q_X3
   have X4 := Aside0.mk Q_X4
   refine value_ (w1 := w') (v := (.bool true)) (by rfl) rfl ?_ ?_
   ·go_simp
    (try simp only [i64_w])
    try rfl
   refine hK.out _ _ ⟨(by rw [ha.out]; exact putSel_upk 15 hb_ rfl rfl rfl), Q_HR, Q_HB, Q_X3, Q_X4⟩
  refine steps_cons ?_ ?_
  ·rintro b a w' ⟨ha, Q_HR, Q_HB, Q_X3, Q_X4⟩ hb_ hon hoff
   refine ⟨_, rfl, fun K hK => ?_⟩
   have e27 : a.tmps[27]? = some ((.bool true)) := by rw [ha]; exact putSel_on (e := (15, 27, (.bool true))) 15 rfl rfl (hon 15 (by kernel_rfl)) rfl
   replace ha := Aside0.mk ha
   have HR := Aside0.mk Q_HR
   have HB := Aside0.mk Q_HB
   have X3 := Aside0.mk Q_X3
   have X4 := Aside0.mk Q_X4
   refine off_ (wanted_off rfl rfl rfl (e27.trans (by first | rfl | (simp [*]; done)))) ?_
   refine hK.out _ _ ⟨(by rw [ha.out]; exact putSel_upk 16 hb_ rfl rfl rfl), Q_HR, Q_HB, Q_X3, Q_X4⟩
  refine steps_cons ?_ ?_
  ·rintro b a w' ⟨ha, Q_HR, Q_HB, Q_X3, Q_X4⟩ hb_ hon hoff
   refine ⟨_, rfl, fun K hK => ?_⟩
   have e27 : a.tmps[27]? = some ((.bool true)) := by rw [ha]; exact putSel_on (e := (15, 27, (.bool true))) 15 rfl rfl (hon 15 (by kernel_rfl)) rfl
   replace ha := Aside0.mk ha
   have HR := Aside0.mk Q_HR
   have HB := Aside0.mk Q_HB
   have X3 := Aside0.mk Q_X3
   have X4 := Aside0.mk Q_X4
   refine off_ (wanted_off rfl rfl rfl (e27.trans (by first | rfl | (simp [*]; done)))) ?_
   refine hK.out _ _ ⟨(by rw [ha.out]; exact putSel_upk 17 hb_ rfl rfl rfl), Q_HR, Q_HB, Q_X3, Q_X4⟩
  refine steps_cons ?_ ?_
  ·rintro b a w' ⟨ha, Q_HR, Q_HB, Q_X3, Q_X4⟩ hb_ hon hoff
   refine ⟨_, rfl, fun K hK => ?_⟩
   have e27 : a.tmps[27]? = some ((.bool true)) := by rw [ha]; exact putSel_on (e := (15, 27, (.bool true))) 15 rfl rfl (hon 15 (by kernel_rfl)) rfl
   replace ha := Aside0.mk ha
   have HR := Aside0.mk Q_HR
   have HB := Aside0.mk Q_HB
   have X3 := Aside0.mk Q_X3
   have X4 := Aside0.mk Q_X4
   refine off_ (wanted_off rfl rfl rfl (e27.trans (by first | rfl | (simp [*]; done)))) ?_
   refine hK.out _ _ ⟨(by rw [ha.out]; exact putSel_upk 18 hb_ rfl rfl rfl), Q_HR, Q_HB, Q_X3, Q_X4⟩
  refine steps_cons ?_ ?_
  ·rintro b a w' ⟨ha, Q_HR, Q_HB, Q_X3, Q_X4⟩ hb_ hon hoff
   refine ⟨_, rfl, fun K hK => ?_⟩
   have e27 : a.tmps[27]? = some ((.bool true)) := by rw [ha]; exact putSel_on (e := (15, 27, (.bool true))) 15 rfl rfl (hon 15 (by kernel_rfl)) rfl
   replace ha := Aside0.mk ha
   have HR := Aside0.mk Q_HR
   have HB := Aside0.mk Q_HB
   have X3 := Aside0.mk Q_X3
   have X4 := Aside0.mk Q_X4
   refine off_ (wanted_off rfl rfl rfl (e27.trans (by first | rfl | (simp [*]; done)))) ?_
   refine hK.out _ _ ⟨(by rw [ha.out]; exact putSel_upk 19 hb_ rfl rfl rfl), Q_HR, Q_HB, Q_X3, Q_X4⟩
  refine steps_cons ?_ ?_
  ·rintro b a w' ⟨ha, Q_HR, Q_HB, Q_X3, Q_X4⟩ hb_ hon hoff
   refine ⟨_, rfl, fun K hK => ?_⟩
   have e27 : a.tmps[27]? = some ((.bool true)) := by rw [ha]; exact putSel_on (e := (15, 27, (.bool true))) 15 rfl rfl (hon 15 (by kernel_rfl)) rfl
   replace ha := Aside0.mk ha
   have HR := Aside0.mk Q_HR
   have HB := Aside0.mk Q_HB
   have X3 := Aside0.mk Q_X3
   have X4 := Aside0.mk Q_X4
   refine off_ (wanted_off rfl rfl rfl (e27.trans (by first | rfl | (simp [*]; done)))) ?_
   refine hK.out _ _ ⟨(by rw [ha.out]; exact putSel_upk 20 hb_ rfl rfl rfl), Q_HR, Q_HB, Q_X3, Q_X4⟩
  refine steps_cons ?_ ?_
  ·rintro b a w' ⟨ha, Q_HR, Q_HB, Q_X3, Q_X4⟩ hb_ hon hoff
   refine ⟨_, rfl, fun K hK => ?_⟩
   have e27 : a.tmps[27]? = some ((.bool true)) := by rw [ha]; exact putSel_on (e := (15, 27, (.bool true))) 15 rfl rfl (hon 15 (by kernel_rfl)) rfl
   have e32 : a.tmps[32]? = some (undef) := by rw [ha]; exact putSel_on (e := (20, 32, undef)) 20 rfl rfl (hon 20 (by kernel_rfl)) rfl
   replace ha := Aside0.mk ha
   have HR := Aside0.mk Q_HR
   have HB := Aside0.mk Q_HB
   have X3 := Aside0.mk Q_X3
   have X4 := Aside0.mk Q_X4
   refine value_ (w1 := w') (v := (.bool true)) (by rfl) rfl ?_ ?_
   ·go_simp
    (try simp only [i64_w])
    try rfl
   refine hK.out _ _ ⟨(by rw [ha.out]; exact putSel_upk 21 hb_ rfl rfl rfl), Q_HR, Q_HB, Q_X3, Q_X4⟩
  exact steps_nil
 rintro b a we hall ⟨ha, Q_HR, Q_HB, Q_X3, Q_X4⟩
 clear HB HR X3 X4
 have hb0_ := hall 0 (by kernel_rfl)
 have hb1_ := hall 1 (by kernel_rfl)
 have hb2_ := hall 2 (by kernel_rfl)
 have hb3_ := hall 3 (by kernel_rfl)
 have hb4_ := hall 4 (by kernel_rfl)
 have hb5_ := hall 5 (by kernel_rfl)
 have hb6_ := hall 6 (by kernel_rfl)
 have hb7_ := hall 7 (by kernel_rfl)
 have hb8_ := hall 8 (by kernel_rfl)
 have hb9_ := hall 9 (by kernel_rfl)
 have hb10_ := hall 10 (by kernel_rfl)
 have hb11_ := hall 11 (by kernel_rfl)
 have hb12_ := hall 12 (by kernel_rfl)
 have hb13_ := hall 13 (by kernel_rfl)
 have hb14_ := hall 14 (by kernel_rfl)
 have hb15_ := hall 15 (by kernel_rfl)
 have hb16_ := hall 16 (by kernel_rfl)
 have hb17_ := hall 17 (by kernel_rfl)
 have hb18_ := hall 18 (by kernel_rfl)
 have hb19_ := hall 19 (by kernel_rfl)
 have hb20_ := hall 20 (by kernel_rfl)
 have hb21_ := hall 21 (by kernel_rfl)
 subst ha
 simp only [putSel, hb0_, hb1_, hb2_, hb3_, hb4_, hb5_, hb6_, hb7_, hb8_, hb9_, hb10_, hb11_, hb12_, hb13_, hb14_, hb15_, hb16_, hb17_, hb18_, hb19_, hb20_, hb21_, if_true, Act.put, List.setIfInBounds_toArray, List.set_cons_zero, List.set_cons_succ]
 have HR := Aside0.mk Q_HR
 clear Q_HR
 have HB := Aside0.mk Q_HB
 clear Q_HB
 have X3 := Aside0.mk Q_X3
 clear Q_X3
 have X4 := Aside0.mk Q_X4
 clear Q_X4
 clear hall hb0_ hb1_ hb2_ hb3_ hb4_ hb5_ hb6_ hb7_ hb8_ hb9_ hb10_ hb11_ hb12_ hb13_ hb14_ hb15_ hb16_ hb17_ hb18_ hb19_ hb20_ hb21_
 have c40 := X4.out.c0
 have c41 := X4.out.c1
 have f40 := X4.out.fz 0
 have f41 := X4.out.fz 1
 go_wp2_with fail
 refine bodyPost_ret (res_span _ _ (w.heap.size + 1) 0 0 false rfl rfl (blk_put (blk_put X4.out 0 _ rfl) 1 _ rfl)) rfl ?_
 exact ⟨rfl, below_set' (below_set' HB.out (by omega)) (by omega)⟩
set_option maxHeartbeats 4000000 in
set_option maxRecDepth 100000 in
theorem span_no2 (A0 : Option Addr) (c0 : Nat) (l0 : List Rn) (xa xb : Int) (w : World) (h : RC w A0 l0) (hc : l0.length ≤ c0) (hl : l0.length ≤ 140737488351232) (hg : good l0 = true) (ha : xa < 0) :
  Calls Try.prog 35 #[.slice A0 l0.length c0, .agg #[.int .i64 xa, .int .i64 xb]] w (SpanPost ((0, 0), false) w) := by
 have HG := Aside0.mk (good_c A0 c0 l0 hc hl)
 have HI := Aside0.mk (in_c A0 c0 l0 hc hl hg)
 rw [hg] at HG
 have H0 := Aside0.mk h
 clear h hc hl hg
 go_enter Try.func35, Try.ntmps35
 go_wp2_with fail
 obtain ⟨w2, hw2⟩ : ∃ w2, w2 = (w.alloc (.cells #[.int .i64 xa, .int .i64 xb] 42)).alloc (.cells #[.int .i64 0, .int .i64 0] 42) := ⟨_, rfl⟩
 have hb2 : Below w.heap.size w w2 := by rw [hw2]; exact below_alloc (below_alloc (Below.refl _ _) _) _
 have HB := Aside0.mk hb2
 have HR := Aside0.mk (H0.out.below hb2)
 have X3 := Aside0.mk (show Sx w.heap.size xa xb w2 by rw [hw2]; exact (show Sx w.heap.size xa xb (w.alloc _) from Own.heap_new w _).below (below_alloc (Below.refl _ _) _))
 have X4 := Aside0.mk (show Sx (w.heap.size + 1) 0 0 w2 by
  rw [hw2]
  have := Own.heap_new (w.alloc (.cells #[.int .i64 xa, .int .i64 xb] 42)) (.cells #[.int .i64 0, .int .i64 0] 42)
  rwa [World.size_alloc] at this)
 rw [← hw2]
 clear hw2 hb2
 refine start_ (n := 22) (S := fun w' => True) (ds := []) #[false, false, false, false, false, false, false, false, false, false, false, false, false, false, false, false, false, false, false, false, false, false] (by kernel_rfl) rfl rfl trivial (fun hHeld => ?_); refine with_tabW PlaceS.tab1 PlaceS.bits1 (fun HT_ HW_ => ?_)
 refine inv_at [0, 1, 2, 3, 4, 5, 6, 7, 8, 9, 10, 11, 12, 13, 14, 15, 16, 17, 18, 19, 20, 21] (fun a0_ b a w' => a = putSel a0_ b [(0, 12, (.slice A0 l0.length c0)), (1, 13, (.bool true)), (2, 14, (.bool false)), (3, 15, (.bool false)), (4, 16, (.pointer (some ⟨w.heap.size, 0, none⟩))), (5, 17, (.int .i64 xa)), (6, 18, (.bool true)), (7, 19, (.bool true)), (8, 20, (.bool true)), (9, 21, undef), (10, 22, undef), (11, 23, undef), (12, 24, undef), (13, 25, undef), (14, 26, (.bool true)), (15, 27, (.bool true)), (16, 28, undef), (17, 29, undef), (18, 30, undef), (19, 31, undef), (20, 32, undef), (21, 33, (.bool true))] ∧ (RC w' A0 l0) ∧ (Below w.heap.size w w') ∧ (Sx w.heap.size xa xb w') ∧ (Sx (w.heap.size + 1) 0 0 w')) HT_.out HW_.out (by kernel_rfl) (by kernel_rfl) ?_ ?_ ?_
 ·exact ⟨by simp only [putSel, Bool.false_eq_true, if_false], HR.out.below (below_drew1 (Below.refl _ _)), below_drew1 HB.out, X3.out.below (below_drew1 (Below.refl _ _)), X4.out.below (below_drew1 (Below.refl _ _))⟩
 ·skip
  clear HB HR X3 X4
  refine steps_cons ?_ ?_
  ·rintro b a w' ⟨ha, Q_HR, Q_HB, Q_X3, Q_X4⟩ hb_ hon hoff
   refine ⟨_, rfl, fun K hK => ?_⟩
   have e0 : a.tmps[0]? = some ((.slice A0 l0.length c0)) := by rw [ha]; exact (putSel_off rfl).trans rfl
   replace ha := Aside0.mk ha
   have HR := Aside0.mk Q_HR
   have HB := Aside0.mk Q_HB
   have X3 := Aside0.mk Q_X3
   have X4 := Aside0.mk Q_X4
   refine value_ (w1 := w') (v := (.slice A0 l0.length c0)) (by rfl) rfl ?_ ?_
   ·go_simp
    (try simp only [i64_w])
    try rfl
   refine hK.out _ _ ⟨(by rw [ha.out]; exact putSel_upk 0 hb_ rfl rfl rfl), Q_HR, Q_HB, Q_X3, Q_X4⟩
  refine steps_cons ?_ ?_
  ·rintro b a w' ⟨ha, Q_HR, Q_HB, Q_X3, Q_X4⟩ hb_ hon hoff
   refine ⟨_, rfl, fun K hK => ?_⟩
   have e12 : a.tmps[12]? = some ((.slice A0 l0.length c0)) := by rw [ha]; exact putSel_on (e := (0, 12, (.slice A0 l0.length c0))) 0 rfl rfl (hon 0 (by kernel_rfl)) rfl
   replace ha := Aside0.mk ha
   have HR := Aside0.mk Q_HR
   have HB := Aside0.mk Q_HB
   have X3 := Aside0.mk Q_X3
   have X4 := Aside0.mk Q_X4
   refine goes_ Try.func30 (by kernel_rfl) rfl #[.slice A0 l0.length c0] (by rfl) rfl rfl (by first | (simp only [List.map_toArray, List.map_cons, List.map_nil, Act.eval, Array.getD_eq_getD_getElem?, Option.getD_some, e12]; done) | (simp only [List.map_toArray, List.map_cons, List.map_nil, Act.eval, Array.getD_eq_getD_getElem?, Option.getD_some, e12]; rfl)) ?_
   refine (HG.out _ HR.out).mono ?_
   rintro e w1_ ⟨rfl, hb⟩
   refine ⟨_, rfl, ?_⟩
   refine hK.out _ _ ⟨(by rw [ha.out]; exact putSel_upk 1 hb_ rfl rfl rfl), HR.out.below hb, below_step HB.out hb, X3.out.below hb, X4.out.below hb⟩
  refine steps_cons ?_ ?_
  ·rintro b a w' ⟨ha, Q_HR, Q_HB, Q_X3, Q_X4⟩ hb_ hon hoff
   refine ⟨_, rfl, fun K hK => ?_⟩
   have e13 : a.tmps[13]? = some ((.bool true)) := by rw [ha]; exact putSel_on (e := (1, 13, (.bool true))) 1 rfl rfl (hon 1 (by kernel_rfl)) rfl
   replace ha := Aside0.mk ha
   have HR := Aside0.mk Q_HR
   have HB := Aside0.mk Q_HB
   have X3 := Aside0.mk Q_X3
   have X4 := Aside0.mk Q_X4
   refine value_ (w1 := w') (v := (.bool false)) (by rfl) rfl ?_ ?_
   ·go_simp
    (try simp only [i64_w])
    try rfl
   refine hK.out _ _ ⟨(by rw [ha.out]; exact putSel_upk 2 hb_ rfl rfl rfl), Q_HR, Q_HB, Q_X3, Q_X4⟩
  refine steps_cons ?_ ?_
  ·rintro b a w' ⟨ha, Q_HR, Q_HB, Q_X3, Q_X4⟩ hb_ hon hoff
   refine ⟨_, rfl, fun K hK => ?_⟩
   have e14 : a.tmps[14]? = some ((.bool false)) := by rw [ha]; exact putSel_on (e := (2, 14, (.bool false))) 2 rfl rfl (hon 2 (by kernel_rfl)) rfl
   replace ha := Aside0.mk ha
   have HR := Aside0.mk Q_HR
   have HB := Aside0.mk Q_HB
   have X3 := Aside0.mk Q_X3
   have X4 := Aside0.mk Q_X4
   refine value_ (w1 := w') (v := (.bool false)) (by rfl) rfl ?_ ?_
   ·go_simp
    (try simp only [i64_w])
    try rfl
   refine hK.out _ _ ⟨(by rw [ha.out]; exact putSel_upk 3 hb_ rfl rfl rfl), Q_HR, Q_HB, Q_X3, Q_X4⟩
  refine steps_cons ?_ ?_
  ·rintro b a w' ⟨ha, Q_HR, Q_HB, Q_X3, Q_X4⟩ hb_ hon hoff
   refine ⟨_, rfl, fun K hK => ?_⟩
   have e3 : a.tmps[3]? = some ((.pointer (some ⟨w.heap.size, 0, none⟩))) := by rw [ha]; exact (putSel_off rfl).trans rfl
   have e15 : a.tmps[15]? = some ((.bool false)) := by rw [ha]; exact putSel_on (e := (3, 15, (.bool false))) 3 rfl rfl (hon 3 (by kernel_rfl)) rfl
   replace ha := Aside0.mk ha
   have HR := Aside0.mk Q_HR
   have HB := Aside0.mk Q_HB
   have X3 := Aside0.mk Q_X3
   have X4 := Aside0.mk Q_X4
   refine value_ (w1 := w') (v := (.pointer (some ⟨w.heap.size, 0, none⟩))) (wanted_on rfl rfl rfl (e15.trans (by first | rfl | (simp [*]; done)))) rfl ?_ ?_
   ·go_simp
    (try simp only [i64_w])
    try rfl
   refine hK.out _ _ ⟨(by rw [ha.out]; exact putSel_upk 4 hb_ rfl rfl rfl), Q_HR, Q_HB, Q_X3, Q_X4⟩
  refine steps_cons ?_ ?_
  ·rintro b a w' ⟨ha, Q_HR, Q_HB, Q_X3, Q_X4⟩ hb_ hon hoff
   refine ⟨_, rfl, fun K hK => ?_⟩
   have e16 : a.tmps[16]? = some ((.pointer (some ⟨w.heap.size, 0, none⟩))) := by rw [ha]; exact putSel_on (e := (4, 16, (.pointer (some ⟨w.heap.size, 0, none⟩)))) 4 rfl rfl (hon 4 (by kernel_rfl)) rfl
   have e15 : a.tmps[15]? = some ((.bool false)) := by rw [ha]; exact putSel_on (e := (3, 15, (.bool false))) 3 rfl rfl (hon 3 (by kernel_rfl)) rfl
   replace ha := Aside0.mk ha
   have HR := Aside0.mk Q_HR
   have HB := Aside0.mk Q_HB
   have X3 := Aside0.mk Q_X3
   have X4 := Aside0.mk Q_X4
   have hc_ := X3.out.c0
   refine value_ (w1 := w') (v := (.int .i64 xa)) (wanted_on rfl rfl rfl (e15.trans (by first | rfl | (simp [*]; done)))) rfl ?_ ?_
   ·go_simp
    (try simp only [i64_w])
    try rfl
   refine hK.out _ _ ⟨(by rw [ha.out]; exact putSel_upk 5 hb_ rfl rfl rfl), Q_HR, Q_HB, Q_X3, Q_X4⟩
  refine steps_cons ?_ ?_
  ·rintro b a w' ⟨ha, Q_HR, Q_HB, Q_X3, Q_X4⟩ hb_ hon hoff
   refine ⟨_, rfl, fun K hK => ?_⟩
   have e17 : a.tmps[17]? = some ((.int .i64 xa)) := by rw [ha]; exact putSel_on (e := (5, 17, (.int .i64 xa))) 5 rfl rfl (hon 5 (by kernel_rfl)) rfl
   have e15 : a.tmps[15]? = some ((.bool false)) := by rw [ha]; exact putSel_on (e := (3, 15, (.bool false))) 3 rfl rfl (hon 3 (by kernel_rfl)) rfl
   replace ha := Aside0.mk ha
   have HR := Aside0.mk Q_HR
   have HB := Aside0.mk Q_HB
   have X3 := Aside0.mk Q_X3
   have X4 := Aside0.mk Q_X4
   refine value_ (w1 := w') (v := (.bool true)) (wanted_on rfl rfl rfl (e15.trans (by first | rfl | (simp [*]; done)))) rfl ?_ ?_
   ·go_simp
    (try simp only [i64_w])
    try rfl
   refine hK.out _ _ ⟨(by rw [ha.out]; exact putSel_upk 6 hb_ rfl rfl rfl), Q_HR, Q_HB, Q_X3, Q_X4⟩
  refine steps_cons ?_ ?_
  ·rintro b a w' ⟨ha, Q_HR, Q_HB, Q_X3, Q_X4⟩ hb_ hon hoff
   refine ⟨_, rfl, fun K hK => ?_⟩
   have e15 : a.tmps[15]? = some ((.bool false)) := by rw [ha]; exact putSel_on (e := (3, 15, (.bool false))) 3 rfl rfl (hon 3 (by kernel_rfl)) rfl
   have e18 : a.tmps[18]? = some ((.bool true)) := by rw [ha]; exact putSel_on (e := (6, 18, (.bool true))) 6 rfl rfl (hon 6 (by kernel_rfl)) rfl
   replace ha := Aside0.mk ha
   have HR := Aside0.mk Q_HR
   have HB := Aside0.mk Q_HB
   have X3 := Aside0.mk Q_X3
   have X4 := Aside0.mk Q_X4
   refine value_ (w1 := w') (v := (.bool true)) (by rfl) rfl ?_ ?_
   ·go_simp
    (try simp only [i64_w])
    try rfl
   refine hK.out _ _ ⟨(by rw [ha.out]; exact putSel_upk 7 hb_ rfl rfl rfl), Q_HR, Q_HB, Q_X3, Q_X4⟩
  refine steps_cons ?_ ?_
  ·rintro b a w' ⟨ha, Q_HR, Q_HB, Q_X3, Q_X4⟩ hb_ hon hoff
   refine ⟨_, rfl, fun K hK => ?_⟩
   have e19 : a.tmps[19]? = some ((.bool true)) := by rw [ha]; exact putSel_on (e := (7, 19, (.bool true))) 7 rfl rfl (hon 7 (by kernel_rfl)) rfl
   replace ha := Aside0.mk ha
   have HR := Aside0.mk Q_HR
   have HB := Aside0.mk Q_HB
   have X3 := Aside0.mk Q_X3
   have X4 := Aside0.mk Q_X4
   refine value_ (w1 := w') (v := (.bool true)) (by rfl) rfl ?_ ?_
   ·go_simp
    (try simp only [i64_w])
    try rfl
   refine hK.out _ _ ⟨(by rw [ha.out]; exact putSel_upk 8 hb_ rfl rfl rfl), Q_HR, Q_HB, Q_X3, Q_X4⟩
  refine steps_cons ?_ ?_
  ·rintro b a w' ⟨ha, Q_HR, Q_HB, Q_X3, Q_X4⟩ hb_ hon hoff
   refine ⟨_, rfl, fun K hK => ?_⟩
   have e20 : a.tmps[20]? = some ((.bool true)) := by rw [ha]; exact putSel_on (e := (8, 20, (.bool true))) 8 rfl rfl (hon 8 (by kernel_rfl)) rfl
   replace ha := Aside0.mk ha
   have HR := Aside0.mk Q_HR
   have HB := Aside0.mk Q_HB
   have X3 := Aside0.mk Q_X3
   have X4 := Aside0.mk Q_X4
   refine off_ (wanted_off rfl rfl rfl (e20.trans (by first | rfl | (simp [*]; done)))) ?_
   refine hK.out _ _ ⟨(by rw [ha.out]; exact putSel_upk 9 hb_ rfl rfl rfl), Q_HR, Q_HB, Q_X3, Q_X4⟩
  refine steps_cons ?_ ?_
  ·rintro b a w' ⟨ha, Q_HR, Q_HB, Q_X3, Q_X4⟩ hb_ hon hoff
   refine ⟨_, rfl, fun K hK => ?_⟩
   have e20 : a.tmps[20]? = some ((.bool true)) := by rw [ha]; exact putSel_on (e := (8, 20, (.bool true))) 8 rfl rfl (hon 8 (by kernel_rfl)) rfl
   replace ha := Aside0.mk ha
   have HR := Aside0.mk Q_HR
   have HB := Aside0.mk Q_HB
   have X3 := Aside0.mk Q_X3
   have X4 := Aside0.mk Q_X4
   refine off_ (wanted_off rfl rfl rfl (e20.trans (by first | rfl | (simp [*]; done)))) ?_
   refine hK.out _ _ ⟨(by rw [ha.out]; exact putSel_upk 10 hb_ rfl rfl rfl), Q_HR, Q_HB, Q_X3, Q_X4⟩
  refine steps_cons ?_ ?_
  ·rintro b a w' ⟨ha, Q_HR, Q_HB, Q_X3, Q_X4⟩ hb_ hon hoff
   refine ⟨_, rfl, fun K hK => ?_⟩
   have e20 : a.tmps[20]? = some ((.bool true)) := by rw [ha]; exact putSel_on (e := (8, 20, (.bool true))) 8 rfl rfl (hon 8 (by kernel_rfl)) rfl
   replace ha := Aside0.mk ha
   have HR := Aside0.mk Q_HR
   have HB := Aside0.mk Q_HB
   have X3 := Aside0.mk Q_X3
   have X4 := Aside0.mk Q_X4
   refine off_ (wanted_off rfl rfl rfl (e20.trans (by first | rfl | (simp [*]; done)))) ?_
   refine hK.out _ _ ⟨(by rw [ha.out]; exact putSel_upk 11 hb_ rfl rfl rfl), Q_HR, Q_HB, Q_X3, Q_X4⟩
  refine steps_cons ?_ ?_
  ·rintro b a w' ⟨ha, Q_HR, Q_HB, Q_X3, Q_X4⟩ hb_ hon hoff
   refine ⟨_, rfl, fun K hK => ?_⟩
   have e20 : a.tmps[20]? = some ((.bool true)) := by rw [ha]; exact putSel_on (e := (8, 20, (.bool true))) 8 rfl rfl (hon 8 (by kernel_rfl)) rfl
   replace ha := Aside0.mk ha
   have HR := Aside0.mk Q_HR
   have HB := Aside0.mk Q_HB
   have X3 := Aside0.mk Q_X3
   have X4 := Aside0.mk Q_X4
   refine off_ (wanted_off rfl rfl rfl (e20.trans (by first | rfl | (simp [*]; done)))) ?_
   refine hK.out _ _ ⟨(by rw [ha.out]; exact putSel_upk 12 hb_ rfl rfl rfl), Q_HR, Q_HB, Q_X3, Q_X4⟩
  refine steps_cons ?_ ?_
  ·rintro b a w' ⟨ha, Q_HR, Q_HB, Q_X3, Q_X4⟩ hb_ hon hoff
   refine ⟨_, rfl, fun K hK => ?_⟩
   have e20 : a.tmps[20]? = some ((.bool true)) := by rw [ha]; exact putSel_on (e := (8, 20, (.bool true))) 8 rfl rfl (hon 8 (by kernel_rfl)) rfl
   replace ha := Aside0.mk ha
   have HR := Aside0.mk Q_HR
   have HB := Aside0.mk Q_HB
   have X3 := Aside0.mk Q_X3
   have X4 := Aside0.mk Q_X4
   refine off_ (wanted_off rfl rfl rfl (e20.trans (by first | rfl | (simp [*]; done)))) ?_
   refine hK.out _ _ ⟨(by rw [ha.out]; exact putSel_upk 13 hb_ rfl rfl rfl), Q_HR, Q_HB, Q_X3, Q_X4⟩
  refine steps_cons ?_ ?_
  ·rintro b a w' ⟨ha, Q_HR, Q_HB, Q_X3, Q_X4⟩ hb_ hon hoff
   refine ⟨_, rfl, fun K hK => ?_⟩
   have e20 : a.tmps[20]? = some ((.bool true)) := by rw [ha]; exact putSel_on (e := (8, 20, (.bool true))) 8 rfl rfl (hon 8 (by kernel_rfl)) rfl
   have e25 : a.tmps[25]? = some (undef) := by rw [ha]; exact putSel_on (e := (13, 25, undef)) 13 rfl rfl (hon 13 (by kernel_rfl)) rfl
   replace ha := Aside0.mk ha
   have HR := Aside0.mk Q_HR
   have HB := Aside0.mk Q_HB
   have X3 := Aside0.mk Q_X3
   have X4 := Aside0.mk Q_X4
   refine value_ (w1 := w') (v := (.bool true)) (by rfl) rfl ?_ ?_
   ·go_simp
    (try simp only [i64_w])
    try rfl
   refine hK.out _ _ ⟨(by rw [ha.out]; exact putSel_upk 14 hb_ rfl rfl rfl), Q_HR, Q_HB, Q_X3, Q_X4⟩
  refine steps_cons ?_ ?_
  ·rintro b a w' ⟨ha, Q_HR, Q_HB, Q_X3, Q_X4⟩ hb_ hon hoff
   refine ⟨_, rfl, fun K hK => ?_⟩
   have e26 : a.tmps[26]? = some ((.bool true)) := by rw [ha]; exact putSel_on (e := (14, 26, (.bool true))) 14 rfl rfl (hon 14 (by kernel_rfl)) rfl
   replace ha := Aside0.mk ha
   have HR := Aside0.mk Q_HR
   have HB := Aside0.mk Q_HB
   have X3 := Aside0.mk Q_X3
   have X4 := Aside0.mk Q_X4
   refine value_ (w1 := w') (v := (.bool true)) (by rfl) rfl ?_ ?_
   ·go_simp
    (try simp only [i64_w])
    try rfl
   refine hK.out _ _ ⟨(by rw [ha.out]; exact putSel_upk 15 hb_ rfl rfl rfl), Q_HR, Q_HB, Q_X3, Q_X4⟩
  refine steps_cons ?_ ?_
  ·rintro b a w' ⟨ha, Q_HR, Q_HB, Q_X3, Q_X4⟩ hb_ hon hoff
   refine ⟨_, rfl, fun K hK => ?_⟩
   have e27 : a.tmps[27]? = some ((.bool true)) := by rw [ha]; exact putSel_on (e := (15, 27, (.bool true))) 15 rfl rfl (hon 15 (by kernel_rfl)) rfl
   replace ha := Aside0.mk ha
   have HR := Aside0.mk Q_HR
   have HB := Aside0.mk Q_HB
   have X3 := Aside0.mk Q_X3
   have X4 := Aside0.mk Q_X4
   refine off_ (wanted_off rfl rfl rfl (e27.trans (by first | rfl | (simp [*]; done)))) ?_
   refine hK.out _ _ ⟨(by rw [ha.out]; exact putSel_upk 16 hb_ rfl rfl rfl), Q_HR, Q_HB, Q_X3, Q_X4⟩
  refine steps_cons ?_ ?_
  ·rintro b a w' ⟨ha, Q_HR, Q_HB, Q_X3, Q_X4⟩ hb_ hon hoff
   refine ⟨_, rfl, fun K hK => ?_⟩
   have e27 : a.tmps[27]? = some ((.bool true)) := by rw [ha]; exact putSel_on (e := (15, 27, (.bool true))) 15 rfl rfl (hon 15 (by kernel_rfl)) rfl
   replace ha := Aside0.mk ha
   have HR := Aside0.mk Q_HR
   have HB := Aside0.mk Q_HB
   have X3 := Aside0.mk Q_X3
   have X4 := Aside0.mk Q_X4
   refine off_ (wanted_off rfl rfl rfl (e27.trans (by first | rfl | (simp [*]; done)))) ?_
   refine hK.out _ _ ⟨(by rw [ha.out]; exact putSel_upk 17 hb_ rfl rfl rfl), Q_HR, Q_HB, Q_X3, Q_X4⟩
  refine steps_cons ?_ ?_
  ·rintro b a w' ⟨ha, Q_HR, Q_HB, Q_X3, Q_X4⟩ hb_ hon hoff
   refine ⟨_, rfl, fun K hK => ?_⟩
   have e27 : a.tmps[27]? = some ((.bool true)) := by rw [ha]; exact putSel_on (e := (15, 27, (.bool true))) 15 rfl rfl (hon 15 (by kernel_rfl)) rfl
   replace ha := Aside0.mk ha
   have HR := Aside0.mk Q_HR
   have HB := Aside0.mk Q_HB
   have X3 := Aside0.mk Q_X3
   have X4 := Aside0.mk Q_X4
   refine off_ (wanted_off rfl rfl rfl (e27.trans (by first | rfl | (simp [*]; done)))) ?_
   refine hK.out _ _ ⟨(by rw [ha.out]; exact putSel_upk 18 hb_ rfl rfl rfl), Q_HR, Q_HB, Q_X3, Q_X4⟩
  refine steps_cons ?_ ?_
  ·rintro b a w' ⟨ha, Q_HR, Q_HB, Q_X3, Q_X4⟩ hb_ hon hoff
   refine ⟨_, rfl, fun K hK => ?_⟩
   have e27 : a.tmps[27]? = some ((.bool true)) := by rw [ha]; exact putSel_on (e := (15, 27, (.bool true))) 15 rfl rfl (hon 15 (by kernel_rfl)) rfl
   replace ha := Aside0.mk ha
   have HR := Aside0.mk Q_HR
   have HB := Aside0.mk Q_HB
   have X3 := Aside0.mk Q_X3
   have X4 := Aside0.mk Q_X4
   refine off_ (wanted_off rfl rfl rfl (e27.trans (by first | rfl | (simp [*]; done)))) ?_
   refine hK.out _ _ ⟨(by rw [ha.out]; exact putSel_upk 19 hb_ rfl rfl rfl), Q_HR, Q_HB, Q_X3, Q_X4⟩
  refine steps_cons ?_ ?_
  ·rintro b a w' ⟨ha, Q_HR, Q_HB, Q_X3, Q_X4⟩ hb_ hon hoff
   refine ⟨_, rfl, fun K hK => ?_⟩
   have e27 : a.tmps[27]? = some ((.bool true)) := by rw [ha]; exact putSel_on (e := (15, 27, (.bool true))) 15 rfl rfl (hon 15 (by kernel_rfl)) rfl
   replace ha := Aside0.mk ha
   have HR := Aside0.mk Q_HR
   have HB := Aside0.mk Q_HB
   have X3 := Aside0.mk Q_X3
   have X4 := Aside0.mk Q_X4
   refine off_ (wanted_off rfl rfl rfl (e27.trans (by first | rfl | (simp [*]; done)))) ?_
   refine hK.out _ _ ⟨(by rw [ha.out]; exact putSel_upk 20 hb_ rfl rfl rfl), Q_HR, Q_HB, Q_X3, Q_X4⟩
  refine steps_cons ?_ ?_
  ·rintro b a w' ⟨ha, Q_HR, Q_HB, Q_X3, Q_X4⟩ hb_ hon hoff
   refine ⟨_, rfl, fun K hK => ?_⟩
   have e27 : a.tmps[27]? = some ((.bool true)) := by rw [ha]; exact putSel_on (e := (15, 27, (.bool true))) 15 rfl rfl (hon 15 (by kernel_rfl)) rfl
   have e32 : a.tmps[32]? = some (undef) := by rw [ha]; exact putSel_on (e := (20, 32, undef)) 20 rfl rfl (hon 20 (by kernel_rfl)) rfl
   replace ha := Aside0.mk ha
   have HR := Aside0.mk Q_HR
   have HB := Aside0.mk Q_HB
   have X3 := Aside0.mk Q_X3
   have X4 := Aside0.mk Q_X4
   refine value_ (w1 := w') (v := (.bool true)) (by rfl) rfl ?_ ?_
   ·go_simp
    (try simp only [i64_w])
    try rfl
   refine hK.out _ _ ⟨(by rw [ha.out]; exact putSel_upk 21 hb_ rfl rfl rfl), Q_HR, Q_HB, Q_X3, Q_X4⟩
  exact steps_nil
 rintro b a we hall ⟨ha, Q_HR, Q_HB, Q_X3, Q_X4⟩
 clear HB HR X3 X4
 have hb0_ := hall 0 (by kernel_rfl)
 have hb1_ := hall 1 (by kernel_rfl)
 have hb2_ := hall 2 (by kernel_rfl)
 have hb3_ := hall 3 (by kernel_rfl)
 have hb4_ := hall 4 (by kernel_rfl)
 have hb5_ := hall 5 (by kernel_rfl)
 have hb6_ := hall 6 (by kernel_rfl)
 have hb7_ := hall 7 (by kernel_rfl)
 have hb8_ := hall 8 (by kernel_rfl)
 have hb9_ := hall 9 (by kernel_rfl)
 have hb10_ := hall 10 (by kernel_rfl)
 have hb11_ := hall 11 (by kernel_rfl)
 have hb12_ := hall 12 (by kernel_rfl)
 have hb13_ := hall 13 (by kernel_rfl)
 have hb14_ := hall 14 (by kernel_rfl)
 have hb15_ := hall 15 (by kernel_rfl)
 have hb16_ := hall 16 (by kernel_rfl)
 have hb17_ := hall 17 (by kernel_rfl)
 have hb18_ := hall 18 (by kernel_rfl)
 have hb19_ := hall 19 (by kernel_rfl)
 have hb20_ := hall 20 (by kernel_rfl)
 have hb21_ := hall 21 (by kernel_rfl)
 subst ha
 simp only [putSel, hb0_, hb1_, hb2_, hb3_, hb4_, hb5_, hb6_, hb7_, hb8_, hb9_, hb10_, hb11_, hb12_, hb13_, hb14_, hb15_, hb16_, hb17_, hb18_, hb19_, hb20_, hb21_, if_true, Act.put, List.setIfInBounds_toArray, List.set_cons_zero, List.set_cons_succ]
 have HR := Aside0.mk Q_HR
 clear Q_HR
 have HB := Aside0.mk Q_HB
 clear Q_HB
 have X3 := Aside0.mk Q_X3
 clear Q_X3
 have X4 := Aside0.mk Q_X4
 clear Q_X4
 clear hall hb0_ hb1_ hb2_ hb3_ hb4_ hb5_ hb6_ hb7_ hb8_ hb9_ hb10_ hb11_ hb12_ hb13_ hb14_ hb15_ hb16_ hb17_ hb18_ hb19_ hb20_ hb21_
 have c40 := X4.out.c0
 have c41 := X4.out.c1
 have f40 := X4.out.fz 0
 have f41 := X4.out.fz 1
 go_wp2_with fail
 refine bodyPost_ret (res_span _ _ (w.heap.size + 1) 0 0 false rfl rfl (blk_put (blk_put X4.out 0 _ rfl) 1 _ rfl)) rfl ?_
 exact ⟨rfl, below_set' (below_set' HB.out (by omega)) (by omega)⟩
set_option maxHeartbeats 4000000 in
set_option maxRecDepth 100000 in
theorem span_no3 (A0 : Option Addr) (c0 : Nat) (l0 : List Rn) (xa xb : Int) (w : World) (h : RC w A0 l0) (hc : l0.length ≤ c0) (hl : l0.length ≤ 140737488351232) (hg : good l0 = true) (ha : 0 ≤ xa) (hab : xb < xa) :
  Calls Try.prog 35 #[.slice A0 l0.length c0, .agg #[.int .i64 xa, .int .i64 xb]] w (SpanPost ((0, 0), false) w) := by
 have HG := Aside0.mk (good_c A0 c0 l0 hc hl)
 have HI := Aside0.mk (in_c A0 c0 l0 hc hl hg)
 rw [hg] at HG
 have H0 := Aside0.mk h
 have a1 : decide (xa < 0) = false := by simp; omega
 have a2 : decide (xb < xa) = true := by simpa using hab
 clear h hc hl hg
 go_enter Try.func35, Try.ntmps35
 go_wp2_with fail
 obtain ⟨w2, hw2⟩ : ∃ w2, w2 = (w.alloc (.cells #[.int .i64 xa, .int .i64 xb] 42)).alloc (.cells #[.int .i64 0, .int .i64 0] 42) := ⟨_, rfl⟩
 have hb2 : Below w.heap.size w w2 := by rw [hw2]; exact below_alloc (below_alloc (Below.refl _ _) _) _
 have HB := Aside0.mk hb2
 have HR := Aside0.mk (H0.out.below hb2)
 have X3 := Aside0.mk (show Sx w.heap.size xa xb w2 by rw [hw2]; exact (show Sx w.heap.size xa xb (w.alloc _) from Own.heap_new w _).below (below_alloc (Below.refl _ _) _))
 have X4 := Aside0.mk (show Sx (w.heap.size + 1) 0 0 w2 by
  rw [hw2]
  have := Own.heap_new (w.alloc (.cells #[.int .i64 xa, .int .i64 xb] 42)) (.cells #[.int .i64 0, .int .i64 0] 42)
  rwa [World.size_alloc] at this)
 rw [← hw2]
 clear hw2 hb2
 refine start_ (n := 22) (S := fun w' => True) (ds := []) #[false, false, false, false, false, false, false, false, false, false, false, false, false, false, false, false, false, false, false, false, false, false] (by kernel_rfl) rfl rfl trivial (fun hHeld => ?_); refine with_tabW PlaceS.tab1 PlaceS.bits1 (fun HT_ HW_ => ?_)
 refine inv_at [0, 1, 2, 3, 4, 5, 6, 7, 8, 9, 10, 11, 12, 13, 14, 15, 16, 17, 18, 19, 20, 21] (fun a0_ b a w' => a = putSel a0_ b [(0, 12, (.slice A0 l0.length c0)), (1, 13, (.bool true)), (2, 14, (.bool false)), (3, 15, (.bool false)), (4, 16, (.pointer (some ⟨w.heap.size, 0, none⟩))), (5, 17, (.int .i64 xa)), (6, 18, (.bool false)), (7, 19, (.bool false)), (8, 20, (.bool false)), (9, 21, (.pointer (some ⟨w.heap.size, 0, none⟩))), (10, 22, (.int .i64 xa)), (11, 23, (.pointer (some ⟨w.heap.size, 1, none⟩))), (12, 24, (.int .i64 xb)), (13, 25, (.bool true)), (14, 26, (.bool true)), (15, 27, (.bool true)), (16, 28, undef), (17, 29, undef), (18, 30, undef), (19, 31, undef), (20, 32, undef), (21, 33, (.bool true))] ∧ (RC w' A0 l0) ∧ (Below w.heap.size w w') ∧ (Sx w.heap.size xa xb w') ∧ (Sx (w.heap.size + 1) 0 0 w')) HT_.out HW_.out (by kernel_rfl) (by kernel_rfl) ?_ ?_ ?_
 ·exact ⟨by simp only [putSel, Bool.false_eq_true, if_false], HR.out.below (below_drew1 (Below.refl _ _)), below_drew1 HB.out, X3.out.below (below_drew1 (Below.refl _ _)), X4.out.below (below_drew1 (Below.refl _ _))⟩
 ·skip
  clear HB HR X3 X4
  refine steps_cons ?_ ?_
  ·rintro b a w' ⟨ha, Q_HR, Q_HB, Q_X3, Q_X4⟩ hb_ hon hoff
   refine ⟨_, rfl, fun K hK => ?_⟩
   have e0 : a.tmps[0]? = some ((.slice A0 l0.length c0)) := by rw [ha]; exact (putSel_off rfl).trans rfl
   replace ha := Aside0.mk ha
   have HR := Aside0.mk Q_HR
   have HB := Aside0.mk Q_HB
   have X3 := Aside0.mk Q_X3
   have X4 := Aside0.mk Q_X4
   refine value_ (w1 := w') (v := (.slice A0 l0.length c0)) (by rfl) rfl ?_ ?_
   ·go_simp
    (try simp only [i64_w])
    try rfl
   refine hK.out _ _ ⟨(by rw [ha.out]; exact putSel_upk 0 hb_ rfl rfl rfl), Q_HR, Q_HB, Q_X3, Q_X4⟩
  refine steps_cons ?_ ?_
  ·rintro b a w' ⟨ha, Q_HR, Q_HB, Q_X3, Q_X4⟩ hb_ hon hoff
   refine ⟨_, rfl, fun K hK => ?_⟩
   have e12 : a.tmps[12]? = some ((.slice A0 l0.length c0)) := by rw [ha]; exact putSel_on (e := (0, 12, (.slice A0 l0.length c0))) 0 rfl rfl (hon 0 (by kernel_rfl)) rfl
   replace ha := Aside0.mk ha
   have HR := Aside0.mk Q_HR
   have HB := Aside0.mk Q_HB
   have X3 := Aside0.mk Q_X3
   have X4 := Aside0.mk Q_X4
   refine goes_ Try.func30 (by kernel_rfl) rfl #[.slice A0 l0.length c0] (by rfl) rfl rfl (by first | (simp only [List.map_toArray, List.map_cons, List.map_nil, Act.eval, Array.getD_eq_getD_getElem?, Option.getD_some, e12]; done) | (simp only [List.map_toArray, List.map_cons, List.map_nil, Act.eval, Array.getD_eq_getD_getElem?, Option.getD_some, e12]; rfl)) ?_
   refine (HG.out _ HR.out).mono ?_
   rintro e w1_ ⟨rfl, hb⟩
   refine ⟨_, rfl, ?_⟩
   refine hK.out _ _ ⟨(by rw [ha.out]; exact putSel_upk 1 hb_ rfl rfl rfl), HR.out.below hb, below_step HB.out hb, X3.out.below hb, X4.out.below hb⟩
  refine steps_cons ?_ ?_
  ·rintro b a w' ⟨ha, Q_HR, Q_HB, Q_X3, Q_X4⟩ hb_ hon hoff
   refine ⟨_, rfl, fun K hK => ?_⟩
   have e13 : a.tmps[13]? = some ((.bool true)) := by rw [ha]; exact putSel_on (e := (1, 13, (.bool true))) 1 rfl rfl (hon 1 (by kernel_rfl)) rfl
   replace ha := Aside0.mk ha
   have HR := Aside0.mk Q_HR
   have HB := Aside0.mk Q_HB
   have X3 := Aside0.mk Q_X3
   have X4 := Aside0.mk Q_X4
   refine value_ (w1 := w') (v := (.bool false)) (by rfl) rfl ?_ ?_
   ·go_simp
    (try simp only [i64_w])
    try rfl
   refine hK.out _ _ ⟨(by rw [ha.out]; exact putSel_upk 2 hb_ rfl rfl rfl), Q_HR, Q_HB, Q_X3, Q_X4⟩
  refine steps_cons ?_ ?_
  ·rintro b a w' ⟨ha, Q_HR, Q_HB, Q_X3, Q_X4⟩ hb_ hon hoff
   refine ⟨_, rfl, fun K hK => ?_⟩
   have e14 : a.tmps[14]? = some ((.bool false)) := by rw [ha]; exact putSel_on (e := (2, 14, (.bool false))) 2 rfl rfl (hon 2 (by kernel_rfl)) rfl
   replace ha := Aside0.mk ha
   have HR := Aside0.mk Q_HR
   have HB := Aside0.mk Q_HB
   have X3 := Aside0.mk Q_X3
   have X4 := Aside0.mk Q_X4
   refine value_ (w1 := w') (v := (.bool false)) (by rfl) rfl ?_ ?_
   ·go_simp
    (try simp only [i64_w])
    try rfl
   refine hK.out _ _ ⟨(by rw [ha.out]; exact putSel_upk 3 hb_ rfl rfl rfl), Q_HR, Q_HB, Q_X3, Q_X4⟩
  refine steps_cons ?_ ?_
  ·rintro b a w' ⟨ha, Q_HR, Q_HB, Q_X3, Q_X4⟩ hb_ hon hoff
   refine ⟨_, rfl, fun K hK => ?_⟩
   have e3 : a.tmps[3]? = some ((.pointer (some ⟨w.heap.size, 0, none⟩))) := by rw [ha]; exact (putSel_off rfl).trans rfl
   have e15 : a.tmps[15]? = some ((.bool false)) := by rw [ha]; exact putSel_on (e := (3, 15, (.bool false))) 3 rfl rfl (hon 3 (by kernel_rfl)) rfl
   replace ha := Aside0.mk ha
   have HR := Aside0.mk Q_HR
   have HB := Aside0.mk Q_HB
   have X3 := Aside0.mk Q_X3
   have X4 := Aside0.mk Q_X4
   refine value_ (w1 := w') (v := (.pointer (some ⟨w.heap.size, 0, none⟩))) (wanted_on rfl rfl rfl (e15.trans (by first | rfl | (simp [*]; done)))) rfl ?_ ?_
   ·go_simp
    (try simp only [i64_w])
    try rfl
   refine hK.out _ _ ⟨(by rw [ha.out]; exact putSel_upk 4 hb_ rfl rfl rfl), Q_HR, Q_HB, Q_X3, Q_X4⟩
  refine steps_cons ?_ ?_
  ·rintro b a w' ⟨ha, Q_HR, Q_HB, Q_X3, Q_X4⟩ hb_ hon hoff
   refine ⟨_, rfl, fun K hK => ?_⟩
   have e16 : a.tmps[16]? = some ((.pointer (some ⟨w.heap.size, 0, none⟩))) := by rw [ha]; exact putSel_on (e := (4, 16, (.pointer (some ⟨w.heap.size, 0, none⟩)))) 4 rfl rfl (hon 4 (by kernel_rfl)) rfl
   have e15 : a.tmps[15]? = some ((.bool false)) := by rw [ha]; exact putSel_on (e := (3, 15, (.bool false))) 3 rfl rfl (hon 3 (by kernel_rfl)) rfl
   replace ha := Aside0.mk ha
   have HR := Aside0.mk Q_HR
   have HB := Aside0.mk Q_HB
   have X3 := Aside0.mk Q_X3
   have X4 := Aside0.mk Q_X4
   have hc_ := X3.out.c0
   refine value_ (w1 := w') (v := (.int .i64 xa)) (wanted_on rfl rfl rfl (e15.trans (by first | rfl | (simp [*]; done)))) rfl ?_ ?_
   ·go_simp
    (try simp only [i64_w])
    try rfl
   refine hK.out _ _ ⟨(by rw [ha.out]; exact putSel_upk 5 hb_ rfl rfl rfl), Q_HR, Q_HB, Q_X3, Q_X4⟩
  refine steps_cons ?_ ?_
  ·rintro b a w' ⟨ha, Q_HR, Q_HB, Q_X3, Q_X4⟩ hb_ hon hoff
   refine ⟨_, rfl, fun K hK => ?_⟩
   have e17 : a.tmps[17]? = some ((.int .i64 xa)) := by rw [ha]; exact putSel_on (e := (5, 17, (.int .i64 xa))) 5 rfl rfl (hon 5 (by kernel_rfl)) rfl
   have e15 : a.tmps[15]? = some ((.bool false)) := by rw [ha]; exact putSel_on (e := (3, 15, (.bool false))) 3 rfl rfl (hon 3 (by kernel_rfl)) rfl
   replace ha := Aside0.mk ha
   have HR := Aside0.mk Q_HR
   have HB := Aside0.mk Q_HB
   have X3 := Aside0.mk Q_X3
   have X4 := Aside0.mk Q_X4
   refine value_ (w1 := w') (v := (.bool false)) (wanted_on rfl rfl rfl (e15.trans (by first | rfl | (simp [*]; done)))) rfl ?_ ?_
   ·go_simp
    (try simp only [i64_w])
    try rfl
   refine hK.out _ _ ⟨(by rw [ha.out]; exact putSel_upk 6 hb_ rfl rfl rfl), Q_HR, Q_HB, Q_X3, Q_X4⟩
  refine steps_cons ?_ ?_
  ·rintro b a w' ⟨ha, Q_HR, Q_HB, Q_X3, Q_X4⟩ hb_ hon hoff
   refine ⟨_, rfl, fun K hK => ?_⟩
   have e15 : a.tmps[15]? = some ((.bool false)) := by rw [ha]; exact putSel_on (e := (3, 15, (.bool false))) 3 rfl rfl (hon 3 (by kernel_rfl)) rfl
   have e18 : a.tmps[18]? = some ((.bool false)) := by rw [ha]; exact putSel_on (e := (6, 18, (.bool false))) 6 rfl rfl (hon 6 (by kernel_rfl)) rfl
   replace ha := Aside0.mk ha
   have HR := Aside0.mk Q_HR
   have HB := Aside0.mk Q_HB
   have X3 := Aside0.mk Q_X3
   have X4 := Aside0.mk Q_X4
   refine value_ (w1 := w') (v := (.bool false)) (by rfl) rfl ?_ ?_
   ·go_simp
    (try simp only [i64_w])
    try rfl
   refine hK.out _ _ ⟨(by rw [ha.out]; exact putSel_upk 7 hb_ rfl rfl rfl), Q_HR, Q_HB, Q_X3, Q_X4⟩
  refine steps_cons ?_ ?_
  ·rintro b a w' ⟨ha, Q_HR, Q_HB, Q_X3, Q_X4⟩ hb_ hon hoff
   refine ⟨_, rfl, fun K hK => ?_⟩
   have e19 : a.tmps[19]? = some ((.bool false)) := by rw [ha]; exact putSel_on (e := (7, 19, (.bool false))) 7 rfl rfl (hon 7 (by kernel_rfl)) rfl
   replace ha := Aside0.mk ha
   have HR := Aside0.mk Q_HR
   have HB := Aside0.mk Q_HB
   have X3 := Aside0.mk Q_X3
   have X4 := Aside0.mk Q_X4
   refine value_ (w1 := w') (v := (.bool false)) (by rfl) rfl ?_ ?_
   ·go_simp
    (try simp only [i64_w])
    try rfl
   refine hK.out _ _ ⟨(by rw [ha.out]; exact putSel_upk 8 hb_ rfl rfl rfl), Q_HR, Q_HB, Q_X3, Q_X4⟩
  refine steps_cons ?_ ?_
  ·rintro b a w' ⟨ha, Q_HR, Q_HB, Q_X3, Q_X4⟩ hb_ hon hoff
   refine ⟨_, rfl, fun K hK => ?_⟩
   have e3 : a.tmps[3]? = some ((.pointer (some ⟨w.heap.size, 0, none⟩))) := by rw [ha]; exact (putSel_off rfl).trans rfl
   have e20 : a.tmps[20]? = some ((.bool false)) := by rw [ha]; exact putSel_on (e := (8, 20, (.bool false))) 8 rfl rfl (hon 8 (by kernel_rfl)) rfl
   replace ha := Aside0.mk ha
   have HR := Aside0.mk Q_HR
   have HB := Aside0.mk Q_HB
   have X3 := Aside0.mk Q_X3
   have X4 := Aside0.mk Q_X4
   refine value_ (w1 := w') (v := (.pointer (some ⟨w.heap.size, 0, none⟩))) (wanted_on rfl rfl rfl (e20.trans (by first | rfl | (simp [*]; done)))) rfl ?_ ?_
   ·go_simp
    (try simp only [i64_w])
    try rfl
   refine hK.out _ _ ⟨(by rw [ha.out]; exact putSel_upk 9 hb_ rfl rfl rfl), Q_HR, Q_HB, Q_X3, Q_X4⟩
  refine steps_cons ?_ ?_
  ·rintro b a w' ⟨ha, Q_HR, Q_HB, Q_X3, Q_X4⟩ hb_ hon hoff
   refine ⟨_, rfl, fun K hK => ?_⟩
   have e21 : a.tmps[21]? = some ((.pointer (some ⟨w.heap.size, 0, none⟩))) := by rw [ha]; exact putSel_on (e := (9, 21, (.pointer (some ⟨w.heap.size, 0, none⟩)))) 9 rfl rfl (hon 9 (by kernel_rfl)) rfl
   have e20 : a.tmps[20]? = some ((.bool false)) := by rw [ha]; exact putSel_on (e := (8, 20, (.bool false))) 8 rfl rfl (hon 8 (by kernel_rfl)) rfl
   replace ha := Aside0.mk ha
   have HR := Aside0.mk Q_HR
   have HB := Aside0.mk Q_HB
   have X3 := Aside0.mk Q_X3
   have X4 := Aside0.mk Q_X4
   have hc_ := X3.out.c0
   refine value_ (w1 := w') (v := (.int .i64 xa)) (wanted_on rfl rfl rfl (e20.trans (by first | rfl | (simp [*]; done)))) rfl ?_ ?_
   ·go_simp
    (try simp only [i64_w])
    try rfl
   refine hK.out _ _ ⟨(by rw [ha.out]; exact putSel_upk 10 hb_ rfl rfl rfl), Q_HR, Q_HB, Q_X3, Q_X4⟩
  refine steps_cons ?_ ?_
  ·rintro b a w' ⟨ha, Q_HR, Q_HB, Q_X3, Q_X4⟩ hb_ hon hoff
   refine ⟨_, rfl, fun K hK => ?_⟩
   have e3 : a.tmps[3]? = some ((.pointer (some ⟨w.heap.size, 0, none⟩))) := by rw [ha]; exact (putSel_off rfl).trans rfl
   have e20 : a.tmps[20]? = some ((.bool false)) := by rw [ha]; exact putSel_on (e := (8, 20, (.bool false))) 8 rfl rfl (hon 8 (by kernel_rfl)) rfl
   replace ha := Aside0.mk ha
   have HR := Aside0.mk Q_HR
   have HB := Aside0.mk Q_HB
   have X3 := Aside0.mk Q_X3
   have X4 := Aside0.mk Q_X4
   refine value_ (w1 := w') (v := (.pointer (some ⟨w.heap.size, 1, none⟩))) (wanted_on rfl rfl rfl (e20.trans (by first | rfl | (simp [*]; done)))) rfl ?_ ?_
   ·go_simp
    (try simp only [i64_w])
    try rfl
   refine hK.out _ _ ⟨(by rw [ha.out]; exact putSel_upk 11 hb_ rfl rfl rfl), Q_HR, Q_HB, Q_X3, Q_X4⟩
  refine steps_cons ?_ ?_
  ·rintro b a w' ⟨ha, Q_HR, Q_HB, Q_X3, Q_X4⟩ hb_ hon hoff
   refine ⟨_, rfl, fun K hK => ?_⟩
   have e23 : a.tmps[23]? = some ((.pointer (some ⟨w.heap.size, 1, none⟩))) := by rw [ha]; exact putSel_on (e := (11, 23, (.pointer (some ⟨w.heap.size, 1, none⟩)))) 11 rfl rfl (hon 11 (by kernel_rfl)) rfl
   have e20 : a.tmps[20]? = some ((.bool false)) := by rw [ha]; exact putSel_on (e := (8, 20, (.bool false))) 8 rfl rfl (hon 8 (by kernel_rfl)) rfl
   replace ha := Aside0.mk ha
   have HR := Aside0.mk Q_HR
   have HB := Aside0.mk Q_HB
   have X3 := Aside0.mk Q_X3
   have X4 := Aside0.mk Q_X4
   have hc_ := X3.out.c1
   refine value_ (w1 := w') (v := (.int .i64 xb)) (wanted_on rfl rfl rfl (e20.trans (by first | rfl | (simp [*]; done)))) rfl ?_ ?_
   ·go_simp
    (try simp only [i64_w])
    try rfl
   refine hK.out _ _ ⟨(by rw [ha.out]; exact putSel_upk 12 hb_ rfl rfl rfl), Q_HR, Q_HB, Q_X3, Q_X4⟩
  refine steps_cons ?_ ?_
  ·rintro b a w' ⟨ha, Q_HR, Q_HB, Q_X3, Q_X4⟩ hb_ hon hoff
   refine ⟨_, rfl, fun K hK => ?_⟩
   have e22 : a.tmps[22]? = some ((.int .i64 xa)) := by rw [ha]; exact putSel_on (e := (10, 22, (.int .i64 xa))) 10 rfl rfl (hon 10 (by kernel_rfl)) rfl
   have e24 : a.tmps[24]? = some ((.int .i64 xb)) := by rw [ha]; exact putSel_on (e := (12, 24, (.int .i64 xb))) 12 rfl rfl (hon 12 (by kernel_rfl)) rfl
   have e20 : a.tmps[20]? = some ((.bool false)) := by rw [ha]; exact putSel_on (e := (8, 20, (.bool false))) 8 rfl rfl (hon 8 (by kernel_rfl)) rfl
   replace ha := Aside0.mk ha
   have HR := Aside0.mk Q_HR
   have HB := Aside0.mk Q_HB
   have X3 := Aside0.mk Q_X3
   have X4 := Aside0.mk Q_X4
   refine value_ (w1 := w') (v := (.bool true)) (wanted_on rfl rfl rfl (e20.trans (by first | rfl | (simp [*]; done)))) rfl ?_ ?_
   ·go_simp
    (try simp only [i64_w])
    try rfl
   refine hK.out _ _ ⟨(by rw [ha.out]; exact putSel_upk 13 hb_ rfl rfl rfl), Q_HR, Q_HB, Q_X3, Q_X4⟩
  refine steps_cons ?_ ?_
  ·rintro b a w' ⟨ha, Q_HR, Q_HB, Q_X3, Q_X4⟩ hb_ hon hoff
   refine ⟨_, rfl, fun K hK => ?_⟩
   have e20 : a.tmps[20]? = some ((.bool false)) := by rw [ha]; exact putSel_on (e := (8, 20, (.bool false))) 8 rfl rfl (hon 8 (by kernel_rfl)) rfl
   have e25 : a.tmps[25]? = some ((.bool true)) := by rw [ha]; exact putSel_on (e := (13, 25, (.bool true))) 13 rfl rfl (hon 13 (by kernel_rfl)) rfl
   replace ha := Aside0.mk ha
   have HR := Aside0.mk Q_HR
   have HB := Aside0.mk Q_HB
   have X3 := Aside0.mk Q_X3
   have X4 := Aside0.mk Q_X4
   refine value_ (w1 := w') (v := (.bool true)) (by rfl) rfl ?_ ?_
   ·go_simp
    (try simp only [i64_w])
    try rfl
   refine hK.out _ _ ⟨(by rw [ha.out]; exact putSel_upk 14 hb_ rfl rfl rfl), Q_HR, Q_HB, Q_X3, Q_X4⟩
  refine steps_cons ?_ ?_
  ·rintro b a w' ⟨ha, Q_HR, Q_HB, Q_X3, Q_X4⟩ hb_ hon hoff
   refine ⟨_, rfl, fun K hK => ?_⟩
   have e26 : a.tmps[26]? = some ((.bool true)) := by rw [ha]; exact putSel_on (e := (14, 26, (.bool true))) 14 rfl rfl (hon 14 (by kernel_rfl)) rfl
   replace ha := Aside0.mk ha
   have HR := Aside0.mk Q_HR
   have HB := Aside0.mk Q_HB
   have X3 := Aside0.mk Q_X3
   have X4 := Aside0.mk Q_X4
   refine value_ (w1 := w') (v := (.bool true)) (by rfl) rfl ?_ ?_
   ·go_simp
    (try simp only [i64_w])
    try rfl
   refine hK.out _ _ ⟨(by rw [ha.out]; exact putSel_upk 15 hb_ rfl rfl rfl), Q_HR, Q_HB, Q_X3, Q_X4⟩
  refine steps_cons ?_ ?_
  ·rintro b a w' ⟨ha, Q_HR, Q_HB, Q_X3, Q_X4⟩ hb_ hon hoff
   refine ⟨_, rfl, fun K hK => ?_⟩
   have e27 : a.tmps[27]? = some ((.bool true)) := by rw [ha]; exact putSel_on (e := (15, 27, (.bool true))) 15 rfl rfl (hon 15 (by kernel_rfl)) rfl
   replace ha := Aside0.mk ha
   have HR := Aside0.mk Q_HR
   have HB := Aside0.mk Q_HB
   have X3 := Aside0.mk Q_X3
   have X4 := Aside0.mk Q_X4
   refine off_ (wanted_off rfl rfl rfl (e27.trans (by first | rfl | (simp [*]; done)))) ?_
   refine hK.out _ _ ⟨(by rw [ha.out]; exact putSel_upk 16 hb_ rfl rfl rfl), Q_HR, Q_HB, Q_X3, Q_X4⟩
  refine steps_cons ?_ ?_
  ·rintro b a w' ⟨ha, Q_HR, Q_HB, Q_X3, Q_X4⟩ hb_ hon hoff
   refine ⟨_, rfl, fun K hK => ?_⟩
   have e27 : a.tmps[27]? = some ((.bool true)) := by rw [ha]; exact putSel_on (e := (15, 27, (.bool true))) 15 rfl rfl (hon 15 (by kernel_rfl)) rfl
   replace ha := Aside0.mk ha
   have HR := Aside0.mk Q_HR
   have HB := Aside0.mk Q_HB
   have X3 := Aside0.mk Q_X3
   have X4 := Aside0.mk Q_X4
   refine off_ (wanted_off rfl rfl rfl (e27.trans (by first | rfl | (simp [*]; done)))) ?_
   refine hK.out _ _ ⟨(by rw [ha.out]; exact putSel_upk 17 hb_ rfl rfl rfl), Q_HR, Q_HB, Q_X3, Q_X4⟩
  refine steps_cons ?_ ?_
  ·rintro b a w' ⟨ha, Q_HR, Q_HB, Q_X3, Q_X4⟩ hb_ hon hoff
   refine ⟨_, rfl, fun K hK => ?_⟩
   have e27 : a.tmps[27]? = some ((.bool true)) := by rw [ha]; exact putSel_on (e := (15, 27, (.bool true))) 15 rfl rfl (hon 15 (by kernel_rfl)) rfl
   replace ha := Aside0.mk ha
   have HR := Aside0.mk Q_HR
   have HB := Aside0.mk Q_HB
   have X3 := Aside0.mk Q_X3
   have X4 := Aside0.mk Q_X4
   refine off_ (wanted_off rfl rfl rfl (e27.trans (by first | rfl | (simp [*]; done)))) ?_
   refine hK.out _ _ ⟨(by rw [ha.out]; exact putSel_upk 18 hb_ rfl rfl rfl), Q_HR, Q_HB, Q_X3, Q_X4⟩
  refine steps_cons ?_ ?_
  ·rintro b a w' ⟨ha, Q_HR, Q_HB, Q_X3, Q_X4⟩ hb_ hon hoff
   refine ⟨_, rfl, fun K hK => ?_⟩
   have e27 : a.tmps[27]? = some ((.bool true)) := by rw [ha]; exact putSel_on (e := (15, 27, (.bool true))) 15 rfl rfl (hon 15 (by kernel_rfl)) rfl
   replace ha := Aside0.mk ha
   have HR := Aside0.mk Q_HR
   have HB := Aside0.mk Q_HB
   have X3 := Aside0.mk Q_X3
   have X4 := Aside0.mk Q_X4
   refine off_ (wanted_off rfl rfl rfl (e27.trans (by first | rfl | (simp [*]; done)))) ?_
   refine hK.out _ _ ⟨(by rw [ha.out]; exact putSel_upk 19 hb_ rfl rfl rfl), Q_HR, Q_HB, Q_X3, Q_X4⟩
  refine steps_cons ?_ ?_
  ·rintro b a w' ⟨ha, Q_HR, Q_HB, Q_X3, Q_X4⟩ hb_ hon hoff
   refine ⟨_, rfl, fun K hK => ?_⟩
   have e27 : a.tmps[27]? = some ((.bool true)) := by rw [ha]; exact putSel_on (e := (15, 27, (.bool true))) 15 rfl rfl (hon 15 (by kernel_rfl)) rfl
   replace ha := Aside0.mk ha
   have HR := Aside0.mk Q_HR
   have HB := Aside0.mk Q_HB
   have X3 := Aside0.mk Q_X3
   have X4 := Aside0.mk Q_X4
   refine off_ (wanted_off rfl rfl rfl (e27.trans (by first | rfl | (simp [*]; done)))) ?_
   refine hK.out _ _ ⟨(by rw [ha.out]; exact putSel_upk 20 hb_ rfl rfl rfl), Q_HR, Q_HB, Q_X3, Q_X4⟩
  refine steps_cons ?_ ?_
  ·rintro b a w' ⟨ha, Q_HR, Q_HB, Q_X3, Q_X4⟩ hb_ hon hoff
   refine ⟨_, rfl, fun K hK => ?_⟩
   have e27 : a.tmps[27]? = some ((.bool true)) := by rw [ha]; exact putSel_on (e := (15, 27, (.bool true))) 15 rfl rfl (hon 15 (by kernel_rfl)) rfl
   have e32 : a.tmps[32]? = some (undef) := by rw [ha]; exact putSel_on (e := (20, 32, undef)) 20 rfl rfl (hon 20 (by kernel_rfl)) rfl
   replace ha := Aside0.mk ha
   have HR := Aside0.mk Q_HR
   have HB := Aside0.mk Q_HB
   have X3 := Aside0.mk Q_X3
   have X4 := Aside0.mk Q_X4
   refine value_ (w1 := w') (v := (.bool true)) (by rfl) rfl ?_ ?_
   ·go_simp
    (try simp only [i64_w])
    try rfl
   refine hK.out _ _ ⟨(by rw [ha.out]; exact putSel_upk 21 hb_ rfl rfl rfl), Q_HR, Q_HB, Q_X3, Q_X4⟩
  exact steps_nil
 rintro b a we hall ⟨ha, Q_HR, Q_HB, Q_X3, Q_X4⟩
 clear HB HR X3 X4
 have hb0_ := hall 0 (by kernel_rfl)
 have hb1_ := hall 1 (by kernel_rfl)
 have hb2_ := hall 2 (by kernel_rfl)
 have hb3_ := hall 3 (by kernel_rfl)
 have hb4_ := hall 4 (by kernel_rfl)
 have hb5_ := hall 5 (by kernel_rfl)
 have hb6_ := hall 6 (by kernel_rfl)
 have hb7_ := hall 7 (by kernel_rfl)
 have hb8_ := hall 8 (by kernel_rfl)
 have hb9_ := hall 9 (by kernel_rfl)
 have hb10_ := hall 10 (by kernel_rfl)
 have hb11_ := hall 11 (by kernel_rfl)
 have hb12_ := hall 12 (by kernel_rfl)
 have hb13_ := hall 13 (by kernel_rfl)
 have hb14_ := hall 14 (by kernel_rfl)
 have hb15_ := hall 15 (by kernel_rfl)
 have hb16_ := hall 16 (by kernel_rfl)
 have hb17_ := hall 17 (by kernel_rfl)
 have hb18_ := hall 18 (by kernel_rfl)
 have hb19_ := hall 19 (by kernel_rfl)
 have hb20_ := hall 20 (by kernel_rfl)
 have hb21_ := hall 21 (by kernel_rfl)
 subst ha
 simp only [putSel, hb0_, hb1_, hb2_, hb3_, hb4_, hb5_, hb6_, hb7_, hb8_, hb9_, hb10_, hb11_, hb12_, hb13_, hb14_, hb15_, hb16_, hb17_, hb18_, hb19_, hb20_, hb21_, if_true, Act.put, List.setIfInBounds_toArray, List.set_cons_zero, List.set_cons_succ]
 have HR := Aside0.mk Q_HR
 clear Q_HR
 have HB := Aside0.mk Q_HB
 clear Q_HB
 have X3 := Aside0.mk Q_X3
 clear Q_X3
 have X4 := Aside0.mk Q_X4
 clear Q_X4
 clear hall hb0_ hb1_ hb2_ hb3_ hb4_ hb5_ hb6_ hb7_ hb8_ hb9_ hb10_ hb11_ hb12_ hb13_ hb14_ hb15_ hb16_ hb17_ hb18_ hb19_ hb20_ hb21_
 have c40 := X4.out.c0
 have c41 := X4.out.c1
 have f40 := X4.out.fz 0
 have f41 := X4.out.fz 1
 go_wp2_with fail
 refine bodyPost_ret (res_span _ _ (w.heap.size + 1) 0 0 false rfl rfl (blk_put (blk_put X4.out 0 _ rfl) 1 _ rfl)) rfl ?_
 exact ⟨rfl, below_set' (below_set' HB.out (by omega)) (by omega)⟩
set_option maxHeartbeats 4000000 in
set_option maxRecDepth 100000 in
theorem span_no4 (A0 : Option Addr) (c0 : Nat) (l0 : List Rn) (xa xb : Int) (w : World) (h : RC w A0 l0) (hc : l0.length ≤ c0) (hl : l0.length ≤ 140737488351232) (hg : good l0 = true) (ha : 0 ≤ xa) (hab : xa ≤ xb) (hi_ : inL l0 < xb) :
  Calls Try.prog 35 #[.slice A0 l0.length c0, .agg #[.int .i64 xa, .int .i64 xb]] w (SpanPost ((0, 0), false) w) := by
 have HG := Aside0.mk (good_c A0 c0 l0 hc hl)
 have HI := Aside0.mk (in_c A0 c0 l0 hc hl hg)
 rw [hg] at HG
 have H0 := Aside0.mk h
 have a1 : decide (xa < 0) = false := by simp; omega
 have a2 : decide (xb < xa) = false := by simp; omega
 have a3 : decide (inL l0 < xb) = true := by simpa using hi_
 clear h hc hl hg
 go_enter Try.func35, Try.ntmps35
 go_wp2_with fail
 obtain ⟨w2, hw2⟩ : ∃ w2, w2 = (w.alloc (.cells #[.int .i64 xa, .int .i64 xb] 42)).alloc (.cells #[.int .i64 0, .int .i64 0] 42) := ⟨_, rfl⟩
 have hb2 : Below w.heap.size w w2 := by rw [hw2]; exact below_alloc (below_alloc (Below.refl _ _) _) _
 have HB := Aside0.mk hb2
 have HR := Aside0.mk (H0.out.below hb2)
 have X3 := Aside0.mk (show Sx w.heap.size xa xb w2 by rw [hw2]; exact (show Sx w.heap.size xa xb (w.alloc _) from Own.heap_new w _).below (below_alloc (Below.refl _ _) _))
 have X4 := Aside0.mk (show Sx (w.heap.size + 1) 0 0 w2 by
  rw [hw2]
  have := Own.heap_new (w.alloc (.cells #[.int .i64 xa, .int .i64 xb] 42)) (.cells #[.int .i64 0, .int .i64 0] 42)
  rwa [World.size_alloc] at this)
 rw [← hw2]
 clear hw2 hb2
 refine start_ (n := 22) (S := fun w' => True) (ds := []) #[false, false, false, false, false, false, false, false, false, false, false, false, false, false, false, false, false, false, false, false, false, false] (by kernel_rfl) rfl rfl trivial (fun hHeld => ?_); refine with_tabW PlaceS.tab1 PlaceS.bits1 (fun HT_ HW_ => ?_)
 refine inv_at [0, 1, 2, 3, 4, 5, 6, 7, 8, 9, 10, 11, 12, 13, 14, 15, 16, 17, 18, 19, 20, 21] (fun a0_ b a w' => a = putSel a0_ b [(0, 12, (.slice A0 l0.length c0)), (1, 13, (.bool true)), (2, 14, (.bool false)), (3, 15, (.bool false)), (4, 16, (.pointer (some ⟨w.heap.size, 0, none⟩))), (5, 17, (.int .i64 xa)), (6, 18, (.bool false)), (7, 19, (.bool false)), (8, 20, (.bool false)), (9, 21, (.pointer (some ⟨w.heap.size, 0, none⟩))), (10, 22, (.int .i64 xa)), (11, 23, (.pointer (some ⟨w.heap.size, 1, none⟩))), (12, 24, (.int .i64 xb)), (13, 25, (.bool false)), (14, 26, (.bool false)), (15, 27, (.bool false)), (16, 28, (.pointer (some ⟨w.heap.size, 1, none⟩))), (17, 29, (.int .i64 xb)), (18, 30, (.slice A0 l0.length c0)), (19, 31, (.int .i64 (inL l0))), (20, 32, (.bool true)), (21, 33, (.bool true))] ∧ (RC w' A0 l0) ∧ (Below w.heap.size w w') ∧ (Sx w.heap.size xa xb w') ∧ (Sx (w.heap.size + 1) 0 0 w')) HT_.out HW_.out (by kernel_rfl) (by kernel_rfl) ?_ ?_ ?_
 ·exact ⟨by simp only [putSel, Bool.false_eq_true, if_false], HR.out.below (below_drew1 (Below.refl _ _)), below_drew1 HB.out, X3.out.below (below_drew1 (Below.refl _ _)), X4.out.below (below_drew1 (Below.refl _ _))⟩
 ·skip
  clear HB HR X3 X4
  refine steps_cons ?_ ?_
  ·rintro b a w' ⟨ha, Q_HR, Q_HB, Q_X3, Q_X4⟩ hb_ hon hoff
   refine ⟨_, rfl, fun K hK => ?_⟩
   have e0 : a.tmps[0]? = some ((.slice A0 l0.length c0)) := by rw [ha]; exact (putSel_off rfl).trans rfl
   replace ha := Aside0.mk ha
   have HR := Aside0.mk Q_HR
   have HB := Aside0.mk Q_HB
   have X3 := Aside0.mk Q_X3
   have X4 := Aside0.mk Q_X4
   refine value_ (w1 := w') (v := (.slice A0 l0.length c0)) (by rfl) rfl ?_ ?_
   ·go_simp
    (try simp only [i64_w])
    try rfl
   refine hK.out _ _ ⟨(by rw [ha.out]; exact putSel_upk 0 hb_ rfl rfl rfl), Q_HR, Q_HB, Q_X3, Q_X4⟩
  refine steps_cons ?_ ?_
  ·rintro b a w' ⟨ha, Q_HR, Q_HB, Q_X3, Q_X4⟩ hb_ hon hoff
   refine ⟨_, rfl, fun K hK => ?_⟩
   have e12 : a.tmps[12]? = some ((.slice A0 l0.length c0)) := by rw [ha]; exact putSel_on (e := (0, 12, (.slice A0 l0.length c0))) 0 rfl rfl (hon 0 (by kernel_rfl)) rfl
   replace ha := Aside0.mk ha
   have HR := Aside0.mk Q_HR
   have HB := Aside0.mk Q_HB
   have X3 := Aside0.mk Q_X3
   have X4 := Aside0.mk Q_X4
   refine goes_ Try.func30 (by kernel_rfl) rfl #[.slice A0 l0.length c0] (by rfl) rfl rfl (by first | (simp only [List.map_toArray, List.map_cons, List.map_nil, Act.eval, Array.getD_eq_getD_getElem?, Option.getD_some, e12]; done) | (simp only [List.map_toArray, List.map_cons, List.map_nil, Act.eval, Array.getD_eq_getD_getElem?, Option.getD_some, e12]; rfl)) ?_
   refine (HG.out _ HR.out).mono ?_
   rintro e w1_ ⟨rfl, hb⟩
   refine ⟨_, rfl, ?_⟩
   refine hK.out _ _ ⟨(by rw [ha.out]; exact putSel_upk 1 hb_ rfl rfl rfl), HR.out.below hb, below_step HB.out hb, X3.out.below hb, X4.out.below hb⟩
  refine steps_cons ?_ ?_
  ·rintro b a w' ⟨ha, Q_HR, Q_HB, Q_X3, Q_X4⟩ hb_ hon hoff
   refine ⟨_, rfl, fun K hK => ?_⟩
   have e13 : a.tmps[13]? = some ((.bool true)) := by rw [ha]; exact putSel_on (e := (1, 13, (.bool true))) 1 rfl rfl (hon 1 (by kernel_rfl)) rfl
   replace ha := Aside0.mk ha
   have HR := Aside0.mk Q_HR
   have HB := Aside0.mk Q_HB
   have X3 := Aside0.mk Q_X3
   have X4 := Aside0.mk Q_X4
   refine value_ (w1 := w') (v := (.bool false)) (by rfl) rfl ?_ ?_
   ·go_simp
    (try simp only [i64_w])
    try rfl
   refine hK.out _ _ ⟨(by rw [ha.out]; exact putSel_upk 2 hb_ rfl rfl rfl), Q_HR, Q_HB, Q_X3, Q_X4⟩
  refine steps_cons ?_ ?_
  ·rintro b a w' ⟨ha, Q_HR, Q_HB, Q_X3, Q_X4⟩ hb_ hon hoff
   refine ⟨_, rfl, fun K hK => ?_⟩
   have e14 : a.tmps[14]? = some ((.bool false)) := by rw [ha]; exact putSel_on (e := (2, 14, (.bool false))) 2 rfl rfl (hon 2 (by kernel_rfl)) rfl
   replace ha := Aside0.mk ha
   have HR := Aside0.mk Q_HR
   have HB := Aside0.mk Q_HB
   have X3 := Aside0.mk Q_X3
   have X4 := Aside0.mk Q_X4
   refine value_ (w1 := w') (v := (.bool false)) (by rfl) rfl ?_ ?_
   ·go_simp
    (try simp only [i64_w])
    try rfl
   refine hK.out _ _ ⟨(by rw [ha.out]; exact putSel_upk 3 hb_ rfl rfl rfl), Q_HR, Q_HB, Q_X3, Q_X4⟩
  refine steps_cons ?_ ?_
  ·rintro b a w' ⟨ha, Q_HR, Q_HB, Q_X3, Q_X4⟩ hb_ hon hoff
   refine ⟨_, rfl, fun K hK => ?_⟩
   have e3 : a.tmps[3]? = some ((.pointer (some ⟨w.heap.size, 0, none⟩))) := by rw [ha]; exact (putSel_off rfl).trans rfl
   have e15 : a.tmps[15]? = some ((.bool false)) := by rw [ha]; exact putSel_on (e := (3, 15, (.bool false))) 3 rfl rfl (hon 3 (by kernel_rfl)) rfl
   replace ha := Aside0.mk ha
   have HR := Aside0.mk Q_HR
   have HB := Aside0.mk Q_HB
   have X3 := Aside0.mk Q_X3
   have X4 := Aside0.mk Q_X4
   refine value_ (w1 := w') (v := (.pointer (some ⟨w.heap.size, 0, none⟩))) (wanted_on rfl rfl rfl (e15.trans (by first | rfl | (simp [*]; done)))) rfl ?_ ?_
   ·go_simp
    (try simp only [i64_w])
    try rfl
   refine hK.out _ _ ⟨(by rw [ha.out]; exact putSel_upk 4 hb_ rfl rfl rfl), Q_HR, Q_HB, Q_X3, Q_X4⟩
  refine steps_cons ?_ ?_
  ·rintro b a w' ⟨ha, Q_HR, Q_HB, Q_X3, Q_X4⟩ hb_ hon hoff
   refine ⟨_, rfl, fun K hK => ?_⟩
   have e16 : a.tmps[16]? = some ((.pointer (some ⟨w.heap.size, 0, none⟩))) := by rw [ha]; exact putSel_on (e := (4, 16, (.pointer (some ⟨w.heap.size, 0, none⟩)))) 4 rfl rfl (hon 4 (by kernel_rfl)) rfl
   have e15 : a.tmps[15]? = some ((.bool false)) := by rw [ha]; exact putSel_on (e := (3, 15, (.bool false))) 3 rfl rfl (hon 3 (by kernel_rfl)) rfl
   replace ha := Aside0.mk ha
   have HR := Aside0.mk Q_HR
   have HB := Aside0.mk Q_HB
   have X3 := Aside0.mk Q_X3
   have X4 := Aside0.mk Q_X4
   have hc_ := X3.out.c0
   refine value_ (w1 := w') (v := (.int .i64 xa)) (wanted_on rfl rfl rfl (e15.trans (by first | rfl | (simp [*]; done)))) rfl ?_ ?_
   ·go_simp
    (try simp only [i64_w])
    try rfl
   refine hK.out _ _ ⟨(by rw [ha.out]; exact putSel_upk 5 hb_ rfl rfl rfl), Q_HR, Q_HB, Q_X3, Q_X4⟩
  refine steps_cons ?_ ?_
  ·rintro b a w' ⟨ha, Q_HR, Q_HB, Q_X3, Q_X4⟩ hb_ hon hoff
   refine ⟨_, rfl, fun K hK => ?_⟩
   have e17 : a.tmps[17]? = some ((.int .i64 xa)) := by rw [ha]; exact putSel_on (e := (5, 17, (.int .i64 xa))) 5 rfl rfl (hon 5 (by kernel_rfl)) rfl
   have e15 : a.tmps[15]? = some ((.bool false)) := by rw [ha]; exact putSel_on (e := (3, 15, (.bool false))) 3 rfl rfl (hon 3 (by kernel_rfl)) rfl
   replace ha := Aside0.mk ha
   have HR := Aside0.mk Q_HR
   have HB := Aside0.mk Q_HB
   have X3 := Aside0.mk Q_X3
   have X4 := Aside0.mk Q_X4
   refine value_ (w1 := w') (v := (.bool false)) (wanted_on rfl rfl rfl (e15.trans (by first | rfl | (simp [*]; done)))) rfl ?_ ?_
   ·go_simp
    (try simp only [i64_w])
    try rfl
   refine hK.out _ _ ⟨(by rw [ha.out]; exact putSel_upk 6 hb_ rfl rfl rfl), Q_HR, Q_HB, Q_X3, Q_X4⟩
  refine steps_cons ?_ ?_
  ·rintro b a w' ⟨ha, Q_HR, Q_HB, Q_X3, Q_X4⟩ hb_ hon hoff
   refine ⟨_, rfl, fun K hK => ?_⟩
   have e15 : a.tmps[15]? = some ((.bool false)) := by rw [ha]; exact putSel_on (e := (3, 15, (.bool false))) 3 rfl rfl (hon 3 (by kernel_rfl)) rfl
   have e18 : a.tmps[18]? = some ((.bool false)) := by rw [ha]; exact putSel_on (e := (6, 18, (.bool false))) 6 rfl rfl (hon 6 (by kernel_rfl)) rfl
   replace ha := Aside0.mk ha
   have HR := Aside0.mk Q_HR
   have HB := Aside0.mk Q_HB
   have X3 := Aside0.mk Q_X3
   have X4 := Aside0.mk Q_X4
   refine value_ (w1 := w') (v := (.bool false)) (by rfl) rfl ?_ ?_
   ·go_simp
    (try simp only [i64_w])
    try rfl
   refine hK.out _ _ ⟨(by rw [ha.out]; exact putSel_upk 7 hb_ rfl rfl rfl), Q_HR, Q_HB, Q_X3, Q_X4⟩
  refine steps_cons ?_ ?_
  ·rintro b a w' ⟨ha, Q_HR, Q_HB, Q_X3, Q_X4⟩ hb_ hon hoff
   refine ⟨_, rfl, fun K hK => ?_⟩
   have e19 : a.tmps[19]? = some ((.bool false)) := by rw [ha]; exact putSel_on (e := (7, 19, (.bool false))) 7 rfl rfl (hon 7 (by kernel_rfl)) rfl
   replace ha := Aside0.mk ha
   have HR := Aside0.mk Q_HR
   have HB := Aside0.mk Q_HB
   have X3 := Aside0.mk Q_X3
   have X4 := Aside0.mk Q_X4
   refine value_ (w1 := w') (v := (.bool false)) (by rfl) rfl ?_ ?_
   ·go_simp
    (try simp only [i64_w])
    try rfl
   refine hK.out _ _ ⟨(by rw [ha.out]; exact putSel_upk 8 hb_ rfl rfl rfl), Q_HR, Q_HB, Q_X3, Q_X4⟩
  refine steps_cons ?_ ?_
  ·rintro b a w' ⟨ha, Q_HR, Q_HB, Q_X3, Q_X4⟩ hb_ hon hoff
   refine ⟨_, rfl, fun K hK => ?_⟩
   have e3 : a.tmps[3]? = some ((.pointer (some ⟨w.heap.size, 0, none⟩))) := by rw [ha]; exact (putSel_off rfl).trans rfl
   have e20 : a.tmps[20]? = some ((.bool false)) := by rw [ha]; exact putSel_on (e := (8, 20, (.bool false))) 8 rfl rfl (hon 8 (by kernel_rfl)) rfl
   replace ha := Aside0.mk ha
   have HR := Aside0.mk Q_HR
   have HB := Aside0.mk Q_HB
   have X3 := Aside0.mk Q_X3
   have X4 := Aside0.mk Q_X4
   refine value_ (w1 := w') (v := (.pointer (some ⟨w.heap.size, 0, none⟩))) (wanted_on rfl rfl rfl (e20.trans (by first | rfl | (simp [*]; done)))) rfl ?_ ?_
   ·go_simp
    (try simp only [i64_w])
    try rfl
   refine hK.out _ _ ⟨(by rw [ha.out]; exact putSel_upk 9 hb_ rfl rfl rfl), Q_HR, Q_HB, Q_X3, Q_X4⟩
  refine steps_cons ?_ ?_
  ·rintro b a w' ⟨ha, Q_HR, Q_HB, Q_X3, Q_X4⟩ hb_ hon hoff
   refine ⟨_, rfl, fun K hK => ?_⟩
   have e21 : a.tmps[21]? = some ((.pointer (some ⟨w.heap.size, 0, none⟩))) := by rw [ha]; exact putSel_on (e := (9, 21, (.pointer (some ⟨w.heap.size, 0, none⟩)))) 9 rfl rfl (hon 9 (by kernel_rfl)) rfl
   have e20 : a.tmps[20]? = some ((.bool false)) := by rw [ha]; exact putSel_on (e := (8, 20, (.bool false))) 8 rfl rfl (hon 8 (by kernel_rfl)) rfl
   replace ha := Aside0.mk ha
   have HR := Aside0.mk Q_HR
   have HB := Aside0.mk Q_HB
   have X3 := Aside0.mk Q_X3
   have X4 := Aside0.mk Q_X4
   have hc_ := X3.out.c0
   refine value_ (w1 := w') (v := (.int .i64 xa)) (wanted_on rfl rfl rfl (e20.trans (by first | rfl | (simp [*]; done)))) rfl ?_ ?_
   ·go_simp
    (try simp only [i64_w])
    try rfl
   refine hK.out _ _ ⟨(by rw [ha.out]; exact putSel_upk 10 hb_ rfl rfl rfl), Q_HR, Q_HB, Q_X3, Q_X4⟩
  refine steps_cons ?_ ?_
  ·rintro b a w' ⟨ha, Q_HR, Q_HB, Q_X3, Q_X4⟩ hb_ hon hoff
   refine ⟨_, rfl, fun K hK => ?_⟩
   have e3 : a.tmps[3]? = some ((.pointer (some ⟨w.heap.size, 0, none⟩))) := by rw [ha]; exact (putSel_off rfl).trans rfl
   have e20 : a.tmps[20]? = some ((.bool false)) := by rw [ha]; exact putSel_on (e := (8, 20, (.bool false))) 8 rfl rfl (hon 8 (by kernel_rfl)) rfl
   replace ha := Aside0.mk ha
   have HR := Aside0.mk Q_HR
   have HB := Aside0.mk Q_HB
   have X3 := Aside0.mk Q_X3
   have X4 := Aside0.mk Q_X4
   refine value_ (w1 := w') (v := (.pointer (some ⟨w.heap.size, 1, none⟩))) (wanted_on rfl rfl rfl (e20.trans (by first | rfl | (simp [*]; done)))) rfl ?_ ?_
   ·go_simp
    (try simp only [i64_w])
    try rfl
   refine hK.out _ _ ⟨(by rw [ha.out]; exact putSel_upk 11 hb_ rfl rfl rfl), Q_HR, Q_HB, Q_X3, Q_X4⟩
  refine steps_cons ?_ ?_
  ·rintro b a w' ⟨ha, Q_HR, Q_HB, Q_X3, Q_X4⟩ hb_ hon hoff
   refine ⟨_, rfl, fun K hK => ?_⟩
   have e23 : a.tmps[23]? = some ((.pointer (some ⟨w.heap.size, 1, none⟩))) := by rw [ha]; exact putSel_on (e := (11, 23, (.pointer (some ⟨w.heap.size, 1, none⟩)))) 11 rfl rfl (hon 11 (by kernel_rfl)) rfl
   have e20 : a.tmps[20]? = some ((.bool false)) := by rw [ha]; exact putSel_on (e := (8, 20, (.bool false))) 8 rfl rfl (hon 8 (by kernel_rfl)) rfl
   replace ha := Aside0.mk ha
   have HR := Aside0.mk Q_HR
   have HB := Aside0.mk Q_HB
   have X3 := Aside0.mk Q_X3
   have X4 := Aside0.mk Q_X4
   have hc_ := X3.out.c1
   refine value_ (w1 := w') (v := (.int .i64 xb)) (wanted_on rfl rfl rfl (e20.trans (by first | rfl | (simp [*]; done)))) rfl ?_ ?_
   ·go_simp
    (try simp only [i64_w])
    try rfl
   refine hK.out _ _ ⟨(by rw [ha.out]; exact putSel_upk 12 hb_ rfl rfl rfl), Q_HR, Q_HB, Q_X3, Q_X4⟩
  refine steps_cons ?_ ?_
  ·rintro b a w' ⟨ha, Q_HR, Q_HB, Q_X3, Q_X4⟩ hb_ hon hoff
   refine ⟨_, rfl, fun K hK => ?_⟩
   have e22 : a.tmps[22]? = some ((.int .i64 xa)) := by rw [ha]; exact putSel_on (e := (10, 22, (.int .i64 xa))) 10 rfl rfl (hon 10 (by kernel_rfl)) rfl
   have e24 : a.tmps[24]? = some ((.int .i64 xb)) := by rw [ha]; exact putSel_on (e := (12, 24, (.int .i64 xb))) 12 rfl rfl (hon 12 (by kernel_rfl)) rfl
   have e20 : a.tmps[20]? = some ((.bool false)) := by rw [ha]; exact putSel_on (e := (8, 20, (.bool false))) 8 rfl rfl (hon 8 (by kernel_rfl)) rfl
   replace ha := Aside0.mk ha
   have HR := Aside0.mk Q_HR
   have HB := Aside0.mk Q_HB
   have X3 := Aside0.mk Q_X3
   have X4 := Aside0.mk Q_X4
   refine value_ (w1 := w') (v := (.bool false)) (wanted_on rfl rfl rfl (e20.trans (by first | rfl | (simp [*]; done)))) rfl ?_ ?_
   ·go_simp
    (try simp only [i64_w])
    try rfl
   refine hK.out _ _ ⟨(by rw [ha.out]; exact putSel_upk 13 hb_ rfl rfl rfl), Q_HR, Q_HB, Q_X3, Q_X4⟩
  refine steps_cons ?_ ?_
  ·rintro b a w' ⟨ha, Q_HR, Q_HB, Q_X3, Q_X4⟩ hb_ hon hoff
   refine ⟨_, rfl, fun K hK => ?_⟩
   have e20 : a.tmps[20]? = some ((.bool false)) := by rw [ha]; exact putSel_on (e := (8, 20, (.bool false))) 8 rfl rfl (hon 8 (by kernel_rfl)) rfl
   have e25 : a.tmps[25]? = some ((.bool false)) := by rw [ha]; exact putSel_on (e := (13, 25, (.bool false))) 13 rfl rfl (hon 13 (by kernel_rfl)) rfl
   replace ha := Aside0.mk ha
   have HR := Aside0.mk Q_HR
   have HB := Aside0.mk Q_HB
   have X3 := Aside0.mk Q_X3
   have X4 := Aside0.mk Q_X4
   refine value_ (w1 := w') (v := (.bool false)) (by rfl) rfl ?_ ?_
   ·go_simp
    (try simp only [i64_w])
    try rfl
   refine hK.out _ _ ⟨(by rw [ha.out]; exact putSel_upk 14 hb_ rfl rfl rfl), Q_HR, Q_HB, Q_X3, Q_X4⟩
  refine steps_cons ?_ ?_
  ·rintro b a w' ⟨ha, Q_HR, Q_HB, Q_X3, Q_X4⟩ hb_ hon hoff
   refine ⟨_, rfl, fun K hK => ?_⟩
   have e26 : a.tmps[26]? = some ((.bool false)) := by rw [ha]; exact putSel_on (e := (14, 26, (.bool false))) 14 rfl rfl (hon 14 (by kernel_rfl)) rfl
   replace ha := Aside0.mk ha
   have HR := Aside0.mk Q_HR
   have HB := Aside0.mk Q_HB
   have X3 := Aside0.mk Q_X3
   have X4 := Aside0.mk Q_X4
   refine value_ (w1 := w') (v := (.bool false)) (by rfl) rfl ?_ ?_
   ·go_simp
    (try simp only [i64_w])
    try rfl
   refine hK.out _ _ ⟨(by rw [ha.out]; exact putSel_upk 15 hb_ rfl rfl rfl), Q_HR, Q_HB, Q_X3, Q_X4⟩
  refine steps_cons ?_ ?_
  ·rintro b a w' ⟨ha, Q_HR, Q_HB, Q_X3, Q_X4⟩ hb_ hon hoff
   refine ⟨_, rfl, fun K hK => ?_⟩
   have e3 : a.tmps[3]? = some ((.pointer (some ⟨w.heap.size, 0, none⟩))) := by rw [ha]; exact (putSel_off rfl).trans rfl
   have e27 : a.tmps[27]? = some ((.bool false)) := by rw [ha]; exact putSel_on (e := (15, 27, (.bool false))) 15 rfl rfl (hon 15 (by kernel_rfl)) rfl
   replace ha := Aside0.mk ha
   have HR := Aside0.mk Q_HR
   have HB := Aside0.mk Q_HB
   have X3 := Aside0.mk Q_X3
   have X4 := Aside0.mk Q_X4
   refine value_ (w1 := w') (v := (.pointer (some ⟨w.heap.size, 1, none⟩))) (wanted_on rfl rfl rfl (e27.trans (by first | rfl | (simp [*]; done)))) rfl ?_ ?_
   ·go_simp
    (try simp only [i64_w])
    try rfl
   refine hK.out _ _ ⟨(by rw [ha.out]; exact putSel_upk 16 hb_ rfl rfl rfl), Q_HR, Q_HB, Q_X3, Q_X4⟩
  refine steps_cons ?_ ?_
  ·rintro b a w' ⟨ha, Q_HR, Q_HB, Q_X3, Q_X4⟩ hb_ hon hoff
   refine ⟨_, rfl, fun K hK => ?_⟩
   have e28 : a.tmps[28]? = some ((.pointer (some ⟨w.heap.size, 1, none⟩))) := by rw [ha]; exact putSel_on (e := (16, 28, (.pointer (some ⟨w.heap.size, 1, none⟩)))) 16 rfl rfl (hon 16 (by kernel_rfl)) rfl
   have e27 : a.tmps[27]? = some ((.bool false)) := by rw [ha]; exact putSel_on (e := (15, 27, (.bool false))) 15 rfl rfl (hon 15 (by kernel_rfl)) rfl
   replace ha := Aside0.mk ha
   have HR := Aside0.mk Q_HR
   have HB := Aside0.mk Q_HB
   have X3 := Aside0.mk Q_X3
   have X4 := Aside0.mk Q_X4
   have hc_ := X3.out.c1
   refine value_ (w1 := w') (v := (.int .i64 xb)) (wanted_on rfl rfl rfl (e27.trans (by first | rfl | (simp [*]; done)))) rfl ?_ ?_
   ·go_simp
    (try simp only [i64_w])
    try rfl
   refine hK.out _ _ ⟨(by rw [ha.out]; exact putSel_upk 17 hb_ rfl rfl rfl), Q_HR, Q_HB, Q_X3, Q_X4⟩
  refine steps_cons ?_ ?_
  ·rintro b a w' ⟨ha, Q_HR, Q_HB, Q_X3, Q_X4⟩ hb_ hon hoff
   refine ⟨_, rfl, fun K hK => ?_⟩
   have e0 : a.tmps[0]? = some ((.slice A0 l0.length c0)) := by rw [ha]; exact (putSel_off rfl).trans rfl
   have e27 : a.tmps[27]? = some ((.bool false)) := by rw [ha]; exact putSel_on (e := (15, 27, (.bool false))) 15 rfl rfl (hon 15 (by kernel_rfl)) rfl
   replace ha := Aside0.mk ha
   have HR := Aside0.mk Q_HR
   have HB := Aside0.mk Q_HB
   have X3 := Aside0.mk Q_X3
   have X4 := Aside0.mk Q_X4
   refine value_ (w1 := w') (v := (.slice A0 l0.length c0)) (wanted_on rfl rfl rfl (e27.trans (by first | rfl | (simp [*]; done)))) rfl ?_ ?_
   ·go_simp
    (try simp only [i64_w])
    try rfl
   refine hK.out _ _ ⟨(by rw [ha.out]; exact putSel_upk 18 hb_ rfl rfl rfl), Q_HR, Q_HB, Q_X3, Q_X4⟩
  refine steps_cons ?_ ?_
  ·rintro b a w' ⟨ha, Q_HR, Q_HB, Q_X3, Q_X4⟩ hb_ hon hoff
   refine ⟨_, rfl, fun K hK => ?_⟩
   have e30 : a.tmps[30]? = some ((.slice A0 l0.length c0)) := by rw [ha]; exact putSel_on (e := (18, 30, (.slice A0 l0.length c0))) 18 rfl rfl (hon 18 (by kernel_rfl)) rfl
   have e27 : a.tmps[27]? = some ((.bool false)) := by rw [ha]; exact putSel_on (e := (15, 27, (.bool false))) 15 rfl rfl (hon 15 (by kernel_rfl)) rfl
   replace ha := Aside0.mk ha
   have HR := Aside0.mk Q_HR
   have HB := Aside0.mk Q_HB
   have X3 := Aside0.mk Q_X3
   have X4 := Aside0.mk Q_X4
   refine goes_ Try.func42 (by kernel_rfl) rfl #[.slice A0 l0.length c0] (wanted_on rfl rfl rfl (e27.trans (by first | rfl | (simp [*]; done)))) rfl rfl (by first | (simp only [List.map_toArray, List.map_cons, List.map_nil, Act.eval, Array.getD_eq_getD_getElem?, Option.getD_some, e30, e27]; done) | (simp only [List.map_toArray, List.map_cons, List.map_nil, Act.eval, Array.getD_eq_getD_getElem?, Option.getD_some, e30, e27]; rfl)) ?_
   refine (HI.out _ HR.out).mono ?_
   rintro e w1_ ⟨rfl, hb⟩
   refine ⟨_, rfl, ?_⟩
   refine hK.out _ _ ⟨(by rw [ha.out]; exact putSel_upk 19 hb_ rfl rfl rfl), HR.out.below hb, below_step HB.out hb, X3.out.below hb, X4.out.below hb⟩
  refine steps_cons ?_ ?_
  ·rintro b a w' ⟨ha, Q_HR, Q_HB, Q_X3, Q_X4⟩ hb_ hon hoff
   refine ⟨_, rfl, fun K hK => ?_⟩
   have e29 : a.tmps[29]? = some ((.int .i64 xb)) := by rw [ha]; exact putSel_on (e := (17, 29, (.int .i64 xb))) 17 rfl rfl (hon 17 (by kernel_rfl)) rfl
   have e31 : a.tmps[31]? = some ((.int .i64 (inL l0))) := by rw [ha]; exact putSel_on (e := (19, 31, (.int .i64 (inL l0)))) 19 rfl rfl (hon 19 (by kernel_rfl)) rfl
   have e27 : a.tmps[27]? = some ((.bool false)) := by rw [ha]; exact putSel_on (e := (15, 27, (.bool false))) 15 rfl rfl (hon 15 (by kernel_rfl)) rfl
   replace ha := Aside0.mk ha
   have HR := Aside0.mk Q_HR
   have HB := Aside0.mk Q_HB
   have X3 := Aside0.mk Q_X3
   have X4 := Aside0.mk Q_X4
   refine value_ (w1 := w') (v := (.bool true)) (wanted_on rfl rfl rfl (e27.trans (by first | rfl | (simp [*]; done)))) rfl ?_ ?_
   ·go_simp
    (try simp only [i64_w])
    try rfl
   refine hK.out _ _ ⟨(by rw [ha.out]; exact putSel_upk 20 hb_ rfl rfl rfl), Q_HR, Q_HB, Q_X3, Q_X4⟩
  refine steps_cons ?_ ?_
  ·rintro b a w' ⟨ha, Q_HR, Q_HB, Q_X3, Q_X4⟩ hb_ hon hoff
   refine ⟨_, rfl, fun K hK => ?_⟩
   have e27 : a.tmps[27]? = some ((.bool false)) := by rw [ha]; exact putSel_on (e := (15, 27, (.bool false))) 15 rfl rfl (hon 15 (by kernel_rfl)) rfl
   have e32 : a.tmps[32]? = some ((.bool true)) := by rw [ha]; exact putSel_on (e := (20, 32, (.bool true))) 20 rfl rfl (hon 20 (by kernel_rfl)) rfl
   replace ha := Aside0.mk ha
   have HR := Aside0.mk Q_HR
   have HB := Aside0.mk Q_HB
   have X3 := Aside0.mk Q_X3
   have X4 := Aside0.mk Q_X4
   refine value_ (w1 := w') (v := (.bool true)) (by rfl) rfl ?_ ?_
   ·go_simp
    (try simp only [i64_w])
    try rfl
   refine hK.out _ _ ⟨(by rw [ha.out]; exact putSel_upk 21 hb_ rfl rfl rfl), Q_HR, Q_HB, Q_X3, Q_X4⟩
  exact steps_nil
 rintro b a we hall ⟨ha, Q_HR, Q_HB, Q_X3, Q_X4⟩
 clear HB HR X3 X4
 have hb0_ := hall 0 (by kernel_rfl)
 have hb1_ := hall 1 (by kernel_rfl)
 have hb2_ := hall 2 (by kernel_rfl)
 have hb3_ := hall 3 (by kernel_rfl)
 have hb4_ := hall 4 (by kernel_rfl)
 have hb5_ := hall 5 (by kernel_rfl)
 have hb6_ := hall 6 (by kernel_rfl)
 have hb7_ := hall 7 (by kernel_rfl)
 have hb8_ := hall 8 (by kernel_rfl)
 have hb9_ := hall 9 (by kernel_rfl)
 have hb10_ := hall 10 (by kernel_rfl)
 have hb11_ := hall 11 (by kernel_rfl)
 have hb12_ := hall 12 (by kernel_rfl)
 have hb13_ := hall 13 (by kernel_rfl)
 have hb14_ := hall 14 (by kernel_rfl)
 have hb15_ := hall 15 (by kernel_rfl)
 have hb16_ := hall 16 (by kernel_rfl)
 have hb17_ := hall 17 (by kernel_rfl)
 have hb18_ := hall 18 (by kernel_rfl)
 have hb19_ := hall 19 (by kernel_rfl)
 have hb20_ := hall 20 (by kernel_rfl)
 have hb21_ := hall 21 (by kernel_rfl)
 subst ha
 simp only [putSel, hb0_, hb1_, hb2_, hb3_, hb4_, hb5_, hb6_, hb7_, hb8_, hb9_, hb10_, hb11_, hb12_, hb13_, hb14_, hb15_, hb16_, hb17_, hb18_, hb19_, hb20_, hb21_, if_true, Act.put, List.setIfInBounds_toArray, List.set_cons_zero, List.set_cons_succ]
 have HR := Aside0.mk Q_HR
 clear Q_HR
 have HB := Aside0.mk Q_HB
 clear Q_HB
 have X3 := Aside0.mk Q_X3
 clear Q_X3
 have X4 := Aside0.mk Q_X4
 clear Q_X4
 clear hall hb0_ hb1_ hb2_ hb3_ hb4_ hb5_ hb6_ hb7_ hb8_ hb9_ hb10_ hb11_ hb12_ hb13_ hb14_ hb15_ hb16_ hb17_ hb18_ hb19_ hb20_ hb21_
 have c40 := X4.out.c0
 have c41 := X4.out.c1
 have f40 := X4.out.fz 0
 have f41 := X4.out.fz 1
 go_wp2_with fail
 refine bodyPost_ret (res_span _ _ (w.heap.size + 1) 0 0 false rfl rfl (blk_put (blk_put X4.out 0 _ rfl) 1 _ rfl)) rfl ?_
 exact ⟨rfl, below_set' (below_set' HB.out (by omega)) (by omega)⟩
set_option maxHeartbeats 8000000 in
set_option maxRecDepth 100000 in
theorem span_yes (A0 : Option Addr) (c0 : Nat) (l0 : List Rn) (xa xb : Int) (w : World) (h : RC w A0 l0) (hc : l0.length ≤ c0) (hl : l0.length ≤ 140737488351232) (hg : good l0 = true) (ha : 0 ≤ xa) (hab : xa ≤ xb) (hi_ : xb ≤ inL l0) :
  Calls Try.prog 35 #[.slice A0 l0.length c0, .agg #[.int .i64 xa, .int .i64 xb]] w (SpanPost (spanL l0 xa xb) w) := by
 refine (callsIn_wide (n := 12)).1 ?_
 have HG := Aside0.mk (good_c A0 c0 l0 hc hl)
 have HI := Aside0.mk (in_c A0 c0 l0 hc hl hg)
 have HMV := Aside0.mk (fun W (hr : RC W A0 l0) => move_c A0 c0 l0 xa false W hr hc hl)
 rw [hg] at HG
 obtain ⟨g1, g2, g3, g4⟩ := good_ok hg
 have gs := (fits_iff g4 0 0 (by decide) (by decide)).1 g3
 have HOK := Aside0.mk g4
 have HSM := Aside0.mk (show Sums 0 0 E l0 from ⟨by decide, by decide, by omega, by rw [E_size]; omega⟩)
 have HLEN := Aside0.mk g2
 have hMa : xa ≤ 16777216 := by omega
 have hMb : xb ≤ 16777216 := by omega
 have hb0 : 0 ≤ xb := by omega
 have H0 := Aside0.mk h
 have HA := Aside0.mk (RC.lt h)
 have a1 : decide (xa < 0) = false := by simp; omega
 have a2 : decide (xb < xa) = false := by simp; omega
 have a3 : decide (inL l0 < xb) = false := by simpa using hi_
 obtain ⟨M, hM⟩ : ∃ M, M = spS xa xb (stepsL l0 0 0) ⟨0, 0, false⟩ := ⟨_, rfl⟩
 have hV : spanL l0 xa xb = (if M.found then (M.e0, M.e1) else ((moveL l0 xa false).1, (moveL l0 xa false).1), true) := by unfold spanL; rw [if_pos ⟨hg, ha, hab, hi_⟩, hM]
 obtain ⟨V, hVV⟩ : ∃ V, V = spanL l0 xa xb := ⟨_, rfl⟩
 rw [← hVV] at hV ⊢
 have HV := Aside0.mk hV
 have HM := Aside0.mk hM
 clear h hc hl hg g1 g2 g3 g4 gs hV hM hVV hi_ hab
 refine callsIn_of_wp_marks Try.func35 rfl trivial ?_ rfl
 simp only [Try.ntmps35, List.size_toArray, List.length_cons, List.length_nil, Nat.reduceAdd, Nat.reduceSub, Array.replicate_succ, Array.replicate_zero, List.push_toArray, List.append_toArray, List.nil_append, List.cons_append]
 gi_wp2
 obtain ⟨w2, hw2⟩ : ∃ w2, w2 = (w.alloc (.cells #[.int .i64 xa, .int .i64 xb] 42)).alloc (.cells #[.int .i64 0, .int .i64 0] 42) := ⟨_, rfl⟩
 have hb2 : Below w.heap.size w w2 := by rw [hw2]; exact below_alloc (below_alloc (Below.refl _ _) _) _
 have HB := Aside0.mk hb2
 have HR := Aside0.mk (H0.out.below hb2)
 have X3 := Aside0.mk (show Sx w.heap.size xa xb w2 by rw [hw2]; exact (show Sx w.heap.size xa xb (w.alloc _) from Own.heap_new w _).below (below_alloc (Below.refl _ _) _))
 have X4 := Aside0.mk (show Sx (w.heap.size + 1) 0 0 w2 by
  rw [hw2]
  have := Own.heap_new (w.alloc (.cells #[.int .i64 xa, .int .i64 xb] 42)) (.cells #[.int .i64 0, .int .i64 0] 42)
  rwa [World.size_alloc] at this)
 rw [← hw2]
 clear hw2 hb2
 refine wpIn_wide.2 ?_
 refine start_ (n := 22) (S := fun w' => True) (ds := []) #[false, false, false, false, false, false, false, false, false, false, false, false, false, false, false, false, false, false, false, false, false, false] (by kernel_rfl) rfl rfl trivial (fun hHeld => ?_); refine with_tabW PlaceS.tab1 PlaceS.bits1 (fun HT_ HW_ => ?_)
 refine inv_at [0, 1, 2, 3, 4, 5, 6, 7, 8, 9, 10, 11, 12, 13, 14, 15, 16, 17, 18, 19, 20, 21] (fun a0_ b a w' => a = putSel a0_ b [(0, 12, (.slice A0 l0.length c0)), (1, 13, (.bool true)), (2, 14, (.bool false)), (3, 15, (.bool false)), (4, 16, (.pointer (some ⟨w.heap.size, 0, none⟩))), (5, 17, (.int .i64 xa)), (6, 18, (.bool false)), (7, 19, (.bool false)), (8, 20, (.bool false)), (9, 21, (.pointer (some ⟨w.heap.size, 0, none⟩))), (10, 22, (.int .i64 xa)), (11, 23, (.pointer (some ⟨w.heap.size, 1, none⟩))), (12, 24, (.int .i64 xb)), (13, 25, (.bool false)), (14, 26, (.bool false)), (15, 27, (.bool false)), (16, 28, (.pointer (some ⟨w.heap.size, 1, none⟩))), (17, 29, (.int .i64 xb)), (18, 30, (.slice A0 l0.length c0)), (19, 31, (.int .i64 (inL l0))), (20, 32, (.bool false)), (21, 33, (.bool false))] ∧ (RC w' A0 l0) ∧ (Below w.heap.size w w') ∧ (Sx w.heap.size xa xb w') ∧ (Sx (w.heap.size + 1) 0 0 w')) HT_.out HW_.out (by kernel_rfl) (by kernel_rfl) ?_ ?_ ?_
 ·exact ⟨by simp only [putSel, Bool.false_eq_true, if_false], HR.out.below (below_drew1 (Below.refl _ _)), below_drew1 HB.out, X3.out.below (below_drew1 (Below.refl _ _)), X4.out.below (below_drew1 (Below.refl _ _))⟩
 ·skip
  clear HB HR X3 X4
  refine steps_cons ?_ ?_
  ·rintro b a w' ⟨ha, Q_HR, Q_HB, Q_X3, Q_X4⟩ hb_ hon hoff
   refine ⟨_, rfl, fun K hK => ?_⟩
   have e0 : a.tmps[0]? = some ((.slice A0 l0.length c0)) := by rw [ha]; exact (putSel_off rfl).trans rfl
   replace ha := Aside0.mk ha
   have HR := Aside0.mk Q_HR
   have HB := Aside0.mk Q_HB
   have X3 := Aside0.mk Q_X3
   have X4 := Aside0.mk Q_X4
   refine value_ (w1 := w') (v := (.slice A0 l0.length c0)) (by rfl) rfl ?_ ?_
   ·go_simp
    (try simp only [i64_w])
    try rfl
   refine hK.out _ _ ⟨(by rw [ha.out]; exact putSel_upk 0 hb_ rfl rfl rfl), Q_HR, Q_HB, Q_X3, Q_X4⟩
  refine steps_cons ?_ ?_
  ·rintro b a w' ⟨ha, Q_HR, Q_HB, Q_X3, Q_X4⟩ hb_ hon hoff
   refine ⟨_, rfl, fun K hK => ?_⟩
   have e12 : a.tmps[12]? = some ((.slice A0 l0.length c0)) := by rw [ha]; exact putSel_on (e := (0, 12, (.slice A0 l0.length c0))) 0 rfl rfl (hon 0 (by kernel_rfl)) rfl
   replace ha := Aside0.mk ha
   have HR := Aside0.mk Q_HR
   have HB := Aside0.mk Q_HB
   have X3 := Aside0.mk Q_X3
   have X4 := Aside0.mk Q_X4
   refine goes_ Try.func30 (by kernel_rfl) rfl #[.slice A0 l0.length c0] (by rfl) rfl rfl (by first | (simp only [List.map_toArray, List.map_cons, List.map_nil, Act.eval, Array.getD_eq_getD_getElem?, Option.getD_some, e12]; done) | (simp only [List.map_toArray, List.map_cons, List.map_nil, Act.eval, Array.getD_eq_getD_getElem?, Option.getD_some, e12]; rfl)) ?_
   refine (HG.out _ HR.out).mono ?_
   rintro e w1_ ⟨rfl, hb⟩
   refine ⟨_, rfl, ?_⟩
   refine hK.out _ _ ⟨(by rw [ha.out]; exact putSel_upk 1 hb_ rfl rfl rfl), HR.out.below hb, below_step HB.out hb, X3.out.below hb, X4.out.below hb⟩
  refine steps_cons ?_ ?_
  ·rintro b a w' ⟨ha, Q_HR, Q_HB, Q_X3, Q_X4⟩ hb_ hon hoff
   refine ⟨_, rfl, fun K hK => ?_⟩
   have e13 : a.tmps[13]? = some ((.bool true)) := by rw [ha]; exact putSel_on (e := (1, 13, (.bool true))) 1 rfl rfl (hon 1 (by kernel_rfl)) rfl
   replace ha := Aside0.mk ha
   have HR := Aside0.mk Q_HR
   have HB := Aside0.mk Q_HB
   have X3 := Aside0.mk Q_X3
   have X4 := Aside0.mk Q_X4
   refine value_ (w1 := w') (v := (.bool false)) (by rfl) rfl ?_ ?_
   ·go_simp
    (try simp only [i64_w])
    try rfl
   refine hK.out _ _ ⟨(by rw [ha.out]; exact putSel_upk 2 hb_ rfl rfl rfl), Q_HR, Q_HB, Q_X3, Q_X4⟩
  refine steps_cons ?_ ?_
  ·rintro b a w' ⟨ha, Q_HR, Q_HB, Q_X3, Q_X4⟩ hb_ hon hoff
   refine ⟨_, rfl, fun K hK => ?_⟩
   have e14 : a.tmps[14]? = some ((.bool false)) := by rw [ha]; exact putSel_on (e := (2, 14, (.bool false))) 2 rfl rfl (hon 2 (by kernel_rfl)) rfl
   replace ha := Aside0.mk ha
   have HR := Aside0.mk Q_HR
   have HB := Aside0.mk Q_HB
   have X3 := Aside0.mk Q_X3
   have X4 := Aside0.mk Q_X4
   refine value_ (w1 := w') (v := (.bool false)) (by rfl) rfl ?_ ?_
   ·go_simp
    (try simp only [i64_w])
    try rfl
   refine hK.out _ _ ⟨(by rw [ha.out]; exact putSel_upk 3 hb_ rfl rfl rfl), Q_HR, Q_HB, Q_X3, Q_X4⟩
  refine steps_cons ?_ ?_
  ·rintro b a w' ⟨ha, Q_HR, Q_HB, Q_X3, Q_X4⟩ hb_ hon hoff
   refine ⟨_, rfl, fun K hK => ?_⟩
   have e3 : a.tmps[3]? = some ((.pointer (some ⟨w.heap.size, 0, none⟩))) := by rw [ha]; exact (putSel_off rfl).trans rfl
   have e15 : a.tmps[15]? = some ((.bool false)) := by rw [ha]; exact putSel_on (e := (3, 15, (.bool false))) 3 rfl rfl (hon 3 (by kernel_rfl)) rfl
   replace ha := Aside0.mk ha
   have HR := Aside0.mk Q_HR
   have HB := Aside0.mk Q_HB
   have X3 := Aside0.mk Q_X3
   have X4 := Aside0.mk Q_X4
   refine value_ (w1 := w') (v := (.pointer (some ⟨w.heap.size, 0, none⟩))) (wanted_on rfl rfl rfl (e15.trans (by first | rfl | (simp [*]; done)))) rfl ?_ ?_
   ·go_simp
    (try simp only [i64_w])
    try rfl
   refine hK.out _ _ ⟨(by rw [ha.out]; exact putSel_upk 4 hb_ rfl rfl rfl), Q_HR, Q_HB, Q_X3, Q_X4⟩
  refine steps_cons ?_ ?_
  ·rintro b a w' ⟨ha, Q_HR, Q_HB, Q_X3, Q_X4⟩ hb_ hon hoff
   refine ⟨_, rfl, fun K hK => ?_⟩
   have e16 : a.tmps[16]? = some ((.pointer (some ⟨w.heap.size, 0, none⟩))) := by rw [ha]; exact putSel_on (e := (4, 16, (.pointer (some ⟨w.heap.size, 0, none⟩)))) 4 rfl rfl (hon 4 (by kernel_rfl)) rfl
   have e15 : a.tmps[15]? = some ((.bool false)) := by rw [ha]; exact putSel_on (e := (3, 15, (.bool false))) 3 rfl rfl (hon 3 (by kernel_rfl)) rfl
   replace ha := Aside0.mk ha
   have HR := Aside0.mk Q_HR
   have HB := Aside0.mk Q_HB
   have X3 := Aside0.mk Q_X3
   have X4 := Aside0.mk Q_X4
   have hc_ := X3.out.c0
   refine value_ (w1 := w') (v := (.int .i64 xa)) (wanted_on rfl rfl rfl (e15.trans (by first | rfl | (simp [*]; done)))) rfl ?_ ?_
   ·go_simp
    (try simp only [i64_w])
    try rfl
   refine hK.out _ _ ⟨(by rw [ha.out]; exact putSel_upk 5 hb_ rfl rfl rfl), Q_HR, Q_HB, Q_X3, Q_X4⟩
  refine steps_cons ?_ ?_
  ·rintro b a w' ⟨ha, Q_HR, Q_HB, Q_X3, Q_X4⟩ hb_ hon hoff
   refine ⟨_, rfl, fun K hK => ?_⟩
   have e17 : a.tmps[17]? = some ((.int .i64 xa)) := by rw [ha]; exact putSel_on (e := (5, 17, (.int .i64 xa))) 5 rfl rfl (hon 5 (by kernel_rfl)) rfl
   have e15 : a.tmps[15]? = some ((.bool false)) := by rw [ha]; exact putSel_on (e := (3, 15, (.bool false))) 3 rfl rfl (hon 3 (by kernel_rfl)) rfl
   replace ha := Aside0.mk ha
   have HR := Aside0.mk Q_HR
   have HB := Aside0.mk Q_HB
   have X3 := Aside0.mk Q_X3
   have X4 := Aside0.mk Q_X4
   refine value_ (w1 := w') (v := (.bool false)) (wanted_on rfl rfl rfl (e15.trans (by first | rfl | (simp [*]; done)))) rfl ?_ ?_
   ·go_simp
    (try simp only [i64_w])
    try rfl
   refine hK.out _ _ ⟨(by rw [ha.out]; exact putSel_upk 6 hb_ rfl rfl rfl), Q_HR, Q_HB, Q_X3, Q_X4⟩
  refine steps_cons ?_ ?_
  ·rintro b a w' ⟨ha, Q_HR, Q_HB, Q_X3, Q_X4⟩ hb_ hon hoff
   refine ⟨_, rfl, fun K hK => ?_⟩
   have e15 : a.tmps[15]? = some ((.bool false)) := by rw [ha]; exact putSel_on (e := (3, 15, (.bool false))) 3 rfl rfl (hon 3 (by kernel_rfl)) rfl
   have e18 : a.tmps[18]? = some ((.bool false)) := by rw [ha]; exact putSel_on (e := (6, 18, (.bool false))) 6 rfl rfl (hon 6 (by kernel_rfl)) rfl
   replace ha := Aside0.mk ha
   have HR := Aside0.mk Q_HR
   have HB := Aside0.mk Q_HB
   have X3 := Aside0.mk Q_X3
   have X4 := Aside0.mk Q_X4
   refine value_ (w1 := w') (v := (.bool false)) (by rfl) rfl ?_ ?_
   ·go_simp
    (try simp only [i64_w])
    try rfl
   refine hK.out _ _ ⟨(by rw [ha.out]; exact putSel_upk 7 hb_ rfl rfl rfl), Q_HR, Q_HB, Q_X3, Q_X4⟩
  refine steps_cons ?_ ?_
  ·rintro b a w' ⟨ha, Q_HR, Q_HB, Q_X3, Q_X4⟩ hb_ hon hoff
   refine ⟨_, rfl, fun K hK => ?_⟩
   have e19 : a.tmps[19]? = some ((.bool false)) := by rw [ha]; exact putSel_on (e := (7, 19, (.bool false))) 7 rfl rfl (hon 7 (by kernel_rfl)) rfl
   replace ha := Aside0.mk ha
   have HR := Aside0.mk Q_HR
   have HB := Aside0.mk Q_HB
   have X3 := Aside0.mk Q_X3
   have X4 := Aside0.mk Q_X4
   refine value_ (w1 := w') (v := (.bool false)) (by rfl) rfl ?_ ?_
   ·go_simp
    (try simp only [i64_w])
    try rfl
   refine hK.out _ _ ⟨(by rw [ha.out]; exact putSel_upk 8 hb_ rfl rfl rfl), Q_HR, Q_HB, Q_X3, Q_X4⟩
  refine steps_cons ?_ ?_
  ·rintro b a w' ⟨ha, Q_HR, Q_HB, Q_X3, Q_X4⟩ hb_ hon hoff
   refine ⟨_, rfl, fun K hK => ?_⟩
   have e3 : a.tmps[3]? = some ((.pointer (some ⟨w.heap.size, 0, none⟩))) := by rw [ha]; exact (putSel_off rfl).trans rfl
   have e20 : a.tmps[20]? = some ((.bool false)) := by rw [ha]; exact putSel_on (e := (8, 20, (.bool false))) 8 rfl rfl (hon 8 (by kernel_rfl)) rfl
   replace ha := Aside0.mk ha
   have HR := Aside0.mk Q_HR
   have HB := Aside0.mk Q_HB
   have X3 := Aside0.mk Q_X3
   have X4 := Aside0.mk Q_X4
   refine value_ (w1 := w') (v := (.pointer (some ⟨w.heap.size, 0, none⟩))) (wanted_on rfl rfl rfl (e20.trans (by first | rfl | (simp [*]; done)))) rfl ?_ ?_
   ·go_simp
    (try simp only [i64_w])
    try rfl
   refine hK.out _ _ ⟨(by rw [ha.out]; exact putSel_upk 9 hb_ rfl rfl rfl), Q_HR, Q_HB, Q_X3, Q_X4⟩
  refine steps_cons ?_ ?_
  ·rintro b a w' ⟨ha, Q_HR, Q_HB, Q_X3, Q_X4⟩ hb_ hon hoff
   refine ⟨_, rfl, fun K hK => ?_⟩
   have e21 : a.tmps[21]? = some ((.pointer (some ⟨w.heap.size, 0, none⟩))) := by rw [ha]; exact putSel_on (e := (9, 21, (.pointer (some ⟨w.heap.size, 0, none⟩)))) 9 rfl rfl (hon 9 (by kernel_rfl)) rfl
   have e20 : a.tmps[20]? = some ((.bool false)) := by rw [ha]; exact putSel_on (e := (8, 20, (.bool false))) 8 rfl rfl (hon 8 (by kernel_rfl)) rfl
   replace ha := Aside0.mk ha
   have HR := Aside0.mk Q_HR
   have HB := Aside0.mk Q_HB
   have X3 := Aside0.mk Q_X3
   have X4 := Aside0.mk Q_X4
   have hc_ := X3.out.c0
   refine value_ (w1 := w') (v := (.int .i64 xa)) (wanted_on rfl rfl rfl (e20.trans (by first | rfl | (simp [*]; done)))) rfl ?_ ?_
   ·go_simp
    (try simp only [i64_w])
    try rfl
   refine hK.out _ _ ⟨(by rw [ha.out]; exact putSel_upk 10 hb_ rfl rfl rfl), Q_HR, Q_HB, Q_X3, Q_X4⟩
  refine steps_cons ?_ ?_
  ·rintro b a w' ⟨ha, Q_HR, Q_HB, Q_X3, Q_X4⟩ hb_ hon hoff
   refine ⟨_, rfl, fun K hK => ?_⟩
   have e3 : a.tmps[3]? = some ((.pointer (some ⟨w.heap.size, 0, none⟩))) := by rw [ha]; exact (putSel_off rfl).trans rfl
   have e20 : a.tmps[20]? = some ((.bool false)) := by rw [ha]; exact putSel_on (e := (8, 20, (.bool false))) 8 rfl rfl (hon 8 (by kernel_rfl)) rfl
   replace ha := Aside0.mk ha
   have HR := Aside0.mk Q_HR
   have HB := Aside0.mk Q_HB
   have X3 := Aside0.mk Q_X3
   have X4 := Aside0.mk Q_X4
   refine value_ (w1 := w') (v := (.pointer (some ⟨w.heap.size, 1, none⟩))) (wanted_on rfl rfl rfl (e20.trans (by first | rfl | (simp [*]; done)))) rfl ?_ ?_
   ·go_simp
    (try simp only [i64_w])
    try rfl
   refine hK.out _ _ ⟨(by rw [ha.out]; exact putSel_upk 11 hb_ rfl rfl rfl), Q_HR, Q_HB, Q_X3, Q_X4⟩
  refine steps_cons ?_ ?_
  ·rintro b a w' ⟨ha, Q_HR, Q_HB, Q_X3, Q_X4⟩ hb_ hon hoff
   refine ⟨_, rfl, fun K hK => ?_⟩
   have e23 : a.tmps[23]? = some ((.pointer (some ⟨w.heap.size, 1, none⟩))) := by rw [ha]; exact putSel_on (e := (11, 23, (.pointer (some ⟨w.heap.size, 1, none⟩)))) 11 rfl rfl (hon 11 (by kernel_rfl)) rfl
   have e20 : a.tmps[20]? = some ((.bool false)) := by rw [ha]; exact putSel_on (e := (8, 20, (.bool false))) 8 rfl rfl (hon 8 (by kernel_rfl)) rfl
   replace ha := Aside0.mk ha
   have HR := Aside0.mk Q_HR
   have HB := Aside0.mk Q_HB
   have X3 := Aside0.mk Q_X3
   have X4 := Aside0.mk Q_X4
   have hc_ := X3.out.c1
   refine value_ (w1 := w') (v := (.int .i64 xb)) (wanted_on rfl rfl rfl (e20.trans (by first | rfl | (simp [*]; done)))) rfl ?_ ?_
   ·go_simp
    (try simp only [i64_w])
    try rfl
   refine hK.out _ _ ⟨(by rw [ha.out]; exact putSel_upk 12 hb_ rfl rfl rfl), Q_HR, Q_HB, Q_X3, Q_X4⟩
  refine steps_cons ?_ ?_
  ·rintro b a w' ⟨ha, Q_HR, Q_HB, Q_X3, Q_X4⟩ hb_ hon hoff
   refine ⟨_, rfl, fun K hK => ?_⟩
   have e22 : a.tmps[22]? = some ((.int .i64 xa)) := by rw [ha]; exact putSel_on (e := (10, 22, (.int .i64 xa))) 10 rfl rfl (hon 10 (by kernel_rfl)) rfl
   have e24 : a.tmps[24]? = some ((.int .i64 xb)) := by rw [ha]; exact putSel_on (e := (12, 24, (.int .i64 xb))) 12 rfl rfl (hon 12 (by kernel_rfl)) rfl
   have e20 : a.tmps[20]? = some ((.bool false)) := by rw [ha]; exact putSel_on (e := (8, 20, (.bool false))) 8 rfl rfl (hon 8 (by kernel_rfl)) rfl
   replace ha := Aside0.mk ha
   have HR := Aside0.mk Q_HR
   have HB := Aside0.mk Q_HB
   have X3 := Aside0.mk Q_X3
   have X4 := Aside0.mk Q_X4
   refine value_ (w1 := w') (v := (.bool false)) (wanted_on rfl rfl rfl (e20.trans (by first | rfl | (simp [*]; done)))) rfl ?_ ?_
   ·go_simp
    (try simp only [i64_w])
    try rfl
   refine hK.out _ _ ⟨(by rw [ha.out]; exact putSel_upk 13 hb_ rfl rfl rfl), Q_HR, Q_HB, Q_X3, Q_X4⟩
  refine steps_cons ?_ ?_
  ·rintro b a w' ⟨ha, Q_HR, Q_HB, Q_X3, Q_X4⟩ hb_ hon hoff
   refine ⟨_, rfl, fun K hK => ?_⟩
   have e20 : a.tmps[20]? = some ((.bool false)) := by rw [ha]; exact putSel_on (e := (8, 20, (.bool false))) 8 rfl rfl (hon 8 (by kernel_rfl)) rfl
   have e25 : a.tmps[25]? = some ((.bool false)) := by rw [ha]; exact putSel_on (e := (13, 25, (.bool false))) 13 rfl rfl (hon 13 (by kernel_rfl)) rfl
   replace ha := Aside0.mk ha
   have HR := Aside0.mk Q_HR
   have HB := Aside0.mk Q_HB
   have X3 := Aside0.mk Q_X3
   have X4 := Aside0.mk Q_X4
   refine value_ (w1 := w') (v := (.bool false)) (by rfl) rfl ?_ ?_
   ·go_simp
    (try simp only [i64_w])
    try rfl
   refine hK.out _ _ ⟨(by rw [ha.out]; exact putSel_upk 14 hb_ rfl rfl rfl), Q_HR, Q_HB, Q_X3, Q_X4⟩
  refine steps_cons ?_ ?_
  ·rintro b a w' ⟨ha, Q_HR, Q_HB, Q_X3, Q_X4⟩ hb_ hon hoff
   refine ⟨_, rfl, fun K hK => ?_⟩
   have e26 : a.tmps[26]? = some ((.bool false)) := by rw [ha]; exact putSel_on (e := (14, 26, (.bool false))) 14 rfl rfl (hon 14 (by kernel_rfl)) rfl
   replace ha := Aside0.mk ha
   have HR := Aside0.mk Q_HR
   have HB := Aside0.mk Q_HB
   have X3 := Aside0.mk Q_X3
   have X4 := Aside0.mk Q_X4
   refine value_ (w1 := w') (v := (.bool false)) (by rfl) rfl ?_ ?_
   ·go_simp
    (try simp only [i64_w])
    try rfl
   refine hK.out _ _ ⟨(by rw [ha.out]; exact putSel_upk 15 hb_ rfl rfl rfl), Q_HR, Q_HB, Q_X3, Q_X4⟩
  refine steps_cons ?_ ?_
  ·rintro b a w' ⟨ha, Q_HR, Q_HB, Q_X3, Q_X4⟩ hb_ hon hoff
   refine ⟨_, rfl, fun K hK => ?_⟩
   have e3 : a.tmps[3]? = some ((.pointer (some ⟨w.heap.size, 0, none⟩))) := by rw [ha]; exact (putSel_off rfl).trans rfl
   have e27 : a.tmps[27]? = some ((.bool false)) := by rw [ha]; exact putSel_on (e := (15, 27, (.bool false))) 15 rfl rfl (hon 15 (by kernel_rfl)) rfl
   replace ha := Aside0.mk ha
   have HR := Aside0.mk Q_HR
   have HB := Aside0.mk Q_HB
   have X3 := Aside0.mk Q_X3
   have X4 := Aside0.mk Q_X4
   refine value_ (w1 := w') (v := (.pointer (some ⟨w.heap.size, 1, none⟩))) (wanted_on rfl rfl rfl (e27.trans (by first | rfl | (simp [*]; done)))) rfl ?_ ?_
   ·go_simp
    (try simp only [i64_w])
    try rfl
   refine hK.out _ _ ⟨(by rw [ha.out]; exact putSel_upk 16 hb_ rfl rfl rfl), Q_HR, Q_HB, Q_X3, Q_X4⟩
  refine steps_cons ?_ ?_
  ·rintro b a w' ⟨ha, Q_HR, Q_HB, Q_X3, Q_X4⟩ hb_ hon hoff
   refine ⟨_, rfl, fun K hK => ?_⟩
   have e28 : a.tmps[28]? = some ((.pointer (some ⟨w.heap.size, 1, none⟩))) := by rw [ha]; exact putSel_on (e := (16, 28, (.pointer (some ⟨w.heap.size, 1, none⟩)))) 16 rfl rfl (hon 16 (by kernel_rfl)) rfl
   have e27 : a.tmps[27]? = some ((.bool false)) := by rw [ha]; exact putSel_on (e := (15, 27, (.bool false))) 15 rfl rfl (hon 15 (by kernel_rfl)) rfl
   replace ha := Aside0.mk ha
   have HR := Aside0.mk Q_HR
   have HB := Aside0.mk Q_HB
   have X3 := Aside0.mk Q_X3
   have X4 := Aside0.mk Q_X4
   have hc_ := X3.out.c1
   refine value_ (w1 := w') (v := (.int .i64 xb)) (wanted_on rfl rfl rfl (e27.trans (by first | rfl | (simp [*]; done)))) rfl ?_ ?_
   ·go_simp
    (try simp only [i64_w])
    try rfl
   refine hK.out _ _ ⟨(by rw [ha.out]; exact putSel_upk 17 hb_ rfl rfl rfl), Q_HR, Q_HB, Q_X3, Q_X4⟩
  refine steps_cons ?_ ?_
  ·rintro b a w' ⟨ha, Q_HR, Q_HB, Q_X3, Q_X4⟩ hb_ hon hoff
   refine ⟨_, rfl, fun K hK => ?_⟩
   have e0 : a.tmps[0]? = some ((.slice A0 l0.length c0)) := by rw [ha]; exact (putSel_off rfl).trans rfl
   have e27 : a.tmps[27]? = some ((.bool false)) := by rw [ha]; exact putSel_on (e := (15, 27, (.bool false))) 15 rfl rfl (hon 15 (by kernel_rfl)) rfl
   replace ha := Aside0.mk ha
   have HR := Aside0.mk Q_HR
   have HB := Aside0.mk Q_HB
   have X3 := Aside0.mk Q_X3
   have X4 := Aside0.mk Q_X4
   refine value_ (w1 := w') (v := (.slice A0 l0.length c0)) (wanted_on rfl rfl rfl (e27.trans (by first | rfl | (simp [*]; done)))) rfl ?_ ?_
   ·go_simp
    (try simp only [i64_w])
    try rfl
   refine hK.out _ _ ⟨(by rw [ha.out]; exact putSel_upk 18 hb_ rfl rfl rfl), Q_HR, Q_HB, Q_X3, Q_X4⟩
  refine steps_cons ?_ ?_
  ·rintro b a w' ⟨ha, Q_HR, Q_HB, Q_X3, Q_X4⟩ hb_ hon hoff
   refine ⟨_, rfl, fun K hK => ?_⟩
   have e30 : a.tmps[30]? = some ((.slice A0 l0.length c0)) := by rw [ha]; exact putSel_on (e := (18, 30, (.slice A0 l0.length c0))) 18 rfl rfl (hon 18 (by kernel_rfl)) rfl
   have e27 : a.tmps[27]? = some ((.bool false)) := by rw [ha]; exact putSel_on (e := (15, 27, (.bool false))) 15 rfl rfl (hon 15 (by kernel_rfl)) rfl
   replace ha := Aside0.mk ha
   have HR := Aside0.mk Q_HR
   have HB := Aside0.mk Q_HB
   have X3 := Aside0.mk Q_X3
   have X4 := Aside0.mk Q_X4
   refine goes_ Try.func42 (by kernel_rfl) rfl #[.slice A0 l0.length c0] (wanted_on rfl rfl rfl (e27.trans (by first | rfl | (simp [*]; done)))) rfl rfl (by first | (simp only [List.map_toArray, List.map_cons, List.map_nil, Act.eval, Array.getD_eq_getD_getElem?, Option.getD_some, e30, e27]; done) | (simp only [List.map_toArray, List.map_cons, List.map_nil, Act.eval, Array.getD_eq_getD_getElem?, Option.getD_some, e30, e27]; rfl)) ?_
   refine (HI.out _ HR.out).mono ?_
   rintro e w1_ ⟨rfl, hb⟩
   refine ⟨_, rfl, ?_⟩
   refine hK.out _ _ ⟨(by rw [ha.out]; exact putSel_upk 19 hb_ rfl rfl rfl), HR.out.below hb, below_step HB.out hb, X3.out.below hb, X4.out.below hb⟩
  refine steps_cons ?_ ?_
  ·rintro b a w' ⟨ha, Q_HR, Q_HB, Q_X3, Q_X4⟩ hb_ hon hoff
   refine ⟨_, rfl, fun K hK => ?_⟩
   have e29 : a.tmps[29]? = some ((.int .i64 xb)) := by rw [ha]; exact putSel_on (e := (17, 29, (.int .i64 xb))) 17 rfl rfl (hon 17 (by kernel_rfl)) rfl
   have e31 : a.tmps[31]? = some ((.int .i64 (inL l0))) := by rw [ha]; exact putSel_on (e := (19, 31, (.int .i64 (inL l0)))) 19 rfl rfl (hon 19 (by kernel_rfl)) rfl
   have e27 : a.tmps[27]? = some ((.bool false)) := by rw [ha]; exact putSel_on (e := (15, 27, (.bool false))) 15 rfl rfl (hon 15 (by kernel_rfl)) rfl
   replace ha := Aside0.mk ha
   have HR := Aside0.mk Q_HR
   have HB := Aside0.mk Q_HB
   have X3 := Aside0.mk Q_X3
   have X4 := Aside0.mk Q_X4
   refine value_ (w1 := w') (v := (.bool false)) (wanted_on rfl rfl rfl (e27.trans (by first | rfl | (simp [*]; done)))) rfl ?_ ?_
   ·go_simp
    (try simp only [i64_w])
    try rfl
   refine hK.out _ _ ⟨(by rw [ha.out]; exact putSel_upk 20 hb_ rfl rfl rfl), Q_HR, Q_HB, Q_X3, Q_X4⟩
  refine steps_cons ?_ ?_
  ·rintro b a w' ⟨ha, Q_HR, Q_HB, Q_X3, Q_X4⟩ hb_ hon hoff
   refine ⟨_, rfl, fun K hK => ?_⟩
   have e27 : a.tmps[27]? = some ((.bool false)) := by rw [ha]; exact putSel_on (e := (15, 27, (.bool false))) 15 rfl rfl (hon 15 (by kernel_rfl)) rfl
   have e32 : a.tmps[32]? = some ((.bool false)) := by rw [ha]; exact putSel_on (e := (20, 32, (.bool false))) 20 rfl rfl (hon 20 (by kernel_rfl)) rfl
   replace ha := Aside0.mk ha
   have HR := Aside0.mk Q_HR
   have HB := Aside0.mk Q_HB
   have X3 := Aside0.mk Q_X3
   have X4 := Aside0.mk Q_X4
   refine value_ (w1 := w') (v := (.bool false)) (by rfl) rfl ?_ ?_
   ·go_simp
    (try simp only [i64_w])
    try rfl
   refine hK.out _ _ ⟨(by rw [ha.out]; exact putSel_upk 21 hb_ rfl rfl rfl), Q_HR, Q_HB, Q_X3, Q_X4⟩
  exact steps_nil
 rintro b a we hall ⟨ha, Q_HR, Q_HB, Q_X3, Q_X4⟩
 clear HB HR X3 X4
 have hb0_ := hall 0 (by kernel_rfl)
 have hb1_ := hall 1 (by kernel_rfl)
 have hb2_ := hall 2 (by kernel_rfl)
 have hb3_ := hall 3 (by kernel_rfl)
 have hb4_ := hall 4 (by kernel_rfl)
 have hb5_ := hall 5 (by kernel_rfl)
 have hb6_ := hall 6 (by kernel_rfl)
 have hb7_ := hall 7 (by kernel_rfl)
 have hb8_ := hall 8 (by kernel_rfl)
 have hb9_ := hall 9 (by kernel_rfl)
 have hb10_ := hall 10 (by kernel_rfl)
 have hb11_ := hall 11 (by kernel_rfl)
 have hb12_ := hall 12 (by kernel_rfl)
 have hb13_ := hall 13 (by kernel_rfl)
 have hb14_ := hall 14 (by kernel_rfl)
 have hb15_ := hall 15 (by kernel_rfl)
 have hb16_ := hall 16 (by kernel_rfl)
 have hb17_ := hall 17 (by kernel_rfl)
 have hb18_ := hall 18 (by kernel_rfl)
 have hb19_ := hall 19 (by kernel_rfl)
 have hb20_ := hall 20 (by kernel_rfl)
 have hb21_ := hall 21 (by kernel_rfl)
 subst ha
 simp only [putSel, hb0_, hb1_, hb2_, hb3_, hb4_, hb5_, hb6_, hb7_, hb8_, hb9_, hb10_, hb11_, hb12_, hb13_, hb14_, hb15_, hb16_, hb17_, hb18_, hb19_, hb20_, hb21_, if_true, Act.put, List.setIfInBounds_toArray, List.set_cons_zero, List.set_cons_succ]
 have HR := Aside0.mk Q_HR
 clear Q_HR
 have HB := Aside0.mk Q_HB
 clear Q_HB
 have X3 := Aside0.mk Q_X3
 clear Q_X3
 have X4 := Aside0.mk Q_X4
 clear Q_X4
 clear hall hb0_ hb1_ hb2_ hb3_ hb4_ hb5_ hb6_ hb7_ hb8_ hb9_ hb10_ hb11_ hb12_ hb13_ hb14_ hb15_ hb16_ hb17_ hb18_ hb19_ hb20_ hb21_
 gi_wp2
 obtain ⟨BE, hBE⟩ : ∃ b, b = we.heap.size := ⟨_, rfl⟩
 obtain ⟨BF, hBF⟩ : ∃ b, b = we.heap.size + 1 := ⟨_, rfl⟩
 obtain ⟨BC, hBC⟩ : ∃ b, b = we.heap.size + 1 + 1 := ⟨_, rfl⟩
 obtain ⟨w5, hw5⟩ : ∃ w5, w5 = (((we.alloc (.cells #[.int .i64 0, .int .i64 0] 74)).alloc (.cells #[.bool false] 4)).alloc (.cells #[.func (.func 43) #[] #[.pointer (some ⟨w.heap.size, 0, none⟩), .pointer (some ⟨we.heap.size + 1, 0, none⟩), .pointer (some ⟨we.heap.size, 0, none⟩)]] 77)) := ⟨_, rfl⟩
 have hz5 : w5.heap.size = we.heap.size + 3 := by rw [hw5]; simp
 have hb5 : Below we.heap.size we w5 := by rw [hw5]; exact below_alloc (below_alloc (below_alloc (Below.refl _ _) _) _ ) _
 have hE5 : w5.heap[BE]? = some (.cells #[.int .i64 0, .int .i64 0] 74 (0, 0)) := by
  rw [hw5, hBE, Own.heap_old _ _ _ (by simp; omega), Own.heap_old _ _ _ (by simp)]; exact Own.heap_new _ _
 have hF5 : w5.heap[BF]? = some (.cells #[.bool false] 4 (0, 0)) := by
  rw [hw5, hBF, Own.heap_old _ _ _ (by simp)]
  have := Own.heap_new (we.alloc (.cells #[.int .i64 0, .int .i64 0] 74)) (.cells #[.bool false] 4)
  rwa [World.size_alloc] at this
 have hC5 : w5.heap[BC]? = some (.cells #[.func (.func 43) #[] #[.pointer (some ⟨w.heap.size, 0, none⟩), .pointer (some ⟨BF, 0, none⟩), .pointer (some ⟨BE, 0, none⟩)]] 77 (0, 0)) := by
  rw [hw5, hBC, hBF, hBE]
  have := Own.heap_new ((we.alloc (.cells #[.int .i64 0, .int .i64 0] 74)).alloc (.cells #[.bool false] 4)) (.cells #[.func (.func 43) #[] #[.pointer (some ⟨w.heap.size, 0, none⟩), .pointer (some ⟨we.heap.size + 1, 0, none⟩), .pointer (some ⟨we.heap.size, 0, none⟩)]] 77)
  rwa [World.size_alloc, World.size_alloc] at this
 rw [← hw5, ← hBC, ← hBF, ← hBE]
 refine ⟨trivial, ?_⟩
 refine (callsIn_wide.2 (steps_c A0 _ c0 _)).mono ?_
 rintro e w6 ⟨rfl, hw6⟩
 have hb56 : Below w5.heap.size w5 w6 := by rw [hw6]; exact below_alloc (Below.refl _ _) _
 have hb6 : Below we.heap.size we w6 := hb5.trans (hb56.mono hb5.size)
 have hwe := X4.out
 have hwl : w.heap.size + 1 < we.heap.size := (Array.getElem?_eq_some_iff.1 hwe).1
 have HB6 := Aside0.mk (show Below w.heap.size w w6 from HB.out.trans (hb6.mono HB.out.size))
 have HX3 := Aside0.mk (X3.out.below hb6)
 have HX4 := Aside0.mk (X4.out.below hb6)
 have HR6 := Aside0.mk (HR.out.below hb6)
 have HE6 := Aside0.mk ((hb56.block BE (by omega)).trans hE5)
 have HF6 := Aside0.mk ((hb56.block BF (by omega)).trans hF5)
 have HC6 := Aside0.mk ((hb56.block BC (by omega)).trans hC5)
 obtain ⟨T, hT⟩ : ∃ T, T = w5.heap.size := ⟨_, rfl⟩
 have HT6 := Aside0.mk (show w6.heap[T]? = some (.cells #[.slice A0 l0.length c0] 34 (0, 0)) by rw [hw6, hT]; exact Own.heap_new _ _)
 have hT6 := (Array.getElem?_eq_some_iff.1 HT6.out).1
 have HZ6 := Aside0.mk (show w.heap.size + 1 < BE ∧ BF = BE + 1 ∧ BC = BE + 2 ∧ T = BE + 3 ∧ T < w6.heap.size from ⟨by omega, by omega, by omega, by omega, hT6⟩)
 rw [← hT]
 clear hw5 hz5 hb5 hE5 hF5 hC5 hw6 hb56 hb6 hwe hwl hT hT6 hBE hBF hBC X3 X4 HR HB HG HI H0 a1 a2 a3
 gi_wp2
 have HFF := Aside0.mk (show ∀ k, (fun k => k = BE ∨ k = BF) k → k < w6.heap.size from fun k hk => by have := HZ6.out; have hk2 : k = BE ∨ k = BF := hk; omega)
 obtain ⟨L, hL⟩ : ∃ L, L = stepsL l0 0 0 := ⟨_, rfl⟩
 obtain ⟨Q, hQ⟩ : ∃ Q : List St → World → Prop, Q = fun pre W => ∃ m : Sp, SpIn BE BF m W ∧ spS xa xb (L.drop pre.length) m = M := ⟨_, rfl⟩
 have HQQ := Aside0.mk (show ∀ pre W W', (∀ k, (fun k => k = BE ∨ k = BF) k → W'.heap[k]? = W.heap[k]?) → Q pre W → Q pre W' from fun pre W W' hk hq => by
  rw [hQ] at hq ⊢
  obtain ⟨d, h1, h2⟩ := hq
  exact ⟨d, ⟨(hk BE (.inl rfl)).trans h1.1, (hk BF (.inr rfl)).trans h1.2⟩, h2⟩)
 have HQE := Aside0.mk hQ
 have HLE := Aside0.mk hL
 clear hQ hL
 refine range_g (n := 12) (w := w6) (by decide) (gf := 53) (lb := #[.pointer (some ⟨T, 0, none⟩)]) rfl (enters_of Try.func53 (by kernel_rfl) rfl) (fun s : St => #[.agg #[.int .i64 s.r.f0, .string s.r.f1, .int .i64 s.r.f2, .int .i64 s.i, .int .i64 s.o]]) (fun _ => rfl) L (Held A0 c0 T l0)
  (by rw [HLE.out]; exact steps_it A0 c0 T l0 HOK.out HSM.out (by have := HLEN.out; omega)) (Jf w6 (fun k => k = BE ∨ k = BF) Q) (jf_party HFF.out HQQ.out) ?hK (jf_own (Nat.le_refl _) HFF.out HQQ.out) (fun _ _ _ => False) (fun _ _ _ _ _ h _ _ => h) ?h0
  (fun x a' W => ∃ Bx, W.heap[Bx]? = some (.cells #[.int .i64 x.r.f0, .string x.r.f1, .int .i64 x.r.f2, .int .i64 x.i, .int .i64 x.o] 76 (0, 0)) ∧ a' = { tmps := #[.slice A0 l0.length c0, .agg #[.int .i64 xa, .int .i64 xb], undef, .pointer (some ⟨w.heap.size, 0, none⟩), .pointer (some ⟨w.heap.size + 1, 0, none⟩), .bool false, .pointer (some ⟨BE, 0, none⟩), .pointer (some ⟨BF, 0, none⟩), .pointer (some ⟨BC, 0, none⟩), .pointer (some ⟨Bx, 0, none⟩), undef, undef, .slice A0 l0.length c0, .bool true, .bool false, .bool false, .pointer (some ⟨w.heap.size, 0, none⟩), .int .i64 xa, .bool false, .bool false, .bool false, .pointer (some ⟨w.heap.size, 0, none⟩), .int .i64 xa, .pointer (some ⟨w.heap.size, 1, none⟩), .int .i64 xb, .bool false, .bool false, .bool false, .pointer (some ⟨w.heap.size, 1, none⟩), .int .i64 xb, .slice A0 l0.length c0, .int .i64 (inL l0), .bool false, .bool false, undef, .func (.func 43) #[] #[.pointer (some ⟨w.heap.size, 0, none⟩), .pointer (some ⟨BF, 0, none⟩), .pointer (some ⟨BE, 0, none⟩)], .slice A0 l0.length c0, .func (.func 53) #[] #[.pointer (some ⟨T, 0, none⟩)], .agg #[.int .i64 x.r.f0, .string x.r.f1, .int .i64 x.r.f2, .int .i64 x.i, .int .i64 x.o], undef, undef, undef, undef, undef, undef, undef, undef, undef, undef, undef, undef, undef, undef, undef, undef, undef, undef, undef, undef], defers := [] })
  (fun x a' s W W' row hs hg hr => by obtain ⟨Bx, h1, h2⟩ := hs; exact ⟨Bx, (hg.block Bx (Array.getElem?_eq_some_iff.1 h1).1 (fun e => by obtain ⟨_, q, h3, h4⟩ := hr Bx e.symm; rw [h1] at h3; cases h3; cases h4)).trans h1, h2⟩) ?assign ?body ?done ?stop
 case hK =>
  intro pre G W hj
  refine ⟨(hj.but.block _ HZ6.out.2.2.2.2 (fun e => by have e2 : T = BE ∨ T = BF := e; have := HZ6.out; omega)).trans HT6.out, C_same HR6.out fun ad e hp => ?_⟩
  have hlt := HA.out ad e hp
  exact hj.but.block _ (by have := HZ6.out; omega) (fun e2 => by have e3 : ad.block = BE ∨ ad.block = BF := e2; have := HZ6.out; omega)
 case h0 => exact jf_start rfl (by rw [HQE.out]; exact ⟨⟨0, 0, false⟩, ⟨HE6.out, HF6.out⟩, by rw [HM.out, HLE.out]; rfl⟩)
 case assign =>
  intro l pre G x W K hj hK
  gi_wp2
  exact hK _ _ ((KeepsOthers.alloc _ _).from _) ((jf_party HFF.out HQQ.out).below hj (below_alloc (Below.refl _ _) _)) ⟨W.heap.size, Own.heap_new _ _, rfl⟩
 case body =>
  rintro l pre x suf G a' W hLp hj ⟨Bx, hx, rfl⟩
  have hq := hj.q
  rw [HQE.out] at hq
  obtain ⟨m, hsp, hmv⟩ := hq
  have hdr : L.drop pre.length = x :: suf := by rw [hLp]; simp
  rw [hdr] at hmv
  have HMS := Aside0.mk (show spS xa xb suf (meetL xa xb x m) = M from hmv)
  have HNX := Aside0.mk (show L.drop (pre ++ [x]).length = suf by rw [hLp]; simp)
  have bnd := step_bounds l0 0 0 HOK.out (by decide) (by decide) HSM.out.i (by have := HSM.out.o; rw [E_size] at this; exact this) x (by rw [← HLE.out, hLp]; simp)
  obtain ⟨xi0, xo0, xi, xo, xk⟩ := bnd
  have xp := knd_pos xk
  have HJ := Aside0.mk hj
  have hX : W.heap[w.heap.size]? = some (.cells #[.int .i64 xa, .int .i64 xb] 42 (0, 0)) := (hj.but.block _ (by have := HZ6.out; omega) (fun e => by have e2 : w.heap.size = BE ∨ w.heap.size = BF := e; have := HZ6.out; omega)).trans HX3.out
  have hCC := (hj.but.block BC (by have := HZ6.out; omega) (fun e => by have e2 : BC = BE ∨ BC = BF := e; have := HZ6.out; omega)).trans HC6.out
  have HMC := Aside0.mk (meet_c w.heap.size BE BF xa xb x m W hX hsp (by have := HZ6.out; omega) (by have := HZ6.out; omega) (by have := HZ6.out; omega) ha hMb hMa hb0 xi0 (by omega) xo0 (by omega) xp.1)
  have c8 : W.cell? ⟨BC, 0, none⟩ = some (.func (.func 43) #[] #[.pointer (some ⟨w.heap.size, 0, none⟩), .pointer (some ⟨BF, 0, none⟩), .pointer (some ⟨BE, 0, none⟩)]) := by rw [cell_of_row W _ 0 _ _ _ hCC]; rfl
  obtain ⟨x0, x1, x2, x3, x4⟩ := blk_step (s := x) hx
  clear hx hj hsp hmv hdr hLp xk xp xi xo xi0 xo0 hX hCC
  gi_wp2
  refine ⟨trivial, ?_⟩
  refine (callsIn_wide.2 HMC.out).mono ?_
  rintro e w8 ⟨⟨v, rfl⟩, hbs, hsp⟩
  have HBS := Aside0.mk hbs
  have HSP := Aside0.mk hsp
  clear hbs hsp
  gi_wp2
  refine ⟨⟨HBS.out.size, fun k q hk hq hc => (HBS.out.block k (Array.getElem?_eq_some_iff.1 hq).1 (fun e => by have := HFF.out k e; omega)).trans hq⟩, jf_step HFF.out HJ.out HBS.out (by rw [HQE.out]; exact ⟨_, HSP.out, by rw [HNX.out]; exact HMS.out⟩)⟩
 case done =>
  intro D G W hD hj hK
  have hq := hj.q
  rw [HQE.out] at hq
  obtain ⟨m, hsp, hmv⟩ := hq
  rw [List.drop_length] at hmv
  have hmm : m = M := hmv
  subst hmm
  have HSP := Aside0.mk hsp
  have HBUT := Aside0.mk hj.but
  have HKD := Aside0.mk hK
  have HDD := Aside0.mk hD
  have hX3 : Sx w.heap.size xa xb W := (hj.but.block _ (by have := HZ6.out; omega) (fun e => by have e2 : w.heap.size = BE ∨ w.heap.size = BF := e; have := HZ6.out; omega)).trans HX3.out
  have hX4 : Sx (w.heap.size + 1) 0 0 W := (hj.but.block _ (by have := HZ6.out; omega) (fun e => by have e2 : w.heap.size + 1 = BE ∨ w.heap.size + 1 = BF := e; have := HZ6.out; omega)).trans HX4.out
  have HX3W := Aside0.mk hX3
  have HX4W := Aside0.mk hX4
  have HRW := Aside0.mk (show RC W A0 l0 from C_same HR6.out fun ad e hp => by
   have hlt := HA.out ad e hp
   exact HBUT.out.block _ (by have := HZ6.out; omega) (fun e2 => by have e3 : ad.block = BE ∨ ad.block = BF := e2; have := HZ6.out; omega))
  have HBW := Aside0.mk (HBUT.out.below HB6.out (fun k hk => by have e2 : k = BE ∨ k = BF := hk; have := HZ6.out; omega) HB6.out.size)
  have cf : W.cell? ⟨BF, 0, none⟩ = some (.bool m.found) := by rw [cell_of_row W _ 0 _ _ _ hsp.2]; rfl
  clear hj hsp hmv hK hD hX3 hX4
  obtain ⟨m0, m1, mf⟩ := m
  have hRB : w.heap.size + 1 ≠ BE := by have := HZ6.out; omega
  have hRF : w.heap.size + 1 ≠ BF := by have := HZ6.out; omega
  have hBR : BE ≠ w.heap.size + 1 := by have := HZ6.out; omega
  have HDR := Aside0.mk (show D ≠ w.heap.size + 1 by have := HDD.out; have := HZ6.out; omega)
  simp only at cf
  cases mf with
  | true =>
   have HV2 := Aside0.mk (show V = ((m0, m1), true) from HV.out)
   have e0 : W.cell? ⟨BE, 0, none⟩ = some (.int .i64 m0) := by rw [cell_of_row W _ 0 _ _ _ HSP.out.1]; rfl
   have e1 : W.cell? ⟨BE, 1, none⟩ = some (.int .i64 m1) := by rw [cell_of_row W _ 1 _ _ _ HSP.out.1]; rfl
   have c40 := HX4W.out.c0
   have c41 := HX4W.out.c1
   have f40 := HX4W.out.fz 0
   have f41 := HX4W.out.fz 1
   gi_wp2
   have hkd : ((W.setCell ⟨w.heap.size + 1, 0, none⟩ (.int .i64 m0)).setCell ⟨w.heap.size + 1, 1, none⟩ (.int .i64 m1)).heap[D]? = some (.deferred (some [])) := by
    rw [Below.heap_setCell _ ⟨w.heap.size + 1, 1, none⟩ _ D HDR.out, Below.heap_setCell _ ⟨w.heap.size + 1, 0, none⟩ _ D HDR.out]; exact HKD.out
   refine ⟨by simp, .inl ⟨_, _, rfl, run_takeDeferred hkd, ?_⟩⟩
   have hs := blk_put (blk_put HX4W.out 0 (.int .i64 m0) rfl) 1 (.int .i64 m1) rfl
   have hs2 : Sx (w.heap.size + 1) m0 m1 (((W.setCell ⟨w.heap.size + 1, 0, none⟩ (.int .i64 m0)).setCell ⟨w.heap.size + 1, 1, none⟩ (.int .i64 m1)).putObj D (.deferred none)) := (World.putObj_heap_other HDR.out.symm).trans hs
   refine ⟨_, res_span _ _ (w.heap.size + 1) m0 m1 true rfl rfl hs2, ?_, ?_⟩
   ·rw [HV2.out]
   exact (below_set' (below_set' HBW.out (by omega)) (by omega)).trans ⟨rfl, rfl, rfl, by simp, fun k hk => World.putObj_heap_other (by have := HDD.out; have := HZ6.out; omega)⟩
  | false =>
   obtain ⟨mv, hmv⟩ : ∃ mv, mv = moveL l0 xa false := ⟨_, rfl⟩
   have HV2 := Aside0.mk (show V = ((mv.1, mv.1), true) by rw [hmv]; exact HV.out)
   have HMW := Aside0.mk (HMV.out W HRW.out)
   rw [← hmv] at HMW
   clear hmv
   obtain ⟨mx, mb⟩ := mv
   simp only at HMW HV2
   have c30 := HX3W.out.c0
   gi_wp2
   refine ⟨trivial, ?_⟩
   refine (callsIn_wide.2 HMW.out).mono ?_
   rintro e W3 ⟨rfl, hb3⟩
   have hx4 := HX4W.out.below hb3
   have hE3 := (hb3.block BE (Array.getElem?_eq_some_iff.1 HSP.out.1).1).trans HSP.out.1
   have HX43 := Aside0.mk hx4
   have HE3 := Aside0.mk hE3
   have HK3 := Aside0.mk ((hb3.block D (Array.getElem?_eq_some_iff.1 HKD.out).1).trans HKD.out)
   have HBW3 := Aside0.mk (HBW.out.trans (hb3.mono HBW.out.size))
   have e0 : W3.cell? ⟨BE, 0, none⟩ = some (.int .i64 m0) := by rw [cell_of_row W3 _ 0 _ _ _ hE3]; rfl
   have e1 : W3.cell? ⟨BE, 1, none⟩ = some (.int .i64 m1) := by rw [cell_of_row W3 _ 1 _ _ _ hE3]; rfl
   have fe0 : W3.frozen? ⟨BE, 0, none⟩ = false := frozen_of_row W3 _ 0 _ _ hE3
   have fe1 : W3.frozen? ⟨BE, 1, none⟩ = false := frozen_of_row W3 _ 1 _ _ hE3
   have c40 := hx4.c0
   have c41 := hx4.c1
   have f40 := hx4.fz 0
   have f41 := hx4.fz 1
   have HDE := Aside0.mk (show D ≠ BE by have := HDD.out; have := HZ6.out; omega)
   clear hb3 hx4 hE3 cf c30
   gi_wp2
   have hkd : ((((W3.setCell ⟨BE, 0, none⟩ (.int .i64 mx)).setCell ⟨BE, 1, none⟩ (.int .i64 mx)).setCell ⟨w.heap.size + 1, 0, none⟩ (.int .i64 mx)).setCell ⟨w.heap.size + 1, 1, none⟩ (.int .i64 mx)).heap[D]? = some (.deferred (some [])) := by
    rw [Below.heap_setCell _ ⟨w.heap.size + 1, 1, none⟩ _ D HDR.out, Below.heap_setCell _ ⟨w.heap.size + 1, 0, none⟩ _ D HDR.out, Below.heap_setCell _ ⟨BE, 1, none⟩ _ D HDE.out, Below.heap_setCell _ ⟨BE, 0, none⟩ _ D HDE.out]; exact HK3.out
   refine ⟨by simp, .inl ⟨_, _, rfl, run_takeDeferred hkd, ?_⟩⟩
   have hs0 : Sx (w.heap.size + 1) 0 0 ((W3.setCell ⟨BE, 0, none⟩ (.int .i64 mx)).setCell ⟨BE, 1, none⟩ (.int .i64 mx)) := (Below.heap_setCell _ ⟨BE, 1, none⟩ _ _ hRB).trans ((Below.heap_setCell _ ⟨BE, 0, none⟩ _ _ hRB).trans HX43.out)
   have hs := blk_put (blk_put hs0 0 (.int .i64 mx) rfl) 1 (.int .i64 mx) rfl
   have hs2 : Sx (w.heap.size + 1) mx mx (((((W3.setCell ⟨BE, 0, none⟩ (.int .i64 mx)).setCell ⟨BE, 1, none⟩ (.int .i64 mx)).setCell ⟨w.heap.size + 1, 0, none⟩ (.int .i64 mx)).setCell ⟨w.heap.size + 1, 1, none⟩ (.int .i64 mx)).putObj D (.deferred none)) := (World.putObj_heap_other HDR.out.symm).trans hs
   refine ⟨_, res_span _ _ (w.heap.size + 1) mx mx true rfl rfl hs2, ?_, ?_⟩
   ·rw [HV2.out]
   have hBl : w.heap.size ≤ BE := by have := HZ6.out; omega
   have hbw : Below w.heap.size w ((((W3.setCell ⟨BE, 0, none⟩ (.int .i64 mx)).setCell ⟨BE, 1, none⟩ (.int .i64 mx)).setCell ⟨w.heap.size + 1, 0, none⟩ (.int .i64 mx)).setCell ⟨w.heap.size + 1, 1, none⟩ (.int .i64 mx)) := below_set' (below_set' (below_set' (below_set' HBW3.out hBl) hBl) (Nat.le_succ _)) (Nat.le_succ _)
   exact hbw.trans ⟨rfl, rfl, rfl, by simp, fun k hk => World.putObj_heap_other (by have := HDD.out; have := HZ6.out; omega)⟩
 case stop =>
  rintro D c s W _ h _
  exact h.elim
theorem span_c (A0 : Option Addr) (c0 : Nat) (l0 : List Rn) (xa xb : Int) (w : World) (h : RC w A0 l0) (hc : l0.length ≤ c0) (hl : l0.length ≤ 140737488351232) :
  Calls Try.prog 35 #[.slice A0 l0.length c0, .agg #[.int .i64 xa, .int .i64 xb]] w fun e w' => e = .returned (.tuple #[.agg #[.int .i64 (spanL l0 xa xb).1.1, .int .i64 (spanL l0 xa xb).1.2], .bool (spanL l0 xa xb).2]) ∧ Below w.heap.size w w' := by
 by_cases hall : good l0 = true ∧ 0 ≤ xa ∧ xa ≤ xb ∧ xb ≤ inL l0
 ·exact span_yes A0 c0 l0 xa xb w h hc hl hall.1 hall.2.1 hall.2.2.1 hall.2.2.2
 ·have hv : spanL l0 xa xb = ((0, 0), false) := by unfold spanL; rw [if_neg hall]
  rw [hv]
  cases hg : good l0 with
  | false => exact span_no1 A0 c0 l0 xa xb w h hc hl hg
  | true =>
   by_cases h1 : xa < 0
   ·exact span_no2 A0 c0 l0 xa xb w h hc hl hg h1
   ·by_cases h2 : xb < xa
    ·exact span_no3 A0 c0 l0 xa xb w h hc hl hg (by omega) h2
    ·exact span_no4 A0 c0 l0 xa xb w h hc hl hg (by omega) (by omega) (Int.not_le.1 fun h3 => hall ⟨hg, by omega, by omega, h3⟩)
end Go.Proofs.Ytjbnffadfohofaa.PlaceS
end
-- MERGED YtjbnffadfohofaaPlaceL
section
namespace Go.Proofs.Ytjbnffadfohofaa.PlaceL
open Go.RowKit Go.Proofs.Ytjbnffadfohofaa.P Go.Proofs.Ytjbnffadfohofaa.EditL Go.Proofs.Ytjbnffadfohofaa.EditG Go.Proofs.Ytjbnffadfohofaa.PlaceI Go.Proofs.Ytjbnffadfohofaa.PlaceM Go.Proofs.Ytjbnffadfohofaa.PlaceC Go.Proofs.Ytjbnffadfohofaa.PlaceS
set_option linter.unusedSimpArgs false
set_option linter.unusedVariables false
def P : List Rn → Int → Bool → Int
 | [], _, _ => 0
 | r :: l, n, b =>
  if 0 < r.f0 then (if n < r.f0 then n else r.f0 + P l (n - r.f0) b)
  else if 0 < r.f2 then (if n < r.f2 then 0 else P l (n - r.f2) b)
  else if n = 0 ∧ b = false then 0 else (r.f1.size : Int) + P l n b
theorem P_keep {r : Rn} (h : knd r = 1) (l : List Rn) (n : Int) (b : Bool) : P (r :: l) n b = if n < r.f0 then n else r.f0 + P l (n - r.f0) b := by
 show (if 0 < r.f0 then _ else _) = _
 rw [if_pos (run_eq h).2.1]
theorem P_drop {r : Rn} (h : knd r = 3) (l : List Rn) (n : Int) (b : Bool) : P (r :: l) n b = if n < r.f2 then 0 else P l (n - r.f2) b := by
 show (if 0 < r.f0 then _ else if 0 < r.f2 then _ else _) = _
 rw [if_neg (by have := (run_eq3 h).2.1; omega), if_pos (run_eq3 h).2.2.2]
theorem P_add {r : Rn} (h : knd r = 2) (l : List Rn) (n : Int) (b : Bool) : P (r :: l) n b = if n = 0 ∧ b = false then 0 else (r.f1.size : Int) + P l n b := by
 show (if 0 < r.f0 then _ else if 0 < r.f2 then _ else _) = _
 rw [if_neg (by have := (run_eq2 h).2.1; omega), if_neg (by have := (run_eq2 h).2.2.2; omega)]
theorem P_nonneg (l : List Rn) (h : ∀ r ∈ l, knd r ≠ 0) : ∀ (n : Int) (b : Bool), 0 ≤ n → 0 ≤ P l n b := by
 induction l with
 | nil => intro n b _; exact Int.le_refl _
 | cons r l ih =>
  intro n b hn
  have i := ih (fun x hx => h x (List.mem_cons_of_mem _ hx))
  rcases knd_three (h r List.mem_cons_self) with c | c | c
  ·rw [P_keep c]
   split
   ·exact hn
   ·have := i (n - r.f0) b (by omega)
    have := (run_eq c).2.1
    omega
  ·rw [P_add c]
   split
   ·omega
   ·have := i n b hn
    omega
  ·rw [P_drop c]
   split
   ·omega
   ·exact i _ b (by omega)
theorem P_le_out (l : List Rn) (h : ∀ r ∈ l, knd r ≠ 0) : ∀ (n : Int) (b : Bool), 0 ≤ n → P l n b ≤ outL l := by
 induction l with
 | nil => intro n b _; exact Int.le_refl _
 | cons r l ih =>
  intro n b hn
  have h2 : ∀ x ∈ l, knd x ≠ 0 := fun x hx => h x (List.mem_cons_of_mem _ hx)
  have i := ih h2
  have ho := (inL_nonneg h2).2
  simp only [outL]
  rcases knd_three (h r List.mem_cons_self) with c | c | c
  ·have e := run_eq c
   rw [P_keep c, e.2.2.1, E_size]
   split
   ·omega
   ·have := i (n - r.f0) b (by omega); omega
  ·have e := run_eq2 c
   rw [P_add c, e.2.1]
   split
   ·omega
   ·have := i n b hn; omega
  ·have e := run_eq3 c
   rw [P_drop c, e.2.1, e.2.2.1, E_size]
   split
   ·omega
   ·have := i (n - r.f2) b (by omega); omega
theorem mvS_past (at_ : Int) (b : Bool) (l : List Rn) (i o t : Int) (h : at_ < i) : mvS at_ b (stepsL l i o) t = t := by
 cases l with
 | nil => rfl
 | cons r l =>
  show (if brk at_ b ⟨r, i, o⟩ then t else _) = t
  rw [if_pos (.inl h)]
theorem mvS_P (at_ : Int) (b : Bool) : ∀ (l : List Rn) (i o t : Int), (∀ r ∈ l, knd r ≠ 0) → i ≤ at_ → at_ ≤ i + inL l → (i = at_ → t = o) → mvS at_ b (stepsL l i o) t = o + P l (at_ - i) b := by
 intro l
 induction l with
 | nil =>
  intro i o t _ h1 h2 h3
  have : i = at_ := by simp only [inL] at h2; omega
  show t = o + 0
  rw [h3 this]; omega
 | cons r l ih =>
  intro i o t hok h1 h2 h3
  have hl : ∀ x ∈ l, knd x ≠ 0 := fun x hx => hok x (List.mem_cons_of_mem _ hx)
  have hs := inL_nonneg hl
  simp only [inL] at h2
  show (if brk at_ b ⟨r, i, o⟩ then t else mvS at_ b (stepsL l (i + (r.f0 + r.f2)) (o + (r.f0 + (r.f1.size : Int)))) (upd at_ ⟨r, i, o⟩)) = _
  have hu : upd at_ ⟨r, i, o⟩ = o + (r.f1.size : Int) + (if at_ - i < r.f0 then at_ - i else r.f0) := rfl
  rcases knd_three (hok r List.mem_cons_self) with c | c | c
  ·have e := run_eq c
   have e1 : (r.f1.size : Int) = 0 := by rw [e.2.2.1, E_size]; rfl
   rw [P_keep c]
   by_cases hi : i = at_
   ·rw [if_pos (.inr ⟨hi, .inr (by show r.f1.size = 0; omega)⟩), h3 hi, if_pos (by omega)]; omega
   ·rw [if_neg (fun h => h.elim (fun h => by have : at_ < i := h; omega) (fun h => hi h.1)), hu]
    by_cases hk : at_ - i < r.f0
    ·rw [if_pos hk, if_pos hk, mvS_past _ _ _ _ _ _ (by omega)]; omega
    ·rw [if_neg hk, if_neg hk, ih _ _ _ hl (by omega) (by omega) (fun _ => by omega), show at_ - (i + (r.f0 + r.f2)) = at_ - i - r.f0 by omega]; omega
  ·have e := run_eq2 c
   rw [P_add c]
   by_cases hi : i = at_
   ·cases b with
    | false => rw [if_pos (.inr ⟨hi, .inl rfl⟩), h3 hi, if_pos ⟨by omega, rfl⟩]; omega
    | true =>
     rw [if_neg (fun h => h.elim (fun h => by have : at_ < i := h; omega) (fun h => h.2.elim (fun h => by cases h) (fun h => e.2.2.1 h))), if_neg (fun h => by cases h.2), hu, if_neg (by omega), ih _ _ _ hl (by omega) (by omega) (fun _ => by omega), show at_ - (i + (r.f0 + r.f2)) = at_ - i by omega]; omega
   ·rw [if_neg (fun h => h.elim (fun h => by have : at_ < i := h; omega) (fun h => hi h.1)), if_neg (fun h => by omega), hu, if_neg (by omega), ih _ _ _ hl (by omega) (by omega) (fun _ => by omega), show at_ - (i + (r.f0 + r.f2)) = at_ - i by omega]; omega
  ·have e := run_eq3 c
   have e1 : (r.f1.size : Int) = 0 := by rw [e.2.2.1, E_size]; rfl
   rw [P_drop c]
   by_cases hi : i = at_
   ·rw [if_pos (.inr ⟨hi, .inr (by show r.f1.size = 0; omega)⟩), h3 hi, if_pos (by omega)]; omega
   ·rw [if_neg (fun h => h.elim (fun h => by have : at_ < i := h; omega) (fun h => hi h.1)), hu, if_neg (by omega)]
    by_cases hk : at_ - i < r.f2
    ·rw [if_pos hk, mvS_past _ _ _ _ _ _ (by omega)]; omega
    ·rw [if_neg hk, ih _ _ _ hl (by omega) (by omega) (fun _ => by omega), show at_ - (i + (r.f0 + r.f2)) = at_ - i - r.f2 by omega]; omega
theorem moveL_P {op : List Rn} {at_ : Int} {b : Bool} (hg : good op = true) (h0 : 0 ≤ at_) (h1 : at_ ≤ inL op) : moveL op at_ b = (P op at_ b, true) := by
 unfold moveL
 rw [if_pos ⟨hg, h0, h1⟩, mvS_P at_ b op 0 0 0 (good_ok hg).2.2.2 h0 (by omega) (fun _ => rfl)]
 simp
end Go.Proofs.Ytjbnffadfohofaa.PlaceL
end
-- MERGED YtjbnffadfohofaaPvariorumlaw06Light
section
namespace Go.Proofs.Ytjbnffadfohofaa.P
open Go.RowKit Go.Proofs.YtjbnffadfohofaaW.PrintWords Go.Proofs.YtjbnffadfohofaaW.PrintLast Go.Proofs.YtjbnffadfohofaaW.PrintMore
attribute [local go_sem] max2_int min2_int max_two min_two max_three min_three max_four min_four   -- for this text's walks alone
set_option linter.unusedVariables false
set_option linter.unusedSimpArgs false
def variorumlaw06_Light.l0 : Nat → List (S49) → Int → Int → Option (Bool)
 | 0, _, _, _ => none
 | k + 1, x8, x9, x10 => if x10 < x9 then (if 0 ≤ x10 then (if x10 < (x8.length : Int) then (if (((rd_T49 x8 x10).f1).size : Int) > 200 then (some false) else (variorumlaw06_Light.l0 k x8 x9 (wrap64 (x10 + 1)))) else (none)) else (none)) else (some true)
def variorumlaw06_Light.f (k : Nat) (l0 : List (S49)) : Option (Bool) := if (l0.length : Int) > 100 then (some false) else (variorumlaw06_Light.l0 k l0 (l0.length : Int) 0)
set_option maxHeartbeats 8000000 in
set_option maxRecDepth 100000 in
theorem variorumlaw06_Light.calls (k : Nat) (A0 : Option Addr) (c0 : Nat) (l0 : List (S49)) (r : Bool) (w : World) (hr0 : Kd.C k49 w A0 l0.length l0) (hc0 : l0.length ≤ c0) (h : variorumlaw06_Light.f k l0 = some r) :
  Calls Try.prog 33 #[.slice A0 l0.length c0] w fun e w' => e = .returned (.bool r) ∧ Below w.heap.size w w' := by
 have hu49 := Try.underlying49
 have HR0 := Aside0.mk hr0
 have HC0 := Aside0.mk hc0
 clear hr0 hc0
 have HB := Aside0.mk (Below.refl w.heap.size w)
 have H : (if (l0.length : Int) > 100 then (some false) else (variorumlaw06_Light.l0 k l0 (l0.length : Int) 0)) = some r := h
 clear h
 by_cases c2 : (l0.length : Int) > 100
 ·rw [if_pos c2] at H
  have c2b0 : decide (100 < (l0.length : Int)) = true := decide_eq_true c2
  have c2b1 : decide (100 < l0.length) = true := decide_eq_true (by omega)
  clear c2
  obtain rfl := Option.some.inj H
  go_enter Try.func33, Try.ntmps33
  go_wp2
  go_ret
  exact ⟨by (rfl), by repeat ((with_reducible (exact HB.out)))⟩
 ·rw [if_neg c2] at H
  have c2b0 : decide (100 < (l0.length : Int)) = false := decide_eq_false c2
  have c2b1 : decide (100 < l0.length) = false := decide_eq_false (by omega)
  clear c2
  have H' := Aside0.mk H
  clear H
  go_enter Try.func33, Try.ntmps33
  go_wp2
  go_loopg [10] k (fun kq v10 w' => ∃ (x10_1 : Int), v10 = .int .i64 x10_1 ∧ Aside0 (variorumlaw06_Light.l0 kq l0 (l0.length : Int) x10_1 = some r) ∧ Aside0 (kq ≤ k) ∧ Aside0 (Below w.heap.size w w'))
  case atStart => exact ⟨(0), (by (rfl)), H', ⟨Nat.le_refl _⟩, ⟨by repeat ((with_reducible (exact HB.out)))⟩⟩
  case round =>
   clear H'
   try clear c2
   try clear c2b0
   try clear c2b1
   try clear p2
   obtain ⟨x10_1, rfl, HA, HK1, HB⟩ := hrel
   cases gk with
   | zero => exact absurd HA.out (by simp [variorumlaw06_Light.l0])
   | succ k1 =>
    have H := HA.out
    clear HA
    simp only [variorumlaw06_Light.l0] at H
    by_cases c3 : x10_1 < (l0.length : Int)
    ·rw [if_pos c3] at H
     have c3b0 : decide (x10_1 < (l0.length : Int)) = true := decide_eq_true c3
     clear c3
     by_cases c4 : 0 ≤ x10_1
     ·rw [if_pos c4] at H
      have c4b0 : decide (0 ≤ x10_1) = true := decide_eq_true c4
      clear c4
      by_cases c5 : x10_1 < (l0.length : Int)
      ·rw [if_pos c5] at H
       have c5b0 : decide (x10_1 < (l0.length : Int)) = true := decide_eq_true c5
       clear c5
       by_cases c6 : (((rd_T49 l0 x10_1).f1).size : Int) > 200
       ·rw [if_pos c6] at H
        have c6b0 : decide (200 < (((rd_T49 l0 x10_1).f1).size : Int)) = true := decide_eq_true c6
        have c6b1 : decide (200 < ((rd_T49 l0 x10_1).f1).size) = true := decide_eq_true (by omega)
        clear c6
        obtain rfl := Option.some.inj H
        have p108 : 0 ≤ (x10_1 : Int) := of_decide_eq_true (by (with_reducible assumption))
        have q108 : x10_1 < (l0.length : Int) := of_decide_eq_true (by (with_reducible assumption))
        obtain ⟨ad108, e108, hx108_0, hx108_1, hx108_2⟩ := at_T49 HR0.out x10_1 p108 q108
        cases e108
        replace hx108_0 := (HB.out.cell (World.block_lt_of_cell? w _ hx108_0)).trans hx108_0
        replace hx108_1 := (HB.out.cell (World.block_lt_of_cell? w _ hx108_1)).trans hx108_1
        replace hx108_2 := (HB.out.cell (World.block_lt_of_cell? w _ hx108_2)).trans hx108_2
        replace p108 := eq_true p108
        replace q108 := eq_true q108
        go_wp2_with (first | ((with_reducible refine gate_dst (N := 4) rfl ?_); refine box_event ?hg (N := 4) ?hd (cs := #[.int .i64 0, .string (⟨#[]⟩ : ByteArray), .int .i64 0]) (t := 49) ?hr ?_; (case hd => rfl); (case hg => rfl); (case hr => (go_simp; done)); intro gb109 hg w7 hbox hb; have n0_ := Aside0.mk (below_step (by repeat ((with_reducible (exact HB.out)))) hb); have n1_ := Aside0.mk (hbox); have n2_ := Aside0.mk ((by rw [hg]; exact (below_size (by repeat ((with_reducible (exact HB.out))))) : w.heap.size ≤ gb109)); have n3_ := Aside0.mk ((by rw [hg]; exact (below_size (by repeat ((with_reducible (exact HB.out))))) : w.heap.size ≤ gb109)); clear HB; have HB := n0_; have BK109 := n1_; have GW109 := n2_; have GE109 := n3_; clear n0_ n1_ n2_ n3_; clear hb hbox hg; have hcz8_0 : w7.cell? ⟨gb109, 0, none⟩ = some (.int .i64 0) := (blk_cell BK109.out 0).trans rfl; have hcz8_1 : w7.cell? ⟨gb109, 1, none⟩ = some (.string (⟨#[]⟩ : ByteArray)) := (blk_cell BK109.out 1).trans rfl; have hcz8_2 : w7.cell? ⟨gb109, 2, none⟩ = some (.int .i64 0) := (blk_cell BK109.out 2).trans rfl; have hfz8_0 := blk_frozen BK109.out 0; have hfz8_1 := blk_frozen BK109.out 1; have hfz8_2 := blk_frozen BK109.out 2))
        go_ret
        exact ⟨by (rfl), by repeat ((with_reducible first | exact HB.out | refine below_set ?_ GE109.out))⟩
       ·rw [if_neg c6] at H
        have c6b0 : decide (200 < (((rd_T49 l0 x10_1).f1).size : Int)) = false := decide_eq_false c6
        have c6b1 : decide (200 < ((rd_T49 l0 x10_1).f1).size) = false := decide_eq_false (by omega)
        clear c6
        have H' := Aside0.mk H
        clear H
        have p108 : 0 ≤ (x10_1 : Int) := of_decide_eq_true (by (with_reducible assumption))
        have q108 : x10_1 < (l0.length : Int) := of_decide_eq_true (by (with_reducible assumption))
        obtain ⟨ad108, e108, hx108_0, hx108_1, hx108_2⟩ := at_T49 HR0.out x10_1 p108 q108
        cases e108
        replace hx108_0 := (HB.out.cell (World.block_lt_of_cell? w _ hx108_0)).trans hx108_0
        replace hx108_1 := (HB.out.cell (World.block_lt_of_cell? w _ hx108_1)).trans hx108_1
        replace hx108_2 := (HB.out.cell (World.block_lt_of_cell? w _ hx108_2)).trans hx108_2
        replace p108 := eq_true p108
        replace q108 := eq_true q108
        go_wp2_with (first | ((with_reducible refine gate_dst (N := 4) rfl ?_); refine box_event ?hg (N := 4) ?hd (cs := #[.int .i64 0, .string (⟨#[]⟩ : ByteArray), .int .i64 0]) (t := 49) ?hr ?_; (case hd => rfl); (case hg => rfl); (case hr => (go_simp; done)); intro gb109 hg w9 hbox hb; have n0_ := Aside0.mk (below_step (by repeat ((with_reducible (exact HB.out)))) hb); have n1_ := Aside0.mk (hbox); have n2_ := Aside0.mk ((by rw [hg]; exact (below_size (by repeat ((with_reducible (exact HB.out))))) : w.heap.size ≤ gb109)); have n3_ := Aside0.mk ((by rw [hg]; exact (below_size (by repeat ((with_reducible (exact HB.out))))) : w.heap.size ≤ gb109)); clear HB; have HB := n0_; have BK109 := n1_; have GW109 := n2_; have GE109 := n3_; clear n0_ n1_ n2_ n3_; clear hb hbox hg; have hcz10_0 : w9.cell? ⟨gb109, 0, none⟩ = some (.int .i64 0) := (blk_cell BK109.out 0).trans rfl; have hcz10_1 : w9.cell? ⟨gb109, 1, none⟩ = some (.string (⟨#[]⟩ : ByteArray)) := (blk_cell BK109.out 1).trans rfl; have hcz10_2 : w9.cell? ⟨gb109, 2, none⟩ = some (.int .i64 0) := (blk_cell BK109.out 2).trans rfl; have hfz10_0 := blk_frozen BK109.out 0; have hfz10_1 := blk_frozen BK109.out 1; have hfz10_2 := blk_frozen BK109.out 2))
        go_roundg k1
        case measure => have := HK1.out; omega
        case rel => exact ⟨(wrap64 (x10_1 + 1)), (by (rfl)), H', ⟨by have := HK1.out; omega⟩, ⟨by repeat ((with_reducible first | exact HB.out | refine below_set ?_ GE109.out))⟩⟩
      ·rw [if_neg c5] at H
       exact absurd H (by simp)
     ·rw [if_neg c4] at H
      exact absurd H (by simp)
    ·rw [if_neg c3] at H
     have c3b0 : decide (x10_1 < (l0.length : Int)) = false := decide_eq_false c3
     clear c3
     obtain rfl := Option.some.inj H
     go_wp2
     go_ret
     exact ⟨by (rfl), by repeat ((with_reducible (exact HB.out)))⟩
end Go.Proofs.Ytjbnffadfohofaa.P
end
-- MERGED YtjbnffadfohofaaLightF
section
namespace Go.Proofs.Ytjbnffadfohofaa.LightF
open Go.RowKit Go.Proofs.Ytjbnffadfohofaa.P Go.Proofs.YtjbnffadfohofaaW.PrintWords Go.Proofs.YtjbnffadfohofaaW.PrintLast Go.Proofs.YtjbnffadfohofaaW.PrintMore Go.Proofs.Ytjbnffadfohofaa.EditL Go.Proofs.Ytjbnffadfohofaa.EditK
set_option linter.unusedSimpArgs false
set_option linter.unusedVariables false
theorem light_l (l : List Rn) (hl : l.length ≤ 140737488351232) : ∀ (suf pre : List Rn) (k : Nat), l = pre ++ suf → suf.length < k → ∃ b, variorumlaw06_Light.l0 k l (l.length : Int) (pre.length : Int) = some b ∧ (b = true → ∀ r ∈ suf, r.f1.size ≤ 200) := by
 intro suf
 induction suf with
 | nil =>
  intro pre k hfe hk
  obtain ⟨k, rfl⟩ : ∃ m, k = m + 1 := ⟨k - 1, by omega⟩
  have : l.length = pre.length := by rw [hfe]; simp
  simp only [variorumlaw06_Light.l0]
  rw [if_neg (by omega)]
  exact ⟨true, rfl, fun _ r hr => by cases hr⟩
 | cons r suf ih =>
  intro pre k hfe hk
  obtain ⟨k, rfl⟩ : ∃ m, k = m + 1 := ⟨k - 1, by omega⟩
  obtain ⟨hl2, hn, hlt⟩ := snoc hfe
  obtain ⟨b, hb, hb2⟩ := ih (pre ++ [r]) k hl2 (by simp at hk; omega)
  rw [hn] at hb
  simp only [variorumlaw06_Light.l0]
  rw [if_pos hlt, if_pos (by omega), if_pos hlt, rd_at hfe, w64 (x := (pre.length : Int) + 1) (by omega) (by omega), hb]
  by_cases h : (r.f1.size : Int) > 200
  ·rw [if_pos h]; exact ⟨false, rfl, fun h => by cases h⟩
  ·rw [if_neg h]
   refine ⟨b, rfl, fun e x hx => ?_⟩
   rcases List.mem_cons.1 hx with rfl | hx
   ·omega
   ·exact hb2 e x hx
theorem light_f (l : List Rn) (k : Nat) (hk : 100 < k) : ∃ b, variorumlaw06_Light.f k l = some b ∧ (b = true → l.length ≤ 100 ∧ ∀ r ∈ l, r.f1.size ≤ 200) := by
 unfold variorumlaw06_Light.f
 by_cases h : (l.length : Int) > 100
 ·rw [if_pos h]; exact ⟨false, rfl, fun h => by cases h⟩
 ·rw [if_neg h]
  obtain ⟨b, h1, h2⟩ := light_l l (by omega) l [] k rfl (by omega)
  exact ⟨b, h1, fun e => ⟨by omega, h2 e⟩⟩
def mk (x : Int × ByteArray × Int) : Rn := ⟨x.1, x.2.1, x.2.2⟩
end Go.Proofs.Ytjbnffadfohofaa.LightF
end
-- MERGED YtjbnffadfohofaaEditH1
section
namespace Go.Proofs.Ytjbnffadfohofaa.EditH1
open Go.RowKit Go.Proofs.Ytjbnffadfohofaa.P Go.Proofs.YtjbnffadfohofaaW.PrintWords Go.Proofs.YtjbnffadfohofaaW.PrintLast Go.Proofs.YtjbnffadfohofaaW.PrintMore Go.Proofs.Ytjbnffadfohofaa.EditL Go.Proofs.Ytjbnffadfohofaa.EditK Go.Proofs.Ytjbnffadfohofaa.EditF Go.Proofs.Ytjbnffadfohofaa.EditG
set_option linter.unusedSimpArgs false
set_option linter.unusedVariables false
theorem rgood_f {l : List Rn} (hb : l.length ≤ 140737488351232) : variorumref06_Good.f l = some (good l) := by unfold variorumref06_Good.f; rw [if_pos hb]
theorem rin_f {l : List Rn} (hb : l.length ≤ 140737488351232) (k : Nat) (hk : l.length < k) : variorumref06_In.f k l = some (if good l then inL l else 0) := by
 unfold variorumref06_In.f
 rw [rgood_f hb, Option.bind_some]
 cases h : good l with
 | false => rfl
 | true =>
  obtain ⟨_, _, h2, h3⟩ := good_ok h
  rw [if_pos rfl, rsums_f hb h3 k hk, Option.bind_some, h2]; rfl
theorem rout_f {l : List Rn} (hb : l.length ≤ 140737488351232) (k : Nat) (hk : l.length < k) : variorumref06_Out.f k l = some (if good l then outL l else 0) := by
 unfold variorumref06_Out.f
 rw [rgood_f hb, Option.bind_some]
 cases h : good l with
 | false => rfl
 | true =>
  obtain ⟨_, _, h2, h3⟩ := good_ok h
  rw [if_pos rfl, rsums_f hb h3 k hk, Option.bind_some, h2]; rfl
end Go.Proofs.Ytjbnffadfohofaa.EditH1
end
-- MERGED YtjbnffadfohofaaPvariorumlaw09Few
section
namespace Go.Proofs.Ytjbnffadfohofaa.P
open Go.RowKit Go.Proofs.YtjbnffadfohofaaW.PrintWords Go.Proofs.YtjbnffadfohofaaW.PrintLast Go.Proofs.YtjbnffadfohofaaW.PrintMore
attribute [local go_sem] max2_int min2_int max_two min_two max_three min_three max_four min_four   -- for this text's walks alone
set_option linter.unusedVariables false
set_option linter.unusedSimpArgs false
def variorumlaw09_Few.f (k : Nat) (l0 : List (S49)) : Option (Bool) := (variorumlaw06_Light.f k l0).bind fun t114 => (if t114 = true then ((variorumref06_Good.f l0).bind fun t115 => (if t115 = true then ((variorumref06_In.f k l0).bind fun t116 => (if t116 ≤ 3000 then ((variorumref06_Out.f k l0).bind fun t117 => (some (decide (t117 ≤ 3000)))) else (some false))) else (some true))) else (some false))
set_option maxHeartbeats 8000000 in
set_option maxRecDepth 100000 in
theorem variorumlaw09_Few.calls (k : Nat) (A0 : Option Addr) (c0 : Nat) (l0 : List (S49)) (r : Bool) (w : World) (hr0 : Kd.C k49 w A0 l0.length l0) (hc0 : l0.length ≤ c0) (h : variorumlaw09_Few.f k l0 = some r) :
  Calls Try.prog 22 #[.slice A0 l0.length c0] w fun e w' => e = .returned (.bool r) ∧ Below w.heap.size w w' := by
 have HR0 := Aside0.mk hr0
 have HC0 := Aside0.mk hc0
 clear hr0 hc0
 have HB := Aside0.mk (Below.refl w.heap.size w)
 have H : ((variorumlaw06_Light.f k l0).bind fun t114 => (if t114 = true then ((variorumref06_Good.f l0).bind fun t115 => (if t115 = true then ((variorumref06_In.f k l0).bind fun t116 => (if t116 ≤ 3000 then ((variorumref06_Out.f k l0).bind fun t117 => (some (decide (t117 ≤ 3000)))) else (some false))) else (some true))) else (some false))) = some r := h
 clear h
 replace H := Option.bind_eq_some_iff.mp H
 obtain ⟨t114, A20, H⟩ := H
 replace H : (if t114 = true then ((variorumref06_Good.f l0).bind fun t115 => (if t115 = true then ((variorumref06_In.f k l0).bind fun t116 => (if t116 ≤ 3000 then ((variorumref06_Out.f k l0).bind fun t117 => (some (decide (t117 ≤ 3000)))) else (some false))) else (some true))) else (some false)) = some r := H
 have A2 := Aside0.mk A20
 clear A20
 by_cases c3 : t114 = true
 ·subst c3
  have H1 : ((variorumref06_Good.f l0).bind fun t115 => (if t115 = true then ((variorumref06_In.f k l0).bind fun t116 => (if t116 ≤ 3000 then ((variorumref06_Out.f k l0).bind fun t117 => (some (decide (t117 ≤ 3000)))) else (some false))) else (some true))) = some r := by rw [if_pos rfl] at H; exact H
  clear H
  have H := H1
  clear H1
  replace H := Option.bind_eq_some_iff.mp H
  obtain ⟨t115, A40, H⟩ := H
  replace H : (if t115 = true then ((variorumref06_In.f k l0).bind fun t116 => (if t116 ≤ 3000 then ((variorumref06_Out.f k l0).bind fun t117 => (some (decide (t117 ≤ 3000)))) else (some false))) else (some true)) = some r := H
  have A4 := Aside0.mk A40
  clear A40
  by_cases c5 : t115 = true
  ·subst c5
   have H1 : ((variorumref06_In.f k l0).bind fun t116 => (if t116 ≤ 3000 then ((variorumref06_Out.f k l0).bind fun t117 => (some (decide (t117 ≤ 3000)))) else (some false))) = some r := by rw [if_pos rfl] at H; exact H
   clear H
   have H := H1
   clear H1
   replace H := Option.bind_eq_some_iff.mp H
   obtain ⟨t116, A60, H⟩ := H
   replace H : (if t116 ≤ 3000 then ((variorumref06_Out.f k l0).bind fun t117 => (some (decide (t117 ≤ 3000)))) else (some false)) = some r := H
   have A6 := Aside0.mk A60
   clear A60
   by_cases c7 : t116 ≤ 3000
   ·rw [if_pos c7] at H
    have c7b0 : decide (t116 ≤ 3000) = true := decide_eq_true c7
    clear c7
    replace H := Option.bind_eq_some_iff.mp H
    obtain ⟨t117, A80, H⟩ := H
    replace H : (some (decide (t117 ≤ 3000))) = some r := H
    have A8 := Aside0.mk A80
    clear A80
    obtain rfl := Option.some.inj H
    go_enter Try.func22, Try.ntmps22
    go_wp2_with (first | ((with_reducible refine gate_callee (f := 33) rfl ?_); refine goesL_ (some 4) rfl rfl Try.func33 (by kernel_rfl) rfl #[.slice A0 l0.length c0] rfl (by (try simp only [List.map_toArray, List.map_cons, List.map_nil]); (rfl)) ?_; (with_reducible refine (variorumlaw06_Light.calls k _ _ l0 true _ ?side1 ?side2 A2.out).mono ?_); (case side1 => repeat ((exact HR0.out))); (case side2 => exact HC0.out); rintro e w9 ⟨rfl, hb⟩; refine ⟨_, rfl, ?_⟩; have n0_ := Aside0.mk (below_step (by repeat ((with_reducible (exact HB.out)))) hb); clear HB; have HB := n0_; clear n0_; (try clear hb); (try clear hb2); (try clear hk); (try clear hi)) | (go_at_call 14; (with_reducible refine (variorumref06_Good.calls _ _ l0 true _ ?side1 ?side2 A4.out).mono ?_); (case side1 => repeat ((exact (Kd.C_below HR0.out HB.out)))); (case side2 => exact HC0.out); rintro e w10 ⟨rfl, hb⟩; have n0_ := Aside0.mk (below_step (by repeat ((with_reducible (exact HB.out)))) hb); clear HB; have HB := n0_; clear n0_; (try clear hb); (try clear hb2); (try clear hk); (try clear hi)) | (go_at_call 32; (with_reducible refine (variorumref06_In.calls k _ _ l0 t116 _ ?side1 ?side2 A6.out).mono ?_); (case side1 => repeat ((exact (Kd.C_below HR0.out HB.out)))); (case side2 => exact HC0.out); rintro e w11 ⟨rfl, hb⟩; have n0_ := Aside0.mk (below_step (by repeat ((with_reducible (exact HB.out)))) hb); clear HB; have HB := n0_; clear n0_; (try clear hb); (try clear hb2); (try clear hk); (try clear hi)) | (go_at_call 34; (with_reducible refine (variorumref06_Out.calls k _ _ l0 t117 _ ?side1 ?side2 A8.out).mono ?_); (case side1 => repeat ((exact (Kd.C_below HR0.out HB.out)))); (case side2 => exact HC0.out); rintro e w12 ⟨rfl, hb⟩; have n0_ := Aside0.mk (below_step (by repeat ((with_reducible (exact HB.out)))) hb); clear HB; have HB := n0_; clear n0_; (try clear hb); (try clear hb2); (try clear hk); (try clear hi)))
    go_ret
    exact ⟨by (rfl), by repeat ((with_reducible (exact HB.out)))⟩
   ·rw [if_neg c7] at H
    have c7b0 : decide (t116 ≤ 3000) = false := decide_eq_false c7
    clear c7
    obtain rfl := Option.some.inj H
    go_enter Try.func22, Try.ntmps22
    go_wp2_with (first | ((with_reducible refine gate_callee (f := 33) rfl ?_); refine goesL_ (some 4) rfl rfl Try.func33 (by kernel_rfl) rfl #[.slice A0 l0.length c0] rfl (by (try simp only [List.map_toArray, List.map_cons, List.map_nil]); (rfl)) ?_; (with_reducible refine (variorumlaw06_Light.calls k _ _ l0 true _ ?side1 ?side2 A2.out).mono ?_); (case side1 => repeat ((exact HR0.out))); (case side2 => exact HC0.out); rintro e w13 ⟨rfl, hb⟩; refine ⟨_, rfl, ?_⟩; have n0_ := Aside0.mk (below_step (by repeat ((with_reducible (exact HB.out)))) hb); clear HB; have HB := n0_; clear n0_; (try clear hb); (try clear hb2); (try clear hk); (try clear hi)) | (go_at_call 14; (with_reducible refine (variorumref06_Good.calls _ _ l0 true _ ?side1 ?side2 A4.out).mono ?_); (case side1 => repeat ((exact (Kd.C_below HR0.out HB.out)))); (case side2 => exact HC0.out); rintro e w14 ⟨rfl, hb⟩; have n0_ := Aside0.mk (below_step (by repeat ((with_reducible (exact HB.out)))) hb); clear HB; have HB := n0_; clear n0_; (try clear hb); (try clear hb2); (try clear hk); (try clear hi)) | (go_at_call 32; (with_reducible refine (variorumref06_In.calls k _ _ l0 t116 _ ?side1 ?side2 A6.out).mono ?_); (case side1 => repeat ((exact (Kd.C_below HR0.out HB.out)))); (case side2 => exact HC0.out); rintro e w15 ⟨rfl, hb⟩; have n0_ := Aside0.mk (below_step (by repeat ((with_reducible (exact HB.out)))) hb); clear HB; have HB := n0_; clear n0_; (try clear hb); (try clear hb2); (try clear hk); (try clear hi)))
    go_ret
    exact ⟨by (rfl), by repeat ((with_reducible (exact HB.out)))⟩
  ·replace c5 := Bool.eq_false_iff.mpr c5
   subst c5
   have H1 : (some true) = some r := by rw [if_neg (show ¬ (false = true) by decide)] at H; exact H
   clear H
   have H := H1
   clear H1
   obtain rfl := Option.some.inj H
   go_enter Try.func22, Try.ntmps22
   go_wp2_with (first | ((with_reducible refine gate_callee (f := 33) rfl ?_); refine goesL_ (some 4) rfl rfl Try.func33 (by kernel_rfl) rfl #[.slice A0 l0.length c0] rfl (by (try simp only [List.map_toArray, List.map_cons, List.map_nil]); (rfl)) ?_; (with_reducible refine (variorumlaw06_Light.calls k _ _ l0 true _ ?side1 ?side2 A2.out).mono ?_); (case side1 => repeat ((exact HR0.out))); (case side2 => exact HC0.out); rintro e w16 ⟨rfl, hb⟩; refine ⟨_, rfl, ?_⟩; have n0_ := Aside0.mk (below_step (by repeat ((with_reducible (exact HB.out)))) hb); clear HB; have HB := n0_; clear n0_; (try clear hb); (try clear hb2); (try clear hk); (try clear hi)) | (go_at_call 14; (with_reducible refine (variorumref06_Good.calls _ _ l0 false _ ?side1 ?side2 A4.out).mono ?_); (case side1 => repeat ((exact (Kd.C_below HR0.out HB.out)))); (case side2 => exact HC0.out); rintro e w17 ⟨rfl, hb⟩; have n0_ := Aside0.mk (below_step (by repeat ((with_reducible (exact HB.out)))) hb); clear HB; have HB := n0_; clear n0_; (try clear hb); (try clear hb2); (try clear hk); (try clear hi)))
   go_ret
   exact ⟨by (rfl), by repeat ((with_reducible (exact HB.out)))⟩
 ·replace c3 := Bool.eq_false_iff.mpr c3
  subst c3
  have H1 : (some false) = some r := by rw [if_neg (show ¬ (false = true) by decide)] at H; exact H
  clear H
  have H := H1
  clear H1
  obtain rfl := Option.some.inj H
  go_enter Try.func22, Try.ntmps22
  go_wp2_with (first | ((with_reducible refine gate_callee (f := 33) rfl ?_); refine goesL_ (some 4) rfl rfl Try.func33 (by kernel_rfl) rfl #[.slice A0 l0.length c0] rfl (by (try simp only [List.map_toArray, List.map_cons, List.map_nil]); (rfl)) ?_; (with_reducible refine (variorumlaw06_Light.calls k _ _ l0 false _ ?side1 ?side2 A2.out).mono ?_); (case side1 => repeat ((exact HR0.out))); (case side2 => exact HC0.out); rintro e w18 ⟨rfl, hb⟩; refine ⟨_, rfl, ?_⟩; have n0_ := Aside0.mk (below_step (by repeat ((with_reducible (exact HB.out)))) hb); clear HB; have HB := n0_; clear n0_; (try clear hb); (try clear hb2); (try clear hk); (try clear hi)))
  go_ret
  exact ⟨by (rfl), by repeat ((with_reducible (exact HB.out)))⟩
end Go.Proofs.Ytjbnffadfohofaa.P
end
-- MERGED YtjbnffadfohofaaPplaceMove
section
namespace Go.Proofs.Ytjbnffadfohofaa.P
open Go.RowKit Go.Proofs.YtjbnffadfohofaaW.PrintWords Go.Proofs.YtjbnffadfohofaaW.PrintLast Go.Proofs.YtjbnffadfohofaaW.PrintMore
attribute [local go_sem] max2_int min2_int max_two min_two max_three min_three max_four min_four   -- for this text's walks alone
set_option linter.unusedVariables false
set_option linter.unusedSimpArgs false
def place_Move.f (l0 : List (S49)) (a1 : Int) (a2 : Bool) : Option (Int × Bool) := if l0.length ≤ 140737488351232 then some (PlaceM.moveL l0 a1 a2) else none
end Go.Proofs.Ytjbnffadfohofaa.P
end
-- MERGED YtjbnffadfohofaaPplaceSpan
section
namespace Go.Proofs.Ytjbnffadfohofaa.P
open Go.RowKit Go.Proofs.YtjbnffadfohofaaW.PrintWords Go.Proofs.YtjbnffadfohofaaW.PrintLast Go.Proofs.YtjbnffadfohofaaW.PrintMore
attribute [local go_sem] max2_int min2_int max_two min_two max_three min_three max_four min_four   -- for this text's walks alone
set_option linter.unusedVariables false
set_option linter.unusedSimpArgs false
def place_Span.f (l0 : List (S49)) (a1_0 : Int) (a1_1 : Int) : Option (Int × Int × Bool) := if l0.length ≤ 140737488351232 then some ((PlaceS.spanL l0 a1_0 a1_1).1.1, (PlaceS.spanL l0 a1_0 a1_1).1.2, (PlaceS.spanL l0 a1_0 a1_1).2) else none
theorem place_Span.calls (A0 : Option Addr) (c0 : Nat) (l0 : List (S49)) (a1_0 : Int) (a1_1 : Int) (r1 : Int) (r2 : Int) (r3 : Bool) (w : World) (hr0 : Kd.C k49 w A0 l0.length l0) (hc0 : l0.length ≤ c0) (h : place_Span.f l0 a1_0 a1_1 = some (r1, r2, r3)) :
  Calls Try.prog 35 #[.slice A0 l0.length c0, .agg #[.int .i64 a1_0, .int .i64 a1_1]] w fun e w' => e = .returned (.tuple #[.agg #[.int .i64 r1, .int .i64 r2], .bool r3]) ∧ Below w.heap.size w w' := by
 unfold place_Span.f at h
 by_cases hl : l0.length ≤ 140737488351232
 ·rw [if_pos hl] at h
  have h2 := Option.some.inj h
  injection h2 with e1 e2
  injection e2 with e2 e3
  have := PlaceS.span_c A0 c0 l0 a1_0 a1_1 w hr0 hc0 hl
  rw [e1, e2, e3] at this
  exact this
 ·rw [if_neg hl] at h; cases h
end Go.Proofs.Ytjbnffadfohofaa.P
end
-- MERGED YtjbnffadfohofaaPlaceF
section
namespace Go.Proofs.Ytjbnffadfohofaa.PlaceF
open Go.RowKit Go.Proofs.Ytjbnffadfohofaa.P Go.Proofs.YtjbnffadfohofaaW.PrintWords Go.Proofs.YtjbnffadfohofaaW.PrintLast Go.Proofs.YtjbnffadfohofaaW.PrintMore Go.Proofs.Ytjbnffadfohofaa.EditL Go.Proofs.Ytjbnffadfohofaa.EditK Go.Proofs.Ytjbnffadfohofaa.EditF Go.Proofs.Ytjbnffadfohofaa.EditG Go.Proofs.Ytjbnffadfohofaa.EditH1 Go.Proofs.Ytjbnffadfohofaa.PlaceI Go.Proofs.Ytjbnffadfohofaa.PlaceM Go.Proofs.Ytjbnffadfohofaa.PlaceC Go.Proofs.Ytjbnffadfohofaa.PlaceS Go.Proofs.Ytjbnffadfohofaa.PlaceL
set_option linter.unusedSimpArgs false
set_option linter.unusedVariables false
theorem few_f (l : List Rn) (k : Nat) (hk : 200 < k) : ∃ b, variorumlaw09_Few.f k l = some b ∧ (b = true → l.length ≤ 100 ∧ (good l = true → inL l ≤ 3000 ∧ outL l ≤ 3000)) := by
 unfold variorumlaw09_Few.f
 obtain ⟨b, h1, h2⟩ := LightF.light_f l k (by omega)
 rw [h1, Option.bind_some]
 cases b with
 | false => exact ⟨false, rfl, fun h => by cases h⟩
 | true =>
  obtain ⟨hl, _⟩ := h2 rfl
  rw [if_pos rfl, rgood_f (by omega), Option.bind_some]
  cases hg : good l with
  | false => exact ⟨true, rfl, fun _ => ⟨hl, fun h => by cases h⟩⟩
  | true =>
   rw [if_pos rfl, rin_f (by omega) _ (by omega), Option.bind_some, hg, if_pos rfl]
   by_cases h : inL l ≤ 3000
   ·rw [if_pos h, rout_f (by omega) _ (by omega), Option.bind_some, hg, if_pos rfl]
    exact ⟨_, rfl, fun e => ⟨hl, fun _ => ⟨h, of_decide_eq_true e⟩⟩⟩
   ·rw [if_neg h]; exact ⟨false, rfl, fun h => by cases h⟩
theorem pspan_f {l : List Rn} (hl : l.length ≤ 140737488351232) (a b : Int) : place_Span.f l a b = some ((spanL l a b).1.1, (spanL l a b).1.2, (spanL l a b).2) := by unfold place_Span.f; rw [if_pos hl]
end Go.Proofs.Ytjbnffadfohofaa.PlaceF
end
-- MERGED YtjbnffadfohofaaPvariorumref09Adds
section
namespace Go.Proofs.Ytjbnffadfohofaa.P
open Go.RowKit Go.Proofs.YtjbnffadfohofaaW.PrintWords Go.Proofs.YtjbnffadfohofaaW.PrintLast Go.Proofs.YtjbnffadfohofaaW.PrintMore
attribute [local go_sem] max2_int min2_int max_two min_two max_three min_three max_four min_four   -- for this text's walks alone
set_option linter.unusedVariables false
set_option linter.unusedSimpArgs false
mutual
def variorumref09_Adds.l0 : Nat → List (S49) → List ByteArray → Int → Option (List ByteArray)
 | 0, _, _, _ => none
 | k + 1, x0, x3, x4 => if x4 < (x0.length : Int) then (if 0 ≤ (wrap64 ((x3.length : Int) - 1)) then (if (wrap64 ((x3.length : Int) - 1)) < (x3.length : Int) then (if 0 ≤ x4 then (if (rdOf ByteArray.empty x3 (wrap64 ((x3.length : Int) - 1))).size + ((rd_T49 x0 x4).f1).size ≤ 9223372036854775807 then (variorumref09_Adds.l1 k x0 (x3.set ((wrap64 ((x3.length : Int) - 1)) : Int).toNat ((rdOf ByteArray.empty x3 (wrap64 ((x3.length : Int) - 1))) ++ ((rd_T49 x0 x4).f1))) x4 0) else (none)) else (none)) else (none)) else (none)) else (some x3)
def variorumref09_Adds.l1 : Nat → List (S49) → List ByteArray → Int → Int → Option (List ByteArray)
 | 0, _, _, _, _ => none
 | k + 1, x0, x3, x4, x6 => if 0 ≤ x4 then (if x4 < (x0.length : Int) then (if x6 < (wrap64 (((rd_T49 x0 x4).f0) + ((rd_T49 x0 x4).f2))) then (if x3.length < 8796093022208 then (variorumref09_Adds.l1 k x0 (x3 ++ [(⟨#[]⟩ : ByteArray)]) x4 (wrap64 (x6 + 1))) else (none)) else (variorumref09_Adds.l0 k x0 x3 (wrap64 (x4 + 1)))) else (none)) else (none)
end
def variorumref09_Adds.f (k : Nat) (l0 : List (S49)) : Option (List ByteArray) := variorumref09_Adds.l0 k l0 (([(⟨#[]⟩ : ByteArray)] : List ByteArray)) 0
end Go.Proofs.Ytjbnffadfohofaa.P
end
-- MERGED YtjbnffadfohofaaPvariorumref09Drops
section
namespace Go.Proofs.Ytjbnffadfohofaa.P
open Go.RowKit Go.Proofs.YtjbnffadfohofaaW.PrintWords Go.Proofs.YtjbnffadfohofaaW.PrintLast Go.Proofs.YtjbnffadfohofaaW.PrintMore
attribute [local go_sem] max2_int min2_int max_two min_two max_three min_three max_four min_four   -- for this text's walks alone
set_option linter.unusedVariables false
set_option linter.unusedSimpArgs false
mutual
def variorumref09_Drops.l0 : Nat → List (S49) → List Bool → Int → Option (List Bool)
 | 0, _, _, _ => none
 | k + 1, x0, x3, x4 => if x4 < (x0.length : Int) then (variorumref09_Drops.l1 k x0 x3 x4 0) else (some x3)
def variorumref09_Drops.l1 : Nat → List (S49) → List Bool → Int → Int → Option (List Bool)
 | 0, _, _, _, _ => none
 | k + 1, x0, x3, x4, x5 => if 0 ≤ x4 then (if x4 < (x0.length : Int) then (if x5 < ((rd_T49 x0 x4).f0) then (if x3.length < 140737488355328 then (variorumref09_Drops.l1 k x0 (x3 ++ [false]) x4 (wrap64 (x5 + 1))) else (none)) else (variorumref09_Drops.l2 k x0 x3 x4 0)) else (none)) else (none)
def variorumref09_Drops.l2 : Nat → List (S49) → List Bool → Int → Int → Option (List Bool)
 | 0, _, _, _, _ => none
 | k + 1, x0, x3, x4, x6 => if 0 ≤ x4 then (if x4 < (x0.length : Int) then (if x6 < ((rd_T49 x0 x4).f2) then (if x3.length < 140737488355328 then (variorumref09_Drops.l2 k x0 (x3 ++ [true]) x4 (wrap64 (x6 + 1))) else (none)) else (variorumref09_Drops.l0 k x0 x3 (wrap64 (x4 + 1)))) else (none)) else (none)
end
def variorumref09_Drops.f (k : Nat) (l0 : List (S49)) : Option (List Bool) := variorumref09_Drops.l0 k l0 ([] : List Bool) 0
end Go.Proofs.Ytjbnffadfohofaa.P
end
-- MERGED YtjbnffadfohofaaPvariorumref10Move
section
namespace Go.Proofs.Ytjbnffadfohofaa.P
open Go.RowKit Go.Proofs.YtjbnffadfohofaaW.PrintWords Go.Proofs.YtjbnffadfohofaaW.PrintLast Go.Proofs.YtjbnffadfohofaaW.PrintMore
attribute [local go_sem] max2_int min2_int max_two min_two max_three min_three max_four min_four   -- for this text's walks alone
set_option linter.unusedVariables false
set_option linter.unusedSimpArgs false
mutual
def variorumref10_Move.j0 : Nat → List (S49) → Int → Bool → Bool → Option (Int × Bool)
 | 0, _, _, _, _ => none
 | k + 1, x0, x1, x2, x24 => if x24 = true then (some (0, false)) else ((variorumref09_Adds.f k x0).bind fun t237 => ((variorumref09_Drops.f k x0).bind fun t240 => (variorumref10_Move.l0 k x1 x2 t237 t240 0 0)))
def variorumref10_Move.l0 : Nat → Int → Bool → List ByteArray → List Bool → Int → Int → Option (Int × Bool)
 | 0, _, _, _, _, _, _ => none
 | k + 1, x1, x2, x8, x9, x10, x11 => if x11 < x1 then (if 0 ≤ x11 then (if x11 < (x8.length : Int) then (if x11 < (x9.length : Int) then (if rdOf false x9 x11 = true then (variorumref10_Move.l0 k x1 x2 x8 x9 (wrap64 (x10 + ((rdOf ByteArray.empty x8 x11).size : Int))) (wrap64 (x11 + 1))) else (variorumref10_Move.l0 k x1 x2 x8 x9 (wrap64 ((wrap64 (x10 + ((rdOf ByteArray.empty x8 x11).size : Int))) + 1)) (wrap64 (x11 + 1)))) else (none)) else (none)) else (none)) else (if x2 = true then (if 0 ≤ x1 then (if x1 < (x8.length : Int) then (some (wrap64 (x10 + ((rdOf ByteArray.empty x8 x1).size : Int)), true)) else (none)) else (none)) else (some (x10, true)))
end
def variorumref10_Move.f (k : Nat) (l0 : List (S49)) (a1 : Int) (a2 : Bool) : Option (Int × Bool) := (variorumref06_Good.f l0).bind fun t235 => (if t235 = true then (if a1 < 0 then (variorumref10_Move.j0 k l0 a1 a2 true) else ((variorumref06_In.f k l0).bind fun t236 => (variorumref10_Move.j0 k l0 a1 a2 (decide (a1 > t236))))) else (variorumref10_Move.j0 k l0 a1 a2 true))
end Go.Proofs.Ytjbnffadfohofaa.P
end
-- MERGED YtjbnffadfohofaaPvariorumref10Span
section
namespace Go.Proofs.Ytjbnffadfohofaa.P
open Go.RowKit Go.Proofs.YtjbnffadfohofaaW.PrintWords Go.Proofs.YtjbnffadfohofaaW.PrintLast Go.Proofs.YtjbnffadfohofaaW.PrintMore
attribute [local go_sem] max2_int min2_int max_two min_two max_three min_three max_four min_four   -- for this text's walks alone
set_option linter.unusedVariables false
set_option linter.unusedSimpArgs false
mutual
def variorumref10_Span.j0 : Nat → List (S49) → Bool → Int → Int → Option (Int × Int × Bool)
 | 0, _, _, _, _ => none
 | k + 1, x0, x33, x247000, x247001 => if x33 = true then (some (0, 0, false)) else ((variorumref09_Drops.f k x0).bind fun t250 => (variorumref10_Span.l0 k x0 t250 (-1) (-1) x247000 x247000 x247001))
def variorumref10_Span.l0 : Nat → List (S49) → List Bool → Int → Int → Int → Int → Int → Option (Int × Int × Bool)
 | 0, _, _, _, _, _, _, _ => none
 | k + 1, x0, x6, x7, x8, x9, x247000, x247001 => if x9 < x247001 then (if 0 ≤ x9 then (if x9 < (x6.length : Int) then (if rdOf false x6 x9 = true then (variorumref10_Span.l0 k x0 x6 x7 x8 (wrap64 (x9 + 1)) x247000 x247001) else ((variorumref10_Move.f k x0 x9 true).bind fun bt256 => (if x7 < 0 then (variorumref10_Span.l0 k x0 x6 bt256.1 (wrap64 (bt256.1 + 1)) (wrap64 (x9 + 1)) x247000 x247001) else (variorumref10_Span.l0 k x0 x6 x7 (wrap64 (bt256.1 + 1)) (wrap64 (x9 + 1)) x247000 x247001)))) else (none)) else (none)) else (if x7 < 0 then ((variorumref10_Move.f k x0 x247000 false).bind fun bt253 => (some (bt253.1, bt253.1, true))) else (some (x7, x8, true)))
end
def variorumref10_Span.f (k : Nat) (l0 : List (S49)) (a1_0 : Int) (a1_1 : Int) : Option (Int × Int × Bool) := (variorumref06_Good.f l0).bind fun t248 => (if t248 = true then (if a1_0 < 0 then (variorumref10_Span.j0 k l0 true a1_0 a1_1) else (if a1_0 > a1_1 then (variorumref10_Span.j0 k l0 true a1_0 a1_1) else ((variorumref06_In.f k l0).bind fun t249 => (variorumref10_Span.j0 k l0 (decide (a1_1 > t249)) a1_0 a1_1)))) else (variorumref10_Span.j0 k l0 true a1_0 a1_1))
end Go.Proofs.Ytjbnffadfohofaa.P
end
-- MERGED YtjbnffadfohofaaPlaceG
namespace Go.Proofs.Ytjbnffadfohofaa.PlaceG
end Go.Proofs.Ytjbnffadfohofaa.PlaceG
-- MERGED YtjbnffadfohofaaMaps1
section
namespace Go.Proofs.Ytjbnffadfohofaa.Maps1
open Go.RowKit Go.Proofs.YtjbnffadfohofaaW.PrintWords Go.Proofs.YtjbnffadfohofaaW.PrintLast Go.Proofs.YtjbnffadfohofaaW.PrintMore
theorem C_map {α β : Type} {d : Kd α} {d' : Kd β} {w : World} {A : Option Addr} {n : Nat} {xs : List α} (hs : d.sz = d'.sz) (f : α → β) (hK : ∀ x cs, d.K w x cs → d'.K w (f x) cs) (h : Kd.C d w A n xs) : Kd.C d' w A n (xs.map f) := by
 refine ⟨by rw [List.length_map]; exact h.1, h.2.1, fun hp => ?_⟩
 obtain ⟨ad, e, hr⟩ := h.2.2 hp
 refine ⟨ad, e, fun j p hj => ?_⟩
 rw [List.getElem?_map] at hj
 cases hx : xs[j]? with
 | none => rw [hx] at hj; cases hj
 | some x =>
  rw [hx] at hj
  obtain rfl := Option.some.inj hj
  obtain ⟨c, h1, h2, h3⟩ := hr j x hx
  exact ⟨c, by rw [h1, hs], hK x c h2, fun i u hu => by rw [← hs]; exact h3 i u hu⟩
theorem K_slice_map {α β : Type} {d : Kd α} {d' : Kd β} {w : World} {e : Nat} (hs : d.sz = d'.sz) (f : α → β) (hK : ∀ x cs, d.K w x cs → d'.K w (f x) cs) (xs : List α) (cs : List Value) (h : (Kd.slice e d).K w xs cs) : (Kd.slice e d').K w (xs.map f) cs := by
 obtain ⟨A, c, rfl, h1, h2⟩ := h
 exact ⟨A, c, by rw [List.length_map], by rw [List.length_map]; exact h1, by rw [List.length_map]; exact C_map hs f hK h2⟩
end Go.Proofs.Ytjbnffadfohofaa.Maps1
end
-- MERGED YtjbnffadfohofaaPvariorumref10Over
section
namespace Go.Proofs.Ytjbnffadfohofaa.P
open Go.RowKit Go.Proofs.YtjbnffadfohofaaW.PrintWords Go.Proofs.YtjbnffadfohofaaW.PrintLast Go.Proofs.YtjbnffadfohofaaW.PrintMore
attribute [local go_sem] max2_int min2_int max_two min_two max_three min_three max_four min_four   -- for this text's walks alone
set_option linter.unusedVariables false
set_option linter.unusedSimpArgs false
def variorumref10_Over.l0 : Nat → List (List (S49)) → Int → Int → Int → Option (Int × Int × Bool)
 | 0, _, _, _, _ => none
 | k + 1, x0, x6, x259000, x259001 => if x6 < (x0.length : Int) then (if 0 ≤ x6 then ((variorumref10_Span.f k (rd_L3 x0 x6) x259000 x259001).bind fun bt261 => (if bt261.2.2 = true then (variorumref10_Over.l0 k x0 (wrap64 (x6 + 1)) bt261.1 bt261.2.1) else (some (0, 0, false)))) else (none)) else (some (x259000, x259001, true))
def variorumref10_Over.f (k : Nat) (l0 : List (List (S49))) (a1_0 : Int) (a1_1 : Int) : Option (Int × Int × Bool) := variorumref10_Over.l0 k l0 0 a1_0 a1_1
end Go.Proofs.Ytjbnffadfohofaa.P
end
-- MERGED YtjbnffadfohofaaPplaceOver
section
namespace Go.Proofs.Ytjbnffadfohofaa.P
open Go.RowKit Go.Proofs.YtjbnffadfohofaaW.PrintWords Go.Proofs.YtjbnffadfohofaaW.PrintLast Go.Proofs.YtjbnffadfohofaaW.PrintMore
attribute [local go_sem] max2_int min2_int max_two min_two max_three min_three max_four min_four   -- for this text's walks alone
set_option linter.unusedVariables false
set_option linter.unusedSimpArgs false
def place_Over.l0 : Nat → List (List (S49)) → Int → Int → Int → Int → Option (Int × Int × Bool)
 | 0, _, _, _, _, _ => none
 | k + 1, x10, x11, x12, x177000, x177001 => if x12 < x11 then (if 0 ≤ x12 then (if x12 < (x10.length : Int) then ((place_Span.f (rd_L3 x10 x12) x177000 x177001).bind fun bt179 => (if bt179.2.2 = true then (place_Over.l0 k x10 x11 (wrap64 (x12 + 1)) bt179.1 bt179.2.1) else (some (0, 0, false)))) else (none)) else (none)) else (some (x177000, x177001, true))
def place_Over.f (k : Nat) (l0 : List (List (S49))) (a1_0 : Int) (a1_1 : Int) : Option (Int × Int × Bool) := place_Over.l0 k l0 (l0.length : Int) 0 a1_0 a1_1
set_option maxHeartbeats 8000000 in
set_option maxRecDepth 100000 in
theorem place_Over.calls (k : Nat) (A0 : Option Addr) (c0 : Nat) (l0 : List (List (S49))) (a1_0 : Int) (a1_1 : Int) (r1 : Int) (r2 : Int) (r3 : Bool) (w : World) (hr0 : Kd.C (Kd.slice 49 k49) w A0 l0.length l0) (hc0 : l0.length ≤ c0) (h : place_Over.f k l0 a1_0 a1_1 = some (r1, r2, r3)) :
  Calls Try.prog 23 #[.slice A0 l0.length c0, .agg #[.int .i64 a1_0, .int .i64 a1_1]] w fun e w' => e = .returned (.tuple #[.agg #[.int .i64 r1, .int .i64 r2], .bool r3]) ∧ Below w.heap.size w w' := by
 have hu42 := Try.underlying42
 have HR0 := Aside0.mk hr0
 have HC0 := Aside0.mk hc0
 clear hr0 hc0
 have HB := Aside0.mk (Below.refl w.heap.size w)
 have H : (place_Over.l0 k l0 (l0.length : Int) 0 a1_0 a1_1) = some (r1, r2, r3) := h
 clear h
 have H' := Aside0.mk H
 clear H
 go_enter Try.func23, Try.ntmps23
 go_wp2_with (first | ((with_reducible refine gate_dst (N := 3) rfl ?_); refine box_event ?hg (N := 3) ?hd (cs := #[.int .i64 a1_0, .int .i64 a1_1]) (t := 42) ?hr ?_; (case hd => rfl); (case hg => rfl); (case hr => (go_simp; done)); intro gb176 hg w3 hbox hb; have n0_ := Aside0.mk (below_step (by repeat ((with_reducible (exact HB.out)))) hb); have n1_ := Aside0.mk (hbox); have n2_ := Aside0.mk ((by rw [hg]; exact (below_size (by repeat ((with_reducible (exact HB.out))))) : w.heap.size ≤ gb176)); have n3_ := Aside0.mk ((by rw [hg]; exact (below_size (by repeat ((with_reducible (exact HB.out))))) : w.heap.size ≤ gb176)); clear HB; have HB := n0_; have BK176 := n1_; have GW176 := n2_; have GE176 := n3_; clear n0_ n1_ n2_ n3_; clear hb hbox hg) | ((with_reducible refine gate_dst (N := 4) rfl ?_); refine box_event ?hg (N := 4) ?hd (cs := #[.int .i64 0, .int .i64 0]) (t := 42) ?hr ?_; (case hd => rfl); (case hg => rfl); (case hr => (go_simp; done)); intro gb177 hg w4 hbox hb; have n0_ := Aside0.mk (blk_below (g := gb176) (o := .cells #[.int .i64 a1_0, .int .i64 a1_1] 42 (0, 0)) (by (with_reducible repeat ((refine blk_drew ?_))); exact BK176.out) hb); have n1_ := Aside0.mk (below_step (by repeat ((with_reducible (exact HB.out)))) hb); have n2_ := Aside0.mk (hbox); have n3_ := Aside0.mk ((by rw [hg]; exact (below_size (by repeat ((with_reducible (exact HB.out))))) : w.heap.size ≤ gb177)); have n4_ := Aside0.mk ((by rw [hg]; exact (below_size (by repeat ((with_reducible (exact HB.out))))) : w.heap.size ≤ gb177)); have n5_ := Aside0.mk ((by rw [hg]; exact Nat.ne_of_lt (blk_lt (g := gb176) (o := .cells #[.int .i64 a1_0, .int .i64 a1_1] 42 (0, 0)) (by (with_reducible repeat ((refine blk_drew ?_))); exact BK176.out)) : gb176 ≠ gb177)); have n6_ := Aside0.mk ((by rw [hg]; exact Nat.ne_of_gt (blk_lt (g := gb176) (o := .cells #[.int .i64 a1_0, .int .i64 a1_1] 42 (0, 0)) (by (with_reducible repeat ((refine blk_drew ?_))); exact BK176.out)) : gb177 ≠ gb176)); clear BK176; clear HB; have BK176 := n0_; have HB := n1_; have BK177 := n2_; have GW177 := n3_; have GE177 := n4_; have NB176_177 := n5_; have NB177_176 := n6_; clear n0_ n1_ n2_ n3_ n4_ n5_ n6_; clear hb hbox hg))
 go_loopg [12] k (fun kq v12 w' => ∃ (x12_1 : Int) (x177000_1 : Int) (x177001_1 : Int) (x178000_1 : Int) (x178001_1 : Int), v12 = .int .i64 x12_1 ∧ Aside0 (place_Over.l0 kq l0 (l0.length : Int) x12_1 x177000_1 x177001_1 = some (r1, r2, r3)) ∧ Aside0 (kq ≤ k) ∧ Aside0 (w'.heap[gb176]? = some (.cells #[.int .i64 x177000_1, .int .i64 x177001_1] 42 (0, 0))) ∧ Aside0 (w'.heap[gb177]? = some (.cells #[.int .i64 x178000_1, .int .i64 x178001_1] 42 (0, 0))) ∧ Aside0 (Below w.heap.size w w'))
 case atStart => exact ⟨(0), (a1_0), (a1_1), (0), (0), (by (rfl)), H', ⟨Nat.le_refl _⟩, ⟨by (with_reducible repeat ((refine blk_drew ?_))); exact BK176.out⟩, ⟨by (with_reducible repeat ((refine blk_drew ?_))); exact BK177.out⟩, ⟨by repeat ((with_reducible (exact HB.out)))⟩⟩
 case round =>
  clear H'
  try clear c2
  try clear p2
  obtain ⟨x12_1, x177000_1, x177001_1, x178000_1, x178001_1, rfl, HA, HK1, BK176, BK177, HB⟩ := hrel
  cases gk with
  | zero => exact absurd HA.out (by simp [place_Over.l0])
  | succ k1 =>
   have H := HA.out
   clear HA
   simp only [place_Over.l0] at H
   by_cases c5 : x12_1 < (l0.length : Int)
   ·rw [if_pos c5] at H
    have c5b0 : decide (x12_1 < (l0.length : Int)) = true := decide_eq_true c5
    clear c5
    by_cases c6 : 0 ≤ x12_1
    ·rw [if_pos c6] at H
     have c6b0 : decide (0 ≤ x12_1) = true := decide_eq_true c6
     clear c6
     by_cases c7 : x12_1 < (l0.length : Int)
     ·rw [if_pos c7] at H
      have c7b0 : decide (x12_1 < (l0.length : Int)) = true := decide_eq_true c7
      clear c7
      replace H := Option.bind_eq_some_iff.mp H
      obtain ⟨⟨t179, t180, t181⟩, A80, H⟩ := H
      replace H : (if t181 = true then (place_Over.l0 k1 l0 (l0.length : Int) (wrap64 (x12_1 + 1)) t179 t180) else (some (0, 0, false))) = some (r1, r2, r3) := H
      have A8 := Aside0.mk A80
      clear A80
      by_cases c9 : t181 = true
      ·subst c9
       have H1 : (place_Over.l0 k1 l0 (l0.length : Int) (wrap64 (x12_1 + 1)) t179 t180) = some (r1, r2, r3) := by rw [if_pos rfl] at H; exact H
       clear H
       have H := H1
       clear H1
       have H' := Aside0.mk H
       clear H
       have p178 : 0 ≤ (x12_1 : Int) := of_decide_eq_true (by (with_reducible assumption))
       have q178 : x12_1 < (l0.length : Int) := of_decide_eq_true (by (with_reducible assumption))
       obtain ⟨ad178, A178_0, c178_0, e178, hx178_0, hl178_0, hi178_0⟩ := at_L3 HR0.out x12_1 p178 q178
       cases e178
       replace hx178_0 := (HB.out.cell (World.block_lt_of_cell? w _ hx178_0)).trans hx178_0
       have HR178_0 := Aside0.mk hi178_0
       have HC178_0 := Aside0.mk hl178_0
       clear hi178_0 hl178_0
       replace p178 := eq_true p178
       replace q178 := eq_true q178
       have hnb10 := NB176_177.out
       have hnc10 := NB177_176.out
       have hcz11_0 : wr.cell? ⟨gb176, 0, none⟩ = some (.int .i64 x177000_1) := (blk_cell BK176.out 0).trans rfl
       have hcz11_1 : wr.cell? ⟨gb176, 1, none⟩ = some (.int .i64 x177001_1) := (blk_cell BK176.out 1).trans rfl
       have hfz11_0 := blk_frozen BK176.out 0
       have hfz11_1 := blk_frozen BK176.out 1
       go_wp2_with (first | ((with_reducible refine gate_callee (f := 35) rfl ?_); refine goesL_ (some 19) rfl rfl Try.func35 (by kernel_rfl) rfl #[.slice A178_0 (rd_L3 l0 x12_1).length c178_0, .agg #[.int .i64 x177000_1, .int .i64 x177001_1]] rfl (by (try simp only [List.map_toArray, List.map_cons, List.map_nil]); (rfl)) ?_; (with_reducible refine (place_Span.calls _ _ (rd_L3 l0 x12_1) x177000_1 x177001_1 t179 t180 true _ ?side1 ?side2 A8.out).mono ?_); (case side1 => repeat ((exact (Kd.C_below HR178_0.out HB.out)))); (case side2 => exact HC178_0.out); rintro e w12 ⟨rfl, hb⟩; refine ⟨_, rfl, ?_⟩; have n0_ := Aside0.mk (blk_below (g := gb176) (o := .cells #[.int .i64 x177000_1, .int .i64 x177001_1] 42 (0, 0)) (by (with_reducible repeat ((refine blk_drew ?_))); exact BK176.out) hb); have n1_ := Aside0.mk (blk_below (g := gb177) (o := .cells #[.int .i64 x178000_1, .int .i64 x178001_1] 42 (0, 0)) (by (with_reducible repeat ((refine blk_drew ?_))); exact BK177.out) hb); have n2_ := Aside0.mk (below_step (by repeat ((with_reducible (exact HB.out)))) hb); clear BK176; clear BK177; clear HB; have BK176 := n0_; have BK177 := n1_; have HB := n2_; clear n0_ n1_ n2_; (try clear hb); (try clear hb2); (try clear hk); (try clear hi)) | ((with_reducible refine gate_dst (N := 8) rfl ?_); refine box_event ?hg (N := 8) ?hd (cs := #[.int .i64 0, .int .i64 0]) (t := 42) ?hr ?_; (case hd => rfl); (case hg => rfl); (case hr => (go_simp; done)); intro gb182 hg w13 hbox hb; have n0_ := Aside0.mk (blk_below (g := gb176) (o := .cells #[.int .i64 x177000_1, .int .i64 x177001_1] 42 (0, 0)) (by (with_reducible repeat ((refine blk_drew ?_))); exact BK176.out) hb); have n1_ := Aside0.mk (blk_below (g := gb177) (o := .cells #[.int .i64 x178000_1, .int .i64 x178001_1] 42 (0, 0)) (by (with_reducible repeat ((refine blk_drew ?_))); exact BK177.out) hb); have n2_ := Aside0.mk (below_step (by repeat ((with_reducible (exact HB.out)))) hb); have n3_ := Aside0.mk (hbox); have n4_ := Aside0.mk ((by rw [hg]; exact (below_size (by repeat ((with_reducible (exact HB.out))))) : w.heap.size ≤ gb182)); have n5_ := Aside0.mk ((by rw [hg]; exact (below_size (by repeat ((with_reducible (exact HB.out))))) : w.heap.size ≤ gb182)); have n6_ := Aside0.mk ((by rw [hg]; exact Nat.ne_of_lt (blk_lt (g := gb176) (o := .cells #[.int .i64 x177000_1, .int .i64 x177001_1] 42 (0, 0)) (by (with_reducible repeat ((refine blk_drew ?_))); exact BK176.out)) : gb176 ≠ gb182)); have n7_ := Aside0.mk ((by rw [hg]; exact Nat.ne_of_gt (blk_lt (g := gb176) (o := .cells #[.int .i64 x177000_1, .int .i64 x177001_1] 42 (0, 0)) (by (with_reducible repeat ((refine blk_drew ?_))); exact BK176.out)) : gb182 ≠ gb176)); have n8_ := Aside0.mk ((by rw [hg]; exact Nat.ne_of_lt (blk_lt (g := gb177) (o := .cells #[.int .i64 x178000_1, .int .i64 x178001_1] 42 (0, 0)) (by (with_reducible repeat ((refine blk_drew ?_))); exact BK177.out)) : gb177 ≠ gb182)); have n9_ := Aside0.mk ((by rw [hg]; exact Nat.ne_of_gt (blk_lt (g := gb177) (o := .cells #[.int .i64 x178000_1, .int .i64 x178001_1] 42 (0, 0)) (by (with_reducible repeat ((refine blk_drew ?_))); exact BK177.out)) : gb182 ≠ gb177)); clear BK176; clear BK177; clear HB; have BK176 := n0_; have BK177 := n1_; have HB := n2_; have BK182 := n3_; have GW182 := n4_; have GE182 := n5_; have NB176_182 := n6_; have NB182_176 := n7_; have NB177_182 := n8_; have NB182_177 := n9_; clear n0_ n1_ n2_ n3_ n4_ n5_ n6_ n7_ n8_ n9_; clear hb hbox hg; have hnb14 := NB182_176.out; have hnc14 := NB176_182.out; have hnb15 := NB182_177.out; have hnc15 := NB177_182.out; have hcz16_0 : w13.cell? ⟨gb182, 0, none⟩ = some (.int .i64 0) := (blk_cell BK182.out 0).trans rfl; have hcz16_1 : w13.cell? ⟨gb182, 1, none⟩ = some (.int .i64 0) := (blk_cell BK182.out 1).trans rfl; have hfz16_0 := blk_frozen BK182.out 0; have hfz16_1 := blk_frozen BK182.out 1; have hcz17_0 : w13.cell? ⟨gb176, 0, none⟩ = some (.int .i64 x177000_1) := (blk_cell BK176.out 0).trans rfl; have hcz17_1 : w13.cell? ⟨gb176, 1, none⟩ = some (.int .i64 x177001_1) := (blk_cell BK176.out 1).trans rfl; have hfz17_0 := blk_frozen BK176.out 0; have hfz17_1 := blk_frozen BK176.out 1))
       go_roundg k1
       case measure => have := HK1.out; omega
       case rel => exact ⟨(wrap64 (x12_1 + 1)), (t179), (t180), (x178000_1), (x178001_1), (by (rfl)), H', ⟨by have := HK1.out; omega⟩, ⟨by (with_reducible repeat ((refine blk_drew ?_))); refine blk_put (cs := #[.int .i64 t179, .int .i64 x177001_1]) ?_ 1 _ rfl; (with_reducible repeat ((refine blk_drew ?_))); refine blk_put (cs := #[.int .i64 x177000_1, .int .i64 x177001_1]) ?_ 0 _ rfl; (with_reducible repeat ((refine blk_drew ?_))); refine blk_far ?_ NB176_182.out _; (with_reducible repeat ((refine blk_drew ?_))); refine blk_far ?_ NB176_182.out _; (with_reducible repeat ((refine blk_drew ?_))); exact BK176.out⟩, ⟨by (with_reducible repeat ((refine blk_drew ?_))); refine blk_far ?_ NB177_176.out _; (with_reducible repeat ((refine blk_drew ?_))); refine blk_far ?_ NB177_176.out _; (with_reducible repeat ((refine blk_drew ?_))); refine blk_far ?_ NB177_182.out _; (with_reducible repeat ((refine blk_drew ?_))); refine blk_far ?_ NB177_182.out _; (with_reducible repeat ((refine blk_drew ?_))); exact BK177.out⟩, ⟨by repeat ((with_reducible first | exact HB.out | refine below_set ?_ GE176.out | refine below_set ?_ GE182.out))⟩⟩
      ·replace c9 := Bool.eq_false_iff.mpr c9
       subst c9
       have H1 : (some (0, 0, false)) = some (r1, r2, r3) := by rw [if_neg (show ¬ (false = true) by decide)] at H; exact H
       clear H
       have H := H1
       clear H1
       simp only [Option.some.injEq, Prod.mk.injEq] at H
       obtain ⟨rfl, rfl, rfl⟩ := H
       have p178 : 0 ≤ (x12_1 : Int) := of_decide_eq_true (by (with_reducible assumption))
       have q178 : x12_1 < (l0.length : Int) := of_decide_eq_true (by (with_reducible assumption))
       obtain ⟨ad178, A178_0, c178_0, e178, hx178_0, hl178_0, hi178_0⟩ := at_L3 HR0.out x12_1 p178 q178
       cases e178
       replace hx178_0 := (HB.out.cell (World.block_lt_of_cell? w _ hx178_0)).trans hx178_0
       have HR178_0 := Aside0.mk hi178_0
       have HC178_0 := Aside0.mk hl178_0
       clear hi178_0 hl178_0
       replace p178 := eq_true p178
       replace q178 := eq_true q178
       have hnb18 := NB176_177.out
       have hnc18 := NB177_176.out
       have hcz19_0 : wr.cell? ⟨gb176, 0, none⟩ = some (.int .i64 x177000_1) := (blk_cell BK176.out 0).trans rfl
       have hcz19_1 : wr.cell? ⟨gb176, 1, none⟩ = some (.int .i64 x177001_1) := (blk_cell BK176.out 1).trans rfl
       have hfz19_0 := blk_frozen BK176.out 0
       have hfz19_1 := blk_frozen BK176.out 1
       go_wp2_with (first | ((with_reducible refine gate_callee (f := 35) rfl ?_); refine goesL_ (some 19) rfl rfl Try.func35 (by kernel_rfl) rfl #[.slice A178_0 (rd_L3 l0 x12_1).length c178_0, .agg #[.int .i64 x177000_1, .int .i64 x177001_1]] rfl (by (try simp only [List.map_toArray, List.map_cons, List.map_nil]); (rfl)) ?_; (with_reducible refine (place_Span.calls _ _ (rd_L3 l0 x12_1) x177000_1 x177001_1 t179 t180 false _ ?side1 ?side2 A8.out).mono ?_); (case side1 => repeat ((exact (Kd.C_below HR178_0.out HB.out)))); (case side2 => exact HC178_0.out); rintro e w20 ⟨rfl, hb⟩; refine ⟨_, rfl, ?_⟩; have n0_ := Aside0.mk (blk_below (g := gb176) (o := .cells #[.int .i64 x177000_1, .int .i64 x177001_1] 42 (0, 0)) (by (with_reducible repeat ((refine blk_drew ?_))); exact BK176.out) hb); have n1_ := Aside0.mk (blk_below (g := gb177) (o := .cells #[.int .i64 x178000_1, .int .i64 x178001_1] 42 (0, 0)) (by (with_reducible repeat ((refine blk_drew ?_))); exact BK177.out) hb); have n2_ := Aside0.mk (below_step (by repeat ((with_reducible (exact HB.out)))) hb); clear BK176; clear BK177; clear HB; have BK176 := n0_; have BK177 := n1_; have HB := n2_; clear n0_ n1_ n2_; (try clear hb); (try clear hb2); (try clear hk); (try clear hi)) | ((with_reducible refine gate_dst (N := 8) rfl ?_); refine box_event ?hg (N := 8) ?hd (cs := #[.int .i64 0, .int .i64 0]) (t := 42) ?hr ?_; (case hd => rfl); (case hg => rfl); (case hr => (go_simp; done)); intro gb182 hg w21 hbox hb; have n0_ := Aside0.mk (blk_below (g := gb176) (o := .cells #[.int .i64 x177000_1, .int .i64 x177001_1] 42 (0, 0)) (by (with_reducible repeat ((refine blk_drew ?_))); exact BK176.out) hb); have n1_ := Aside0.mk (blk_below (g := gb177) (o := .cells #[.int .i64 x178000_1, .int .i64 x178001_1] 42 (0, 0)) (by (with_reducible repeat ((refine blk_drew ?_))); exact BK177.out) hb); have n2_ := Aside0.mk (below_step (by repeat ((with_reducible (exact HB.out)))) hb); have n3_ := Aside0.mk (hbox); have n4_ := Aside0.mk ((by rw [hg]; exact (below_size (by repeat ((with_reducible (exact HB.out))))) : w.heap.size ≤ gb182)); have n5_ := Aside0.mk ((by rw [hg]; exact (below_size (by repeat ((with_reducible (exact HB.out))))) : w.heap.size ≤ gb182)); have n6_ := Aside0.mk ((by rw [hg]; exact Nat.ne_of_lt (blk_lt (g := gb176) (o := .cells #[.int .i64 x177000_1, .int .i64 x177001_1] 42 (0, 0)) (by (with_reducible repeat ((refine blk_drew ?_))); exact BK176.out)) : gb176 ≠ gb182)); have n7_ := Aside0.mk ((by rw [hg]; exact Nat.ne_of_gt (blk_lt (g := gb176) (o := .cells #[.int .i64 x177000_1, .int .i64 x177001_1] 42 (0, 0)) (by (with_reducible repeat ((refine blk_drew ?_))); exact BK176.out)) : gb182 ≠ gb176)); have n8_ := Aside0.mk ((by rw [hg]; exact Nat.ne_of_lt (blk_lt (g := gb177) (o := .cells #[.int .i64 x178000_1, .int .i64 x178001_1] 42 (0, 0)) (by (with_reducible repeat ((refine blk_drew ?_))); exact BK177.out)) : gb177 ≠ gb182)); have n9_ := Aside0.mk ((by rw [hg]; exact Nat.ne_of_gt (blk_lt (g := gb177) (o := .cells #[.int .i64 x178000_1, .int .i64 x178001_1] 42 (0, 0)) (by (with_reducible repeat ((refine blk_drew ?_))); exact BK177.out)) : gb182 ≠ gb177)); clear BK176; clear BK177; clear HB; have BK176 := n0_; have BK177 := n1_; have HB := n2_; have BK182 := n3_; have GW182 := n4_; have GE182 := n5_; have NB176_182 := n6_; have NB182_176 := n7_; have NB177_182 := n8_; have NB182_177 := n9_; clear n0_ n1_ n2_ n3_ n4_ n5_ n6_ n7_ n8_ n9_; clear hb hbox hg; have hnb22 := NB182_176.out; have hnc22 := NB176_182.out; have hnb23 := NB182_177.out; have hnc23 := NB177_182.out; have hcz24_0 : w21.cell? ⟨gb182, 0, none⟩ = some (.int .i64 0) := (blk_cell BK182.out 0).trans rfl; have hcz24_1 : w21.cell? ⟨gb182, 1, none⟩ = some (.int .i64 0) := (blk_cell BK182.out 1).trans rfl; have hfz24_0 := blk_frozen BK182.out 0; have hfz24_1 := blk_frozen BK182.out 1; have hcz25_0 : w21.cell? ⟨gb177, 0, none⟩ = some (.int .i64 x178000_1) := (blk_cell BK177.out 0).trans rfl; have hcz25_1 : w21.cell? ⟨gb177, 1, none⟩ = some (.int .i64 x178001_1) := (blk_cell BK177.out 1).trans rfl; have hfz25_0 := blk_frozen BK177.out 0; have hfz25_1 := blk_frozen BK177.out 1))
       refine bodyPost_ret (results_ct rfl _ _ gb177 42 #[.int .i64 0, .int .i64 0] (0, 0) _ rfl (by (with_reducible repeat ((refine blk_drew ?_))); refine blk_put (cs := #[.int .i64 0, .int .i64 x178001_1]) ?_ 1 _ rfl; (with_reducible repeat ((refine blk_drew ?_))); refine blk_put (cs := #[.int .i64 x178000_1, .int .i64 x178001_1]) ?_ 0 _ rfl; (with_reducible repeat ((refine blk_drew ?_))); refine blk_far ?_ NB177_182.out _; (with_reducible repeat ((refine blk_drew ?_))); refine blk_far ?_ NB177_182.out _; (with_reducible repeat ((refine blk_drew ?_))); exact BK177.out) Try.underlying42 rfl (by kernel_rfl)) rfl ?_
       exact ⟨by (rfl), by repeat ((with_reducible first | exact HB.out | refine below_set ?_ GE177.out | refine below_set ?_ GE182.out))⟩
     ·rw [if_neg c7] at H
      exact absurd H (by simp)
    ·rw [if_neg c6] at H
     exact absurd H (by simp)
   ·rw [if_neg c5] at H
    have c5b0 : decide (x12_1 < (l0.length : Int)) = false := decide_eq_false c5
    clear c5
    simp only [Option.some.injEq, Prod.mk.injEq] at H
    obtain ⟨rfl, rfl, rfl⟩ := H
    have hnb26 := NB176_177.out
    have hnc26 := NB177_176.out
    have hcz27_0 : wr.cell? ⟨gb176, 0, none⟩ = some (.int .i64 x177000_1) := (blk_cell BK176.out 0).trans rfl
    have hcz27_1 : wr.cell? ⟨gb176, 1, none⟩ = some (.int .i64 x177001_1) := (blk_cell BK176.out 1).trans rfl
    have hfz27_0 := blk_frozen BK176.out 0
    have hfz27_1 := blk_frozen BK176.out 1
    have hcz28_0 : wr.cell? ⟨gb177, 0, none⟩ = some (.int .i64 x178000_1) := (blk_cell BK177.out 0).trans rfl
    have hcz28_1 : wr.cell? ⟨gb177, 1, none⟩ = some (.int .i64 x178001_1) := (blk_cell BK177.out 1).trans rfl
    have hfz28_0 := blk_frozen BK177.out 0
    have hfz28_1 := blk_frozen BK177.out 1
    go_wp2
    refine bodyPost_ret (results_ct rfl _ _ gb177 42 #[.int .i64 x177000_1, .int .i64 x177001_1] (0, 0) _ rfl (by (with_reducible repeat ((refine blk_drew ?_))); refine blk_put (cs := #[.int .i64 x177000_1, .int .i64 x178001_1]) ?_ 1 _ rfl; (with_reducible repeat ((refine blk_drew ?_))); refine blk_put (cs := #[.int .i64 x178000_1, .int .i64 x178001_1]) ?_ 0 _ rfl; (with_reducible repeat ((refine blk_drew ?_))); exact BK177.out) Try.underlying42 rfl (by kernel_rfl)) rfl ?_
    exact ⟨by (rfl), by repeat ((with_reducible first | exact HB.out | refine below_set ?_ GE177.out))⟩
end Go.Proofs.Ytjbnffadfohofaa.P
end
-- MERGED YtjbnffadfohofaaPlaceOv
section
namespace Go.Proofs.Ytjbnffadfohofaa.PlaceOv
open Go.RowKit Go.Proofs.Ytjbnffadfohofaa.P Go.Proofs.YtjbnffadfohofaaW.PrintWords Go.Proofs.YtjbnffadfohofaaW.PrintLast Go.Proofs.YtjbnffadfohofaaW.PrintMore Go.Proofs.Ytjbnffadfohofaa.EditL Go.Proofs.Ytjbnffadfohofaa.EditK Go.Proofs.Ytjbnffadfohofaa.EditF Go.Proofs.Ytjbnffadfohofaa.EditG Go.Proofs.Ytjbnffadfohofaa.EditH1 Go.Proofs.Ytjbnffadfohofaa.PlaceI Go.Proofs.Ytjbnffadfohofaa.PlaceM Go.Proofs.Ytjbnffadfohofaa.PlaceS Go.Proofs.Ytjbnffadfohofaa.PlaceL Go.Proofs.Ytjbnffadfohofaa.PlaceF Go.Proofs.Ytjbnffadfohofaa.PlaceG
set_option linter.unusedSimpArgs false
set_option linter.unusedVariables false
theorem op_at {l pre suf : List (List Rn)} {r : List Rn} (h : l = pre ++ r :: suf) : rd_L3 l (pre.length : Int) = r := by
 subst h
 unfold rd_L3
 rw [Int.toNat_natCast, List.getD_eq_getElem?_getD, List.getElem?_append_right (Nat.le_refl _), Nat.sub_self]; rfl
theorem snoc' {α : Type} {l pre suf : List α} {r : α} (h : l = pre ++ r :: suf) : l = (pre ++ [r]) ++ suf ∧ ((pre ++ [r]).length : Int) = (pre.length : Int) + 1 ∧ (pre.length : Int) < (l.length : Int) := by
 refine ⟨by rw [h]; simp, by simp, by rw [h]; simp; omega⟩
def Fw (op : List Rn) : Prop := op.length ≤ 100 ∧ (good op = true → inL op ≤ 3000 ∧ outL op ≤ 3000)
def overS : List (List Rn) → Int → Int → Int × Int × Bool
 | [], a, b => (a, b, true)
 | op :: l, a, b => if (spanL op a b).2 = true then overS l (spanL op a b).1.1 (spanL op a b).1.2 else (0, 0, false)
theorem over_l (l : List (List Rn)) (hl : l.length ≤ 12) (hf : ∀ op ∈ l, Fw op) : ∀ (suf pre : List (List Rn)) (k : Nat) (a b : Int), l = pre ++ suf → suf.length < k →
  place_Over.l0 k l (l.length : Int) (pre.length : Int) a b = some (overS suf a b) := by
 intro suf
 induction suf with
 | nil =>
  intro pre k a b hfe hk
  obtain ⟨k, rfl⟩ : ∃ m, k = m + 1 := ⟨k - 1, by omega⟩
  have : l.length = pre.length := by rw [hfe]; simp
  simp only [place_Over.l0]
  rw [if_neg (by omega)]; rfl
 | cons r suf ih =>
  intro pre k a b hfe hk
  obtain ⟨k, rfl⟩ : ∃ m, k = m + 1 := ⟨k - 1, by omega⟩
  obtain ⟨hl2, hn, hlt⟩ := snoc' hfe
  have hr := hf r (by rw [hfe]; simp)
  simp only [List.length_cons] at hk
  have next := fun a b => ih (pre ++ [r]) k a b hl2 (by omega)
  rw [hn] at next
  simp only [place_Over.l0]
  rw [if_pos hlt, if_pos (by omega), if_pos hlt, op_at hfe, pspan_f (by have := hr.1; omega), Option.bind_some, w64 (x := (pre.length : Int) + 1) (by omega) (by omega), next]
  show (if (spanL r a b).2 = true then some (overS suf (spanL r a b).1.1 (spanL r a b).1.2) else some (0, 0, false)) = some (if (spanL r a b).2 = true then overS suf (spanL r a b).1.1 (spanL r a b).1.2 else (0, 0, false))
  split <;> rfl
theorem over_f (l : List (List Rn)) (hl : l.length ≤ 12) (hf : ∀ op ∈ l, Fw op) (k : Nat) (hk : 9000 ≤ k) (a b : Int) : place_Over.f k l a b = some (overS l a b) := over_l l hl hf l [] k a b rfl (by omega)
end Go.Proofs.Ytjbnffadfohofaa.PlaceOv
end
-- MERGED YtjbnffadfohofaaPvariorumref07Fits
section
namespace Go.Proofs.Ytjbnffadfohofaa.P
open Go.RowKit Go.Proofs.YtjbnffadfohofaaW.PrintWords Go.Proofs.YtjbnffadfohofaaW.PrintLast Go.Proofs.YtjbnffadfohofaaW.PrintMore
attribute [local go_sem] max2_int min2_int max_two min_two max_three min_three max_four min_four   -- for this text's walks alone
set_option linter.unusedVariables false
set_option linter.unusedSimpArgs false
def variorumref07_Fits.f (k : Nat) (l0 : List (S49)) (a1 : ByteArray) : Option (Bool) := (variorumref06_Good.f l0).bind fun t296 => (if t296 = true then ((variorumref06_In.f k l0).bind fun t297 => (some (t297 == (a1.size : Int)))) else (some false))
set_option maxHeartbeats 8000000 in
set_option maxRecDepth 100000 in
theorem variorumref07_Fits.calls (k : Nat) (A0 : Option Addr) (c0 : Nat) (l0 : List (S49)) (a1 : ByteArray) (r : Bool) (w : World) (hr0 : Kd.C k49 w A0 l0.length l0) (hc0 : l0.length ≤ c0) (h : variorumref07_Fits.f k l0 a1 = some r) :
  Calls Try.prog 19 #[.slice A0 l0.length c0, .string a1] w fun e w' => e = .returned (.bool r) ∧ Below w.heap.size w w' := by
 have HR0 := Aside0.mk hr0
 have HC0 := Aside0.mk hc0
 clear hr0 hc0
 have HB := Aside0.mk (Below.refl w.heap.size w)
 have H : ((variorumref06_Good.f l0).bind fun t296 => (if t296 = true then ((variorumref06_In.f k l0).bind fun t297 => (some (t297 == (a1.size : Int)))) else (some false))) = some r := h
 clear h
 replace H := Option.bind_eq_some_iff.mp H
 obtain ⟨t296, A30, H⟩ := H
 replace H : (if t296 = true then ((variorumref06_In.f k l0).bind fun t297 => (some (t297 == (a1.size : Int)))) else (some false)) = some r := H
 have A3 := Aside0.mk A30
 clear A30
 by_cases c4 : t296 = true
 ·subst c4
  have H1 : ((variorumref06_In.f k l0).bind fun t297 => (some (t297 == (a1.size : Int)))) = some r := by rw [if_pos rfl] at H; exact H
  clear H
  have H := H1
  clear H1
  replace H := Option.bind_eq_some_iff.mp H
  obtain ⟨t297, A50, H⟩ := H
  replace H : (some (t297 == (a1.size : Int))) = some r := H
  have A5 := Aside0.mk A50
  clear A50
  obtain rfl := Option.some.inj H
  go_enter Try.func19, Try.ntmps19
  go_wp2_with (first | ((with_reducible refine gate_callee (f := 14) rfl ?_); refine goesL_ (some 6) rfl rfl Try.func14 (by kernel_rfl) rfl #[.slice A0 l0.length c0] rfl (by (try simp only [List.map_toArray, List.map_cons, List.map_nil]); (rfl)) ?_; (with_reducible refine (variorumref06_Good.calls _ _ l0 true _ ?side1 ?side2 A3.out).mono ?_); (case side1 => repeat ((exact HR0.out))); (case side2 => exact HC0.out); rintro e w6 ⟨rfl, hb⟩; refine ⟨_, rfl, ?_⟩; have n0_ := Aside0.mk (below_step (by repeat ((with_reducible (exact HB.out)))) hb); clear HB; have HB := n0_; clear n0_; (try clear hb); (try clear hb2); (try clear hk); (try clear hi)) | (go_at_call 32; (with_reducible refine (variorumref06_In.calls k _ _ l0 t297 _ ?side1 ?side2 A5.out).mono ?_); (case side1 => repeat ((exact (Kd.C_below HR0.out HB.out)))); (case side2 => exact HC0.out); rintro e w7 ⟨rfl, hb⟩; have n0_ := Aside0.mk (below_step (by repeat ((with_reducible (exact HB.out)))) hb); clear HB; have HB := n0_; clear n0_; (try clear hb); (try clear hb2); (try clear hk); (try clear hi)))
  go_ret
  exact ⟨by (rfl), by repeat ((with_reducible (exact HB.out)))⟩
 ·replace c4 := Bool.eq_false_iff.mpr c4
  subst c4
  have H1 : (some false) = some r := by rw [if_neg (show ¬ (false = true) by decide)] at H; exact H
  clear H
  have H := H1
  clear H1
  obtain rfl := Option.some.inj H
  go_enter Try.func19, Try.ntmps19
  go_wp2_with (first | ((with_reducible refine gate_callee (f := 14) rfl ?_); refine goesL_ (some 6) rfl rfl Try.func14 (by kernel_rfl) rfl #[.slice A0 l0.length c0] rfl (by (try simp only [List.map_toArray, List.map_cons, List.map_nil]); (rfl)) ?_; (with_reducible refine (variorumref06_Good.calls _ _ l0 false _ ?side1 ?side2 A3.out).mono ?_); (case side1 => repeat ((exact HR0.out))); (case side2 => exact HC0.out); rintro e w8 ⟨rfl, hb⟩; refine ⟨_, rfl, ?_⟩; have n0_ := Aside0.mk (below_step (by repeat ((with_reducible (exact HB.out)))) hb); clear HB; have HB := n0_; clear n0_; (try clear hb); (try clear hb2); (try clear hk); (try clear hi)))
  go_ret
  exact ⟨by (rfl), by repeat ((with_reducible (exact HB.out)))⟩
end Go.Proofs.Ytjbnffadfohofaa.P
end

/- Shaken: what the claim's theorem needs of our texts, of the printed ones and of the print's words. -/
import Derived.Test.YtedfcjcnhgomoaaXMessageBackB
import Derived.Deep.QuietTactic
import Derived.BigQuiet
-- MERGED YtedfcjcnhgomoaaMsgF
section
namespace Go.Proofs.Ytedfcjcnhgomoaa.MsgF
open Go.RowKit Go.Proofs.Ytedfcjcnhgomoaa.P Go.Proofs.YtedfcjcnhgomoaaW.PrintWords Go.Proofs.YtedfcjcnhgomoaaW.PrintLast Go.Proofs.YtedfcjcnhgomoaaW.PrintMore Go.Proofs.Ytedfcjcnhgomoaa.Own Go.Proofs.Ytedfcjcnhgomoaa.NoteN
set_option linter.unusedSimpArgs false
set_option linter.unusedVariables false
def MsgF.T5 : Bool × List (List Nat × List Nat) := (true, [([], []), ([0], [0]), ([1], [1]), ([2], [2]), ([3], [3]), ([4, 3], [3, 4]), ([5, 3], [3, 5]), ([3, 6], [3, 6]), ([7, 3], [7]), ([8], [8]), ([9, 8], [8, 9]), ([10, 8, 8], [8, 10]), ([11], [11]), ([11], [11]), ([13, 11], [11, 13]), ([12, 14, 11], [11, 12, 14]), ([15, 11], [11, 15]), ([11], [11]), ([16, 17, 11, 11], [11, 16, 17]), ([18, 11], [11, 18]), ([11, 19, 8], [8, 11, 19]), ([8, 20], [8, 20]), ([21, 18], [21])])
def MsgF.B5 : List Nat := [0, 1, 3, 7, 15, 31, 63, 127, 255, 511, 1023, 2047, 4095, 4095, 12287, 32767, 65535, 4095, 262143, 524287, 1048575, 2097151, 4194303]
theorem MsgF.tab5 : rtab .any (opsOf Try.f94 5) = MsgF.T5 := by kernel_rfl
theorem MsgF.bits5 : waitsOk MsgF.T5.2 MsgF.B5 = true := by kernel_rfl
theorem less_f (a b : Nt) : message_less.f a.f0.f0 a.f0.f1 a.f1 b.f0.f0 b.f0.f1 b.f1 = some (lessN a b) := by
 unfold message_less.f lessN
 repeat' split
 all_goals rfl
theorem less_c (a b : Nt) (w : World) : Calls Try.prog 111 #[.agg #[.int .i64 a.f0.f0, .int .i64 a.f0.f1, .int .i64 a.f1], .agg #[.int .i64 b.f0.f0, .int .i64 b.f0.f1, .int .i64 b.f1]] w fun e w' => e = .returned (.bool (lessN a b)) ∧ Below w.heap.size w w' :=
 message_less.calls _ _ _ _ _ _ _ w (less_f a b)
set_option maxHeartbeats 16000000 in
set_option maxRecDepth 100000 in
theorem fine_c (A : Option Addr) (c : Nat) (l : List Nt) (w : World) (hC : NC w A l) (hc : l.length ≤ c) (hl : l.length ≤ 1000000) :
  Calls Try.prog 94 #[.slice A l.length c] w fun e w' => e = .returned (.bool (fineL l)) ∧ Below w.heap.size w w' := by
 have HC := Aside0.mk hC
 have HL := Aside0.mk hl
 clear hC hl hc
 go_enter Try.func94, Try.ntmps94
 go_wp2_with fail
 go_loopw [7] (fun iv wr => ∃ j : Nat, j ≤ l.length ∧ iv = .int .i64 (j : Int) ∧ fineR (prevO l j) (l.drop j) = fineR none l ∧ Below w.heap.size w wr) (fun iv _ => l.length - (intOf iv).toNat)
 case atStart => exact ⟨0, Nat.zero_le _, rfl, rfl, Below.refl _ _⟩
 case round =>
  obtain ⟨j, hj, rfl, ho, hb⟩ := hrel
  have HB := Aside0.mk hb
  have HO := Aside0.mk ho
  clear hb ho
  by_cases hlt : j < l.length
  ·have hlt' : (j : Int) < (l.length : Int) := by omega
   have h6 : j < 1000000 := by have := HL.out; omega
   have HST := Aside0.mk (fine_step hlt)
   have HPV := Aside0.mk (fun hp : 0 < j => at_nt (NC.below HC.out HB.out) (j - 1) (by omega))
   obtain ⟨ad, rfl, y0, y1, y2⟩ := at_nt (NC.below HC.out HB.out) j hlt
   obtain ⟨x, hx⟩ : ∃ x, x = l.getD j z104 := ⟨_, rfl⟩
   rw [← hx] at y0 y1 y2 HST
   obtain ⟨g, hg⟩ : ∃ g, g = wr.heap.size := ⟨_, rfl⟩
   obtain ⟨w1, hw1⟩ : ∃ w1, w1 = wr.alloc (.cells #[.int .i64 0, .int .i64 0, .int .i64 0] 104) := ⟨_, rfl⟩
   obtain ⟨w2, hw2⟩ : ∃ w2, w2 = ((w1.setCell ⟨g, 0, none⟩ (.int .i64 x.f0.f0)).setCell ⟨g, 1, none⟩ (.int .i64 x.f0.f1)).setCell ⟨g, 2, none⟩ (.int .i64 x.f1) := ⟨_, rfl⟩
   have HT1 := Aside0.mk (show w1.heap[g]? = some (.cells #[.int .i64 0, .int .i64 0, .int .i64 0] 104 (0, 0)) by rw [hw1, hg]; exact Own.heap_new _ _)
   have HGE := Aside0.mk (show w.heap.size ≤ g by rw [hg]; exact HB.out.size)
   have HB2 := Aside0.mk (show Below w.heap.size w w2 by rw [hw2]; exact below_set3 (by rw [hw1]; exact below_alloc HB.out _) HGE.out _ _ _)
   have ht2 : w2.heap[g]? = some (.cells #[.int .i64 x.f0.f0, .int .i64 x.f0.f1, .int .i64 x.f1] 104 (0, 0)) := by rw [hw2]; exact set3 HT1.out _ _ _
   have HW1 := Aside0.mk hw1
   have HG1 := Aside0.mk hg
   have HW2 := Aside0.mk hw2
   have a0 : w1.cell? ⟨g, 0, none⟩ = some (.int .i64 0) := by rw [cell_of_row _ _ 0 _ _ _ HT1.out]; rfl
   have a1 : w1.cell? ⟨g, 1, none⟩ = some (.int .i64 0) := by rw [cell_of_row _ _ 1 _ _ _ HT1.out]; rfl
   have a2 : w1.cell? ⟨g, 2, none⟩ = some (.int .i64 0) := by rw [cell_of_row _ _ 2 _ _ _ HT1.out]; rfl
   have b0 : w1.frozen? ⟨g, 0, none⟩ = false := frozen_of_row _ _ 0 _ _ HT1.out
   have b1 : w1.frozen? ⟨g, 1, none⟩ = false := frozen_of_row _ _ 1 _ _ HT1.out
   have b2 : w1.frozen? ⟨g, 2, none⟩ = false := frozen_of_row _ _ 2 _ _ HT1.out
   have t0 : w2.cell? ⟨g, 0, none⟩ = some (.int .i64 x.f0.f0) := by rw [cell_of_row _ _ 0 _ _ _ ht2]; rfl
   have t1 : w2.cell? ⟨g, 1, none⟩ = some (.int .i64 x.f0.f1) := by rw [cell_of_row _ _ 1 _ _ _ ht2]; rfl
   have t2 : w2.cell? ⟨g, 2, none⟩ = some (.int .i64 x.f1) := by rw [cell_of_row _ _ 2 _ _ _ ht2]; rfl
   have HT2 := Aside0.mk ht2
   have HLT := Aside0.mk hlt
   clear hw1 hg hx hlt ht2 hw2
   by_cases hs : 0 ≤ x.f0.f0 ∧ x.f0.f0 ≤ x.f0.f1 ∧ x.f0.f1 ≤ 16777216
   ·have HSP := Aside0.mk hs
    obtain ⟨h1, h2, h3⟩ := hs
    go_wp2_with (first | rw [← HG1.out, ← HW1.out] | rw [← HW2.out])
    have HALL := Aside0.mk (fun (W : World) (hW : Below w2.heap.size w2 W) => (show W.cell? ⟨g, 0, none⟩ = some (.int .i64 x.f0.f0) ∧ W.cell? ⟨g, 1, none⟩ = some (.int .i64 x.f0.f1) ∧ W.cell? ⟨g, 2, none⟩ = some (.int .i64 x.f1) by
     have h := (hW.block g (Array.getElem?_eq_some_iff.1 HT2.out).1).trans HT2.out
     exact ⟨by rw [cell_of_row _ _ 0 _ _ _ h]; rfl, by rw [cell_of_row _ _ 1 _ _ _ h]; rfl, by rw [cell_of_row _ _ 2 _ _ _ h]; rfl⟩))
    have HBO := Aside0.mk HB2.out
    clear a0 a1 a2 b0 b1 b2 t0 t1 t2 y0 y1 y2 HB2 h1 h2 h3
    have HB2 := Aside0.mk (Below.refl w2.heap.size w2)
    by_cases c1 : 0 ≤ x.f1
    ·have d1 : ¬ x.f1 < 0 := by omega
     by_cases c2 : x.f1 ≤ 65536
     ·have d2 : ¬ 65536 < x.f1 := by omega
      have HOK := Aside0.mk (okX_yes HSP.out ⟨c1, c2⟩)
      by_cases hj0 : j = 0
      ·subst hj0
       have HST2 := Aside0.mk (show fineR (prevO l 1) (l.drop 1) = fineR none l by rw [← HO.out, HST.out, HOK.out]; rfl)
       clear HST HO
       refine start_ (n := 23) (S := fun w' => True) (ds := []) #[false, false, false, false, false, false, false, false, false, false, false, false, false, false, false, false, false, false, false, false, false, false, false] (by kernel_rfl) rfl rfl trivial (fun hHeld => ?_); refine with_tabW MsgF.tab5 MsgF.bits5 (fun HT_ HW_ => ?_)
       refine inv_at [0, 1, 2, 3, 4, 5, 6, 7, 8, 9, 10, 11, 12, 13, 14, 15, 16, 17, 18, 19, 20, 21, 22] (fun a0_ b a w' => a = putSel a0_ b [(0, 33, (.pointer (some ⟨g, 2, none⟩))), (1, 34, (.int .i64 x.f1)), (2, 35, (.bool false)), (3, 36, (.bool false)), (4, 37, (.pointer (some ⟨g, 2, none⟩))), (5, 38, (.int .i64 x.f1)), (6, 39, (.bool false)), (7, 40, (.bool false)), (8, 41, (.bool false)), (9, 42, (.int .i64 0)), (10, 43, (.bool false)), (11, 44, (.bool false)), (12, 45, undef), (13, 46, undef), (14, 47, undef), (15, 48, undef), (16, 49, undef), (17, 50, undef), (18, 51, undef), (19, 52, undef), (20, 53, (.bool false)), (21, 54, (.bool false)), (22, 32, (.bool false))] ∧ (Below w2.heap.size w2 w')) HT_.out HW_.out (by kernel_rfl) (by kernel_rfl) ?_ ?_ ?_
       ·exact ⟨by simp only [putSel, Bool.false_eq_true, if_false], below_drew1 HB2.out⟩
       ·skip
        clear HB2
        refine steps_cons ?_ ?_
        ·rintro b a w' ⟨ha, Q_HB2⟩ hb_ hon hoff
         refine ⟨_, rfl, fun K hK => ?_⟩
         have e4 : a.tmps[4]? = some ((.pointer (some ⟨g, 0, none⟩))) := by rw [ha]; exact (putSel_off rfl).trans rfl
         replace ha := Aside0.mk ha
         have HB2 := Aside0.mk Q_HB2
         refine value_ (w1 := w') (v := (.pointer (some ⟨g, 2, none⟩))) (by rfl) rfl ?_ ?_
         ·go_simp
          (try simp only [i64_w])
          try (first | rfl | assumption)
         refine hK.out _ _ ⟨(by rw [ha.out]; exact putSel_upk 0 hb_ rfl rfl rfl), Q_HB2⟩
        refine steps_cons ?_ ?_
        ·rintro b a w' ⟨ha, Q_HB2⟩ hb_ hon hoff
         refine ⟨_, rfl, fun K hK => ?_⟩
         have e33 : a.tmps[33]? = some ((.pointer (some ⟨g, 2, none⟩))) := by rw [ha]; exact putSel_on (e := (0, 33, (.pointer (some ⟨g, 2, none⟩)))) 0 rfl rfl (hon 0 (by kernel_rfl)) rfl
         replace ha := Aside0.mk ha
         have HB2 := Aside0.mk Q_HB2
         obtain ⟨x0_, x1_, x2_⟩ := HALL.out _ HB2.out
         refine value_ (w1 := w') (v := (.int .i64 x.f1)) (by rfl) rfl ?_ ?_
         ·go_simp
          (try simp only [i64_w])
          try (first | rfl | assumption)
         refine hK.out _ _ ⟨(by rw [ha.out]; exact putSel_upk 1 hb_ rfl rfl rfl), Q_HB2⟩
        refine steps_cons ?_ ?_
        ·rintro b a w' ⟨ha, Q_HB2⟩ hb_ hon hoff
         refine ⟨_, rfl, fun K hK => ?_⟩
         have e34 : a.tmps[34]? = some ((.int .i64 x.f1)) := by rw [ha]; exact putSel_on (e := (1, 34, (.int .i64 x.f1))) 1 rfl rfl (hon 1 (by kernel_rfl)) rfl
         replace ha := Aside0.mk ha
         have HB2 := Aside0.mk Q_HB2
         refine value_ (w1 := w') (v := (.bool false)) (by rfl) rfl ?_ ?_
         ·go_simp
          (try simp only [i64_w])
          try (first | rfl | assumption)
         refine hK.out _ _ ⟨(by rw [ha.out]; exact putSel_upk 2 hb_ rfl rfl rfl), Q_HB2⟩
        refine steps_cons ?_ ?_
        ·rintro b a w' ⟨ha, Q_HB2⟩ hb_ hon hoff
         refine ⟨_, rfl, fun K hK => ?_⟩
         have e35 : a.tmps[35]? = some ((.bool false)) := by rw [ha]; exact putSel_on (e := (2, 35, (.bool false))) 2 rfl rfl (hon 2 (by kernel_rfl)) rfl
         replace ha := Aside0.mk ha
         have HB2 := Aside0.mk Q_HB2
         refine value_ (w1 := w') (v := (.bool false)) (by rfl) rfl ?_ ?_
         ·go_simp
          (try simp only [i64_w])
          try (first | rfl | assumption)
         refine hK.out _ _ ⟨(by rw [ha.out]; exact putSel_upk 3 hb_ rfl rfl rfl), Q_HB2⟩
        refine steps_cons ?_ ?_
        ·rintro b a w' ⟨ha, Q_HB2⟩ hb_ hon hoff
         refine ⟨_, rfl, fun K hK => ?_⟩
         have e4 : a.tmps[4]? = some ((.pointer (some ⟨g, 0, none⟩))) := by rw [ha]; exact (putSel_off rfl).trans rfl
         have e36 : a.tmps[36]? = some ((.bool false)) := by rw [ha]; exact putSel_on (e := (3, 36, (.bool false))) 3 rfl rfl (hon 3 (by kernel_rfl)) rfl
         replace ha := Aside0.mk ha
         have HB2 := Aside0.mk Q_HB2
         refine value_ (w1 := w') (v := (.pointer (some ⟨g, 2, none⟩))) (wanted_on rfl rfl rfl (e36.trans (by first | rfl | (simp [*]; done)))) rfl ?_ ?_
         ·go_simp
          (try simp only [i64_w])
          try (first | rfl | assumption)
         refine hK.out _ _ ⟨(by rw [ha.out]; exact putSel_upk 4 hb_ rfl rfl rfl), Q_HB2⟩
        refine steps_cons ?_ ?_
        ·rintro b a w' ⟨ha, Q_HB2⟩ hb_ hon hoff
         refine ⟨_, rfl, fun K hK => ?_⟩
         have e37 : a.tmps[37]? = some ((.pointer (some ⟨g, 2, none⟩))) := by rw [ha]; exact putSel_on (e := (4, 37, (.pointer (some ⟨g, 2, none⟩)))) 4 rfl rfl (hon 4 (by kernel_rfl)) rfl
         have e36 : a.tmps[36]? = some ((.bool false)) := by rw [ha]; exact putSel_on (e := (3, 36, (.bool false))) 3 rfl rfl (hon 3 (by kernel_rfl)) rfl
         replace ha := Aside0.mk ha
         have HB2 := Aside0.mk Q_HB2
         obtain ⟨x0_, x1_, x2_⟩ := HALL.out _ HB2.out
         refine value_ (w1 := w') (v := (.int .i64 x.f1)) (wanted_on rfl rfl rfl (e36.trans (by first | rfl | (simp [*]; done)))) rfl ?_ ?_
         ·go_simp
          (try simp only [i64_w])
          try (first | rfl | assumption)
         refine hK.out _ _ ⟨(by rw [ha.out]; exact putSel_upk 5 hb_ rfl rfl rfl), Q_HB2⟩
        refine steps_cons ?_ ?_
        ·rintro b a w' ⟨ha, Q_HB2⟩ hb_ hon hoff
         refine ⟨_, rfl, fun K hK => ?_⟩
         have e38 : a.tmps[38]? = some ((.int .i64 x.f1)) := by rw [ha]; exact putSel_on (e := (5, 38, (.int .i64 x.f1))) 5 rfl rfl (hon 5 (by kernel_rfl)) rfl
         have e36 : a.tmps[36]? = some ((.bool false)) := by rw [ha]; exact putSel_on (e := (3, 36, (.bool false))) 3 rfl rfl (hon 3 (by kernel_rfl)) rfl
         replace ha := Aside0.mk ha
         have HB2 := Aside0.mk Q_HB2
         refine value_ (w1 := w') (v := (.bool false)) (wanted_on rfl rfl rfl (e36.trans (by first | rfl | (simp [*]; done)))) rfl ?_ ?_
         ·go_simp
          (try simp only [i64_w])
          try (first | rfl | assumption)
         refine hK.out _ _ ⟨(by rw [ha.out]; exact putSel_upk 6 hb_ rfl rfl rfl), Q_HB2⟩
        refine steps_cons ?_ ?_
        ·rintro b a w' ⟨ha, Q_HB2⟩ hb_ hon hoff
         refine ⟨_, rfl, fun K hK => ?_⟩
         have e36 : a.tmps[36]? = some ((.bool false)) := by rw [ha]; exact putSel_on (e := (3, 36, (.bool false))) 3 rfl rfl (hon 3 (by kernel_rfl)) rfl
         have e39 : a.tmps[39]? = some ((.bool false)) := by rw [ha]; exact putSel_on (e := (6, 39, (.bool false))) 6 rfl rfl (hon 6 (by kernel_rfl)) rfl
         replace ha := Aside0.mk ha
         have HB2 := Aside0.mk Q_HB2
         refine value_ (w1 := w') (v := (.bool false)) (by rfl) rfl ?_ ?_
         ·go_simp
          (try simp only [i64_w])
          try (first | rfl | assumption)
         refine hK.out _ _ ⟨(by rw [ha.out]; exact putSel_upk 7 hb_ rfl rfl rfl), Q_HB2⟩
        refine steps_cons ?_ ?_
        ·rintro b a w' ⟨ha, Q_HB2⟩ hb_ hon hoff
         refine ⟨_, rfl, fun K hK => ?_⟩
         have e40 : a.tmps[40]? = some ((.bool false)) := by rw [ha]; exact putSel_on (e := (7, 40, (.bool false))) 7 rfl rfl (hon 7 (by kernel_rfl)) rfl
         replace ha := Aside0.mk ha
         have HB2 := Aside0.mk Q_HB2
         refine value_ (w1 := w') (v := (.bool false)) (by rfl) rfl ?_ ?_
         ·go_simp
          (try simp only [i64_w])
          try (first | rfl | assumption)
         refine hK.out _ _ ⟨(by rw [ha.out]; exact putSel_upk 8 hb_ rfl rfl rfl), Q_HB2⟩
        refine steps_cons ?_ ?_
        ·rintro b a w' ⟨ha, Q_HB2⟩ hb_ hon hoff
         refine ⟨_, rfl, fun K hK => ?_⟩
         have e3 : a.tmps[3]? = some ((.int .i64 0)) := by rw [ha]; exact (putSel_off rfl).trans rfl
         have e41 : a.tmps[41]? = some ((.bool false)) := by rw [ha]; exact putSel_on (e := (8, 41, (.bool false))) 8 rfl rfl (hon 8 (by kernel_rfl)) rfl
         replace ha := Aside0.mk ha
         have HB2 := Aside0.mk Q_HB2
         refine value_ (w1 := w') (v := (.int .i64 0)) (wanted_on rfl rfl rfl (e41.trans (by first | rfl | (simp [*]; done)))) rfl ?_ ?_
         ·go_simp
          (try simp only [i64_w])
          try (first | rfl | assumption)
         refine hK.out _ _ ⟨(by rw [ha.out]; exact putSel_upk 9 hb_ rfl rfl rfl), Q_HB2⟩
        refine steps_cons ?_ ?_
        ·rintro b a w' ⟨ha, Q_HB2⟩ hb_ hon hoff
         refine ⟨_, rfl, fun K hK => ?_⟩
         have e42 : a.tmps[42]? = some ((.int .i64 0)) := by rw [ha]; exact putSel_on (e := (9, 42, (.int .i64 0))) 9 rfl rfl (hon 9 (by kernel_rfl)) rfl
         have e41 : a.tmps[41]? = some ((.bool false)) := by rw [ha]; exact putSel_on (e := (8, 41, (.bool false))) 8 rfl rfl (hon 8 (by kernel_rfl)) rfl
         replace ha := Aside0.mk ha
         have HB2 := Aside0.mk Q_HB2
         refine value_ (w1 := w') (v := (.bool false)) (wanted_on rfl rfl rfl (e41.trans (by first | rfl | (simp [*]; done)))) rfl ?_ ?_
         ·go_simp
          (try simp only [i64_w])
          try (first | rfl | assumption)
         refine hK.out _ _ ⟨(by rw [ha.out]; exact putSel_upk 10 hb_ rfl rfl rfl), Q_HB2⟩
        refine steps_cons ?_ ?_
        ·rintro b a w' ⟨ha, Q_HB2⟩ hb_ hon hoff
         refine ⟨_, rfl, fun K hK => ?_⟩
         have e43 : a.tmps[43]? = some ((.bool false)) := by rw [ha]; exact putSel_on (e := (10, 43, (.bool false))) 10 rfl rfl (hon 10 (by kernel_rfl)) rfl
         have e41 : a.tmps[41]? = some ((.bool false)) := by rw [ha]; exact putSel_on (e := (8, 41, (.bool false))) 8 rfl rfl (hon 8 (by kernel_rfl)) rfl
         replace ha := Aside0.mk ha
         have HB2 := Aside0.mk Q_HB2
         refine value_ (w1 := w') (v := (.bool false)) (wanted_on rfl rfl rfl (e41.trans (by first | rfl | (simp [*]; done)))) rfl ?_ ?_
         ·go_simp
          (try simp only [i64_w])
          try (first | rfl | assumption)
         refine hK.out _ _ ⟨(by rw [ha.out]; exact putSel_upk 11 hb_ rfl rfl rfl), Q_HB2⟩
        refine steps_cons ?_ ?_
        ·rintro b a w' ⟨ha, Q_HB2⟩ hb_ hon hoff
         refine ⟨_, rfl, fun K hK => ?_⟩
         have e44 : a.tmps[44]? = some ((.bool false)) := by rw [ha]; exact putSel_on (e := (11, 44, (.bool false))) 11 rfl rfl (hon 11 (by kernel_rfl)) rfl
         replace ha := Aside0.mk ha
         have HB2 := Aside0.mk Q_HB2
         refine off_ (wanted_off rfl rfl rfl (e44.trans (by first | rfl | (simp [*]; done)))) ?_
         refine hK.out _ _ ⟨(by rw [ha.out]; exact putSel_upk 12 hb_ rfl rfl rfl), Q_HB2⟩
        refine steps_cons ?_ ?_
        ·rintro b a w' ⟨ha, Q_HB2⟩ hb_ hon hoff
         refine ⟨_, rfl, fun K hK => ?_⟩
         have e44 : a.tmps[44]? = some ((.bool false)) := by rw [ha]; exact putSel_on (e := (11, 44, (.bool false))) 11 rfl rfl (hon 11 (by kernel_rfl)) rfl
         replace ha := Aside0.mk ha
         have HB2 := Aside0.mk Q_HB2
         refine off_ (wanted_off rfl rfl rfl (e44.trans (by first | rfl | (simp [*]; done)))) ?_
         refine hK.out _ _ ⟨(by rw [ha.out]; exact putSel_upk 13 hb_ rfl rfl rfl), Q_HB2⟩
        refine steps_cons ?_ ?_
        ·rintro b a w' ⟨ha, Q_HB2⟩ hb_ hon hoff
         refine ⟨_, rfl, fun K hK => ?_⟩
         have e44 : a.tmps[44]? = some ((.bool false)) := by rw [ha]; exact putSel_on (e := (11, 44, (.bool false))) 11 rfl rfl (hon 11 (by kernel_rfl)) rfl
         replace ha := Aside0.mk ha
         have HB2 := Aside0.mk Q_HB2
         refine off_ (wanted_off rfl rfl rfl (e44.trans (by first | rfl | (simp [*]; done)))) ?_
         refine hK.out _ _ ⟨(by rw [ha.out]; exact putSel_upk 14 hb_ rfl rfl rfl), Q_HB2⟩
        refine steps_cons ?_ ?_
        ·rintro b a w' ⟨ha, Q_HB2⟩ hb_ hon hoff
         refine ⟨_, rfl, fun K hK => ?_⟩
         have e44 : a.tmps[44]? = some ((.bool false)) := by rw [ha]; exact putSel_on (e := (11, 44, (.bool false))) 11 rfl rfl (hon 11 (by kernel_rfl)) rfl
         replace ha := Aside0.mk ha
         have HB2 := Aside0.mk Q_HB2
         refine off_ (wanted_off rfl rfl rfl (e44.trans (by first | rfl | (simp [*]; done)))) ?_
         refine hK.out _ _ ⟨(by rw [ha.out]; exact putSel_upk 15 hb_ rfl rfl rfl), Q_HB2⟩
        refine steps_cons ?_ ?_
        ·rintro b a w' ⟨ha, Q_HB2⟩ hb_ hon hoff
         refine ⟨_, rfl, fun K hK => ?_⟩
         have e44 : a.tmps[44]? = some ((.bool false)) := by rw [ha]; exact putSel_on (e := (11, 44, (.bool false))) 11 rfl rfl (hon 11 (by kernel_rfl)) rfl
         replace ha := Aside0.mk ha
         have HB2 := Aside0.mk Q_HB2
         refine off_ (wanted_off rfl rfl rfl (e44.trans (by first | rfl | (simp [*]; done)))) ?_
         refine hK.out _ _ ⟨(by rw [ha.out]; exact putSel_upk 16 hb_ rfl rfl rfl), Q_HB2⟩
        refine steps_cons ?_ ?_
        ·rintro b a w' ⟨ha, Q_HB2⟩ hb_ hon hoff
         refine ⟨_, rfl, fun K hK => ?_⟩
         have e44 : a.tmps[44]? = some ((.bool false)) := by rw [ha]; exact putSel_on (e := (11, 44, (.bool false))) 11 rfl rfl (hon 11 (by kernel_rfl)) rfl
         replace ha := Aside0.mk ha
         have HB2 := Aside0.mk Q_HB2
         refine off_ (wanted_off rfl rfl rfl (e44.trans (by first | rfl | (simp [*]; done)))) ?_
         refine hK.out _ _ ⟨(by rw [ha.out]; exact putSel_upk 17 hb_ rfl rfl rfl), Q_HB2⟩
        refine steps_cons ?_ ?_
        ·rintro b a w' ⟨ha, Q_HB2⟩ hb_ hon hoff
         refine ⟨_, rfl, fun K hK => ?_⟩
         have e44 : a.tmps[44]? = some ((.bool false)) := by rw [ha]; exact putSel_on (e := (11, 44, (.bool false))) 11 rfl rfl (hon 11 (by kernel_rfl)) rfl
         replace ha := Aside0.mk ha
         have HB2 := Aside0.mk Q_HB2
         refine off_ (wanted_off rfl rfl rfl (e44.trans (by first | rfl | (simp [*]; done)))) ?_
         refine hK.out _ _ ⟨(by rw [ha.out]; exact putSel_upk 18 hb_ rfl rfl rfl), Q_HB2⟩
        refine steps_cons ?_ ?_
        ·rintro b a w' ⟨ha, Q_HB2⟩ hb_ hon hoff
         refine ⟨_, rfl, fun K hK => ?_⟩
         have e44 : a.tmps[44]? = some ((.bool false)) := by rw [ha]; exact putSel_on (e := (11, 44, (.bool false))) 11 rfl rfl (hon 11 (by kernel_rfl)) rfl
         replace ha := Aside0.mk ha
         have HB2 := Aside0.mk Q_HB2
         refine off_ (wanted_off rfl rfl rfl (e44.trans (by first | rfl | (simp [*]; done)))) ?_
         refine hK.out _ _ ⟨(by rw [ha.out]; exact putSel_upk 19 hb_ rfl rfl rfl), Q_HB2⟩
        refine steps_cons ?_ ?_
        ·rintro b a w' ⟨ha, Q_HB2⟩ hb_ hon hoff
         refine ⟨_, rfl, fun K hK => ?_⟩
         have e44 : a.tmps[44]? = some ((.bool false)) := by rw [ha]; exact putSel_on (e := (11, 44, (.bool false))) 11 rfl rfl (hon 11 (by kernel_rfl)) rfl
         have e52 : a.tmps[52]? = some (undef) := by rw [ha]; exact putSel_on (e := (19, 52, undef)) 19 rfl rfl (hon 19 (by kernel_rfl)) rfl
         have e41 : a.tmps[41]? = some ((.bool false)) := by rw [ha]; exact putSel_on (e := (8, 41, (.bool false))) 8 rfl rfl (hon 8 (by kernel_rfl)) rfl
         replace ha := Aside0.mk ha
         have HB2 := Aside0.mk Q_HB2
         refine value_ (w1 := w') (v := (.bool false)) (wanted_on rfl rfl rfl (e41.trans (by first | rfl | (simp [*]; done)))) rfl ?_ ?_
         ·go_simp
          (try simp only [i64_w])
          try (first | rfl | assumption)
         refine hK.out _ _ ⟨(by rw [ha.out]; exact putSel_upk 20 hb_ rfl rfl rfl), Q_HB2⟩
        refine steps_cons ?_ ?_
        ·rintro b a w' ⟨ha, Q_HB2⟩ hb_ hon hoff
         refine ⟨_, rfl, fun K hK => ?_⟩
         have e41 : a.tmps[41]? = some ((.bool false)) := by rw [ha]; exact putSel_on (e := (8, 41, (.bool false))) 8 rfl rfl (hon 8 (by kernel_rfl)) rfl
         have e53 : a.tmps[53]? = some ((.bool false)) := by rw [ha]; exact putSel_on (e := (20, 53, (.bool false))) 20 rfl rfl (hon 20 (by kernel_rfl)) rfl
         replace ha := Aside0.mk ha
         have HB2 := Aside0.mk Q_HB2
         refine value_ (w1 := w') (v := (.bool false)) (by rfl) rfl ?_ ?_
         ·go_simp
          (try simp only [i64_w])
          try (first | rfl | assumption)
         refine hK.out _ _ ⟨(by rw [ha.out]; exact putSel_upk 21 hb_ rfl rfl rfl), Q_HB2⟩
        refine steps_cons ?_ ?_
        ·rintro b a w' ⟨ha, Q_HB2⟩ hb_ hon hoff
         refine ⟨_, rfl, fun K hK => ?_⟩
         have e54 : a.tmps[54]? = some ((.bool false)) := by rw [ha]; exact putSel_on (e := (21, 54, (.bool false))) 21 rfl rfl (hon 21 (by kernel_rfl)) rfl
         replace ha := Aside0.mk ha
         have HB2 := Aside0.mk Q_HB2
         refine value_ (w1 := w') (v := (.bool false)) (by rfl) rfl ?_ ?_
         ·go_simp
          (try simp only [i64_w])
          try (first | rfl | assumption)
         refine hK.out _ _ ⟨(by rw [ha.out]; exact putSel_upk 22 hb_ rfl rfl rfl), Q_HB2⟩
        exact steps_nil
       rintro b a we hall ⟨ha, Q_HB2⟩
       clear HB2
       have hb0_ := hall 0 (by kernel_rfl)
       have hb1_ := hall 1 (by kernel_rfl)
       have hb2_ := hall 2 (by kernel_rfl)
       have hb3_ := hall 3 (by kernel_rfl)
       have hb4_ := hall 4 (by kernel_rfl)
       have hb5_ := hall 5 (by kernel_rfl)
       have hb6_ := hall 6 (by kernel_rfl)
       have hb7_ := hall 7 (by kernel_rfl)
       have hb8_ := hall 8 (by kernel_rfl)
       have hb9_ := hall 9 (by kernel_rfl)
       have hb10_ := hall 10 (by kernel_rfl)
       have hb11_ := hall 11 (by kernel_rfl)
       have hb12_ := hall 12 (by kernel_rfl)
       have hb13_ := hall 13 (by kernel_rfl)
       have hb14_ := hall 14 (by kernel_rfl)
       have hb15_ := hall 15 (by kernel_rfl)
       have hb16_ := hall 16 (by kernel_rfl)
       have hb17_ := hall 17 (by kernel_rfl)
       have hb18_ := hall 18 (by kernel_rfl)
       have hb19_ := hall 19 (by kernel_rfl)
       have hb20_ := hall 20 (by kernel_rfl)
       have hb21_ := hall 21 (by kernel_rfl)
       have hb22_ := hall 22 (by kernel_rfl)
       subst ha
       simp only [putSel, hb0_, hb1_, hb2_, hb3_, hb4_, hb5_, hb6_, hb7_, hb8_, hb9_, hb10_, hb11_, hb12_, hb13_, hb14_, hb15_, hb16_, hb17_, hb18_, hb19_, hb20_, hb21_, hb22_, if_true, Act.put, List.setIfInBounds_toArray, List.set_cons_zero, List.set_cons_succ]
       have HB2 := Aside0.mk Q_HB2
       clear Q_HB2
       clear hall hb0_ hb1_ hb2_ hb3_ hb4_ hb5_ hb6_ hb7_ hb8_ hb9_ hb10_ hb11_ hb12_ hb13_ hb14_ hb15_ hb16_ hb17_ hb18_ hb19_ hb20_ hb21_ hb22_
       go_wp2_with fail
       go_roundw
       case rel => exact ⟨1, by have := HLT.out; omega, rfl, HST2.out, below_step HBO.out HB2.out⟩
       case measure => simp [intOf]; have := HLT.out; omega
      ·obtain ⟨i, rfl⟩ : ∃ i, j = i + 1 := ⟨j - 1, by omega⟩
       have HJI := Aside0.mk (show (((i + 1 : Nat) : Int)) = (i : Int) + 1 by omega)
       obtain ⟨y, hy⟩ : ∃ y, y = l.getD i z104 := ⟨_, rfl⟩
       have HPV := Aside0.mk (show prevO l (i + 1) = some y by rw [prevO_pos (by omega), hy]; rfl)
       obtain ⟨P, hP⟩ : ∃ P, P = ad.add (i * 3) := ⟨_, rfl⟩
       have HPRE := Aside0.mk (fun (W : World) (hW : Below w2.heap.size w2 W) => (show W.cell? P = some (.int .i64 y.f0.f0) ∧ W.cell? ⟨P.block, P.off + 1, none⟩ = some (.int .i64 y.f0.f1) ∧ W.cell? ⟨P.block, P.off + 2, none⟩ = some (.int .i64 y.f1) by
        obtain ⟨ad2, e2, q0, q1, q2⟩ := at_nt (NC.below HC.out (below_step HBO.out hW)) i (by have := HLT.out; omega)
        obtain rfl := Option.some.inj e2
        rw [hy, hP]
        exact ⟨q0, q1, q2⟩))
       have eP : ad.add (i * 3) = P := hP.symm
       have hi1 : (i : Int) < (l.length : Int) := by have := HLT.out; omega
       have hsub : wrap64 ((i : Int) + 1 - 1) = (i : Int) := by unfold wrap64; omega
       have hsub2 : wrap64 (i : Int) = (i : Int) := by unfold wrap64; omega
       have hpos : (0 : Int) < (i : Int) + 1 := by omega
       obtain ⟨bq, hbq⟩ : ∃ bq, bq = lessN y x := ⟨_, rfl⟩
       have HLE := Aside0.mk (fun W => less_c y x W)
       rw [← hbq] at HLE
       have HBB := Aside0.mk hbq
       clear hP hy hbq hj0
       rw [HJI.out]
       refine start_ (n := 23) (S := fun w' => True) (ds := []) #[false, false, false, false, false, false, false, false, false, false, false, false, false, false, false, false, false, false, false, false, false, false, false] (by kernel_rfl) rfl rfl trivial (fun hHeld => ?_); refine with_tabW MsgF.tab5 MsgF.bits5 (fun HT_ HW_ => ?_)
       refine inv_at [0, 1, 2, 3, 4, 5, 6, 7, 8, 9, 10, 11, 12, 13, 14, 15, 16, 17, 18, 19, 20, 21, 22] (fun a0_ b a w' => a = putSel a0_ b [(0, 33, (.pointer (some ⟨g, 2, none⟩))), (1, 34, (.int .i64 x.f1)), (2, 35, (.bool false)), (3, 36, (.bool false)), (4, 37, (.pointer (some ⟨g, 2, none⟩))), (5, 38, (.int .i64 x.f1)), (6, 39, (.bool false)), (7, 40, (.bool false)), (8, 41, (.bool false)), (9, 42, (.int .i64 ((i : Int) + 1))), (10, 43, (.bool true)), (11, 44, (.bool true)), (12, 45, (.slice (some ad) l.length c)), (13, 46, (.int .i64 ((i : Int) + 1))), (14, 47, (.int .i64 (i : Int))), (15, 48, (.pointer (some P))), (16, 49, (.agg #[.int .i64 y.f0.f0, .int .i64 y.f0.f1, .int .i64 y.f1])), (17, 50, (.agg #[.int .i64 x.f0.f0, .int .i64 x.f0.f1, .int .i64 x.f1])), (18, 51, (.bool bq)), (19, 52, (.bool (!bq))), (20, 53, (.bool (!bq))), (21, 54, (.bool (!bq))), (22, 32, (.bool (!bq)))] ∧ (Below w2.heap.size w2 w')) HT_.out HW_.out (by kernel_rfl) (by kernel_rfl) ?_ ?_ ?_
       ·exact ⟨by simp only [putSel, Bool.false_eq_true, if_false], below_drew1 HB2.out⟩
       ·skip
        clear HB2
        refine steps_cons ?_ ?_
        ·rintro b a w' ⟨ha, Q_HB2⟩ hb_ hon hoff
         refine ⟨_, rfl, fun K hK => ?_⟩
         have e4 : a.tmps[4]? = some ((.pointer (some ⟨g, 0, none⟩))) := by rw [ha]; exact (putSel_off rfl).trans rfl
         replace ha := Aside0.mk ha
         have HB2 := Aside0.mk Q_HB2
         refine value_ (w1 := w') (v := (.pointer (some ⟨g, 2, none⟩))) (by rfl) rfl ?_ ?_
         ·go_simp
          (try simp only [i64_w])
          try (first | rfl | assumption)
         refine hK.out _ _ ⟨(by rw [ha.out]; exact putSel_upk 0 hb_ rfl rfl rfl), Q_HB2⟩
        refine steps_cons ?_ ?_
        ·rintro b a w' ⟨ha, Q_HB2⟩ hb_ hon hoff
         refine ⟨_, rfl, fun K hK => ?_⟩
         have e33 : a.tmps[33]? = some ((.pointer (some ⟨g, 2, none⟩))) := by rw [ha]; exact putSel_on (e := (0, 33, (.pointer (some ⟨g, 2, none⟩)))) 0 rfl rfl (hon 0 (by kernel_rfl)) rfl
         replace ha := Aside0.mk ha
         have HB2 := Aside0.mk Q_HB2
         obtain ⟨x0_, x1_, x2_⟩ := HALL.out _ HB2.out
         refine value_ (w1 := w') (v := (.int .i64 x.f1)) (by rfl) rfl ?_ ?_
         ·go_simp
          (try simp only [i64_w])
          try (first | rfl | assumption)
         refine hK.out _ _ ⟨(by rw [ha.out]; exact putSel_upk 1 hb_ rfl rfl rfl), Q_HB2⟩
        refine steps_cons ?_ ?_
        ·rintro b a w' ⟨ha, Q_HB2⟩ hb_ hon hoff
         refine ⟨_, rfl, fun K hK => ?_⟩
         have e34 : a.tmps[34]? = some ((.int .i64 x.f1)) := by rw [ha]; exact putSel_on (e := (1, 34, (.int .i64 x.f1))) 1 rfl rfl (hon 1 (by kernel_rfl)) rfl
         replace ha := Aside0.mk ha
         have HB2 := Aside0.mk Q_HB2
         refine value_ (w1 := w') (v := (.bool false)) (by rfl) rfl ?_ ?_
         ·go_simp
          (try simp only [i64_w])
          try (first | rfl | assumption)
         refine hK.out _ _ ⟨(by rw [ha.out]; exact putSel_upk 2 hb_ rfl rfl rfl), Q_HB2⟩
        refine steps_cons ?_ ?_
        ·rintro b a w' ⟨ha, Q_HB2⟩ hb_ hon hoff
         refine ⟨_, rfl, fun K hK => ?_⟩
         have e35 : a.tmps[35]? = some ((.bool false)) := by rw [ha]; exact putSel_on (e := (2, 35, (.bool false))) 2 rfl rfl (hon 2 (by kernel_rfl)) rfl
         replace ha := Aside0.mk ha
         have HB2 := Aside0.mk Q_HB2
         refine value_ (w1 := w') (v := (.bool false)) (by rfl) rfl ?_ ?_
         ·go_simp
          (try simp only [i64_w])
          try (first | rfl | assumption)
         refine hK.out _ _ ⟨(by rw [ha.out]; exact putSel_upk 3 hb_ rfl rfl rfl), Q_HB2⟩
        refine steps_cons ?_ ?_
        ·rintro b a w' ⟨ha, Q_HB2⟩ hb_ hon hoff
         refine ⟨_, rfl, fun K hK => ?_⟩
         have e4 : a.tmps[4]? = some ((.pointer (some ⟨g, 0, none⟩))) := by rw [ha]; exact (putSel_off rfl).trans rfl
         have e36 : a.tmps[36]? = some ((.bool false)) := by rw [ha]; exact putSel_on (e := (3, 36, (.bool false))) 3 rfl rfl (hon 3 (by kernel_rfl)) rfl
         replace ha := Aside0.mk ha
         have HB2 := Aside0.mk Q_HB2
         refine value_ (w1 := w') (v := (.pointer (some ⟨g, 2, none⟩))) (wanted_on rfl rfl rfl (e36.trans (by first | rfl | (simp [*]; done)))) rfl ?_ ?_
         ·go_simp
          (try simp only [i64_w])
          try (first | rfl | assumption)
         refine hK.out _ _ ⟨(by rw [ha.out]; exact putSel_upk 4 hb_ rfl rfl rfl), Q_HB2⟩
        refine steps_cons ?_ ?_
        ·rintro b a w' ⟨ha, Q_HB2⟩ hb_ hon hoff
         refine ⟨_, rfl, fun K hK => ?_⟩
         have e37 : a.tmps[37]? = some ((.pointer (some ⟨g, 2, none⟩))) := by rw [ha]; exact putSel_on (e := (4, 37, (.pointer (some ⟨g, 2, none⟩)))) 4 rfl rfl (hon 4 (by kernel_rfl)) rfl
         have e36 : a.tmps[36]? = some ((.bool false)) := by rw [ha]; exact putSel_on (e := (3, 36, (.bool false))) 3 rfl rfl (hon 3 (by kernel_rfl)) rfl
         replace ha := Aside0.mk ha
         have HB2 := Aside0.mk Q_HB2
         obtain ⟨x0_, x1_, x2_⟩ := HALL.out _ HB2.out
         refine value_ (w1 := w') (v := (.int .i64 x.f1)) (wanted_on rfl rfl rfl (e36.trans (by first | rfl | (simp [*]; done)))) rfl ?_ ?_
         ·go_simp
          (try simp only [i64_w])
          try (first | rfl | assumption)
         refine hK.out _ _ ⟨(by rw [ha.out]; exact putSel_upk 5 hb_ rfl rfl rfl), Q_HB2⟩
        refine steps_cons ?_ ?_
        ·rintro b a w' ⟨ha, Q_HB2⟩ hb_ hon hoff
         refine ⟨_, rfl, fun K hK => ?_⟩
         have e38 : a.tmps[38]? = some ((.int .i64 x.f1)) := by rw [ha]; exact putSel_on (e := (5, 38, (.int .i64 x.f1))) 5 rfl rfl (hon 5 (by kernel_rfl)) rfl
         have e36 : a.tmps[36]? = some ((.bool false)) := by rw [ha]; exact putSel_on (e := (3, 36, (.bool false))) 3 rfl rfl (hon 3 (by kernel_rfl)) rfl
         replace ha := Aside0.mk ha
         have HB2 := Aside0.mk Q_HB2
         refine value_ (w1 := w') (v := (.bool false)) (wanted_on rfl rfl rfl (e36.trans (by first | rfl | (simp [*]; done)))) rfl ?_ ?_
         ·go_simp
          (try simp only [i64_w])
          try (first | rfl | assumption)
         refine hK.out _ _ ⟨(by rw [ha.out]; exact putSel_upk 6 hb_ rfl rfl rfl), Q_HB2⟩
        refine steps_cons ?_ ?_
        ·rintro b a w' ⟨ha, Q_HB2⟩ hb_ hon hoff
         refine ⟨_, rfl, fun K hK => ?_⟩
         have e36 : a.tmps[36]? = some ((.bool false)) := by rw [ha]; exact putSel_on (e := (3, 36, (.bool false))) 3 rfl rfl (hon 3 (by kernel_rfl)) rfl
         have e39 : a.tmps[39]? = some ((.bool false)) := by rw [ha]; exact putSel_on (e := (6, 39, (.bool false))) 6 rfl rfl (hon 6 (by kernel_rfl)) rfl
         replace ha := Aside0.mk ha
         have HB2 := Aside0.mk Q_HB2
         refine value_ (w1 := w') (v := (.bool false)) (by rfl) rfl ?_ ?_
         ·go_simp
          (try simp only [i64_w])
          try (first | rfl | assumption)
         refine hK.out _ _ ⟨(by rw [ha.out]; exact putSel_upk 7 hb_ rfl rfl rfl), Q_HB2⟩
        refine steps_cons ?_ ?_
        ·rintro b a w' ⟨ha, Q_HB2⟩ hb_ hon hoff
         refine ⟨_, rfl, fun K hK => ?_⟩
         have e40 : a.tmps[40]? = some ((.bool false)) := by rw [ha]; exact putSel_on (e := (7, 40, (.bool false))) 7 rfl rfl (hon 7 (by kernel_rfl)) rfl
         replace ha := Aside0.mk ha
         have HB2 := Aside0.mk Q_HB2
         refine value_ (w1 := w') (v := (.bool false)) (by rfl) rfl ?_ ?_
         ·go_simp
          (try simp only [i64_w])
          try (first | rfl | assumption)
         refine hK.out _ _ ⟨(by rw [ha.out]; exact putSel_upk 8 hb_ rfl rfl rfl), Q_HB2⟩
        refine steps_cons ?_ ?_
        ·rintro b a w' ⟨ha, Q_HB2⟩ hb_ hon hoff
         refine ⟨_, rfl, fun K hK => ?_⟩
         have e3 : a.tmps[3]? = some ((.int .i64 ((i : Int) + 1))) := by rw [ha]; exact (putSel_off rfl).trans rfl
         have e41 : a.tmps[41]? = some ((.bool false)) := by rw [ha]; exact putSel_on (e := (8, 41, (.bool false))) 8 rfl rfl (hon 8 (by kernel_rfl)) rfl
         replace ha := Aside0.mk ha
         have HB2 := Aside0.mk Q_HB2
         refine value_ (w1 := w') (v := (.int .i64 ((i : Int) + 1))) (wanted_on rfl rfl rfl (e41.trans (by first | rfl | (simp [*]; done)))) rfl ?_ ?_
         ·go_simp
          (try simp only [i64_w])
          try (first | rfl | assumption)
         refine hK.out _ _ ⟨(by rw [ha.out]; exact putSel_upk 9 hb_ rfl rfl rfl), Q_HB2⟩
        refine steps_cons ?_ ?_
        ·rintro b a w' ⟨ha, Q_HB2⟩ hb_ hon hoff
         refine ⟨_, rfl, fun K hK => ?_⟩
         have e42 : a.tmps[42]? = some ((.int .i64 ((i : Int) + 1))) := by rw [ha]; exact putSel_on (e := (9, 42, (.int .i64 ((i : Int) + 1)))) 9 rfl rfl (hon 9 (by kernel_rfl)) rfl
         have e41 : a.tmps[41]? = some ((.bool false)) := by rw [ha]; exact putSel_on (e := (8, 41, (.bool false))) 8 rfl rfl (hon 8 (by kernel_rfl)) rfl
         replace ha := Aside0.mk ha
         have HB2 := Aside0.mk Q_HB2
         refine value_ (w1 := w') (v := (.bool true)) (wanted_on rfl rfl rfl (e41.trans (by first | rfl | (simp [*]; done)))) rfl ?_ ?_
         ·go_simp
          (try simp only [i64_w])
          try (first | rfl | assumption)
         refine hK.out _ _ ⟨(by rw [ha.out]; exact putSel_upk 10 hb_ rfl rfl rfl), Q_HB2⟩
        refine steps_cons ?_ ?_
        ·rintro b a w' ⟨ha, Q_HB2⟩ hb_ hon hoff
         refine ⟨_, rfl, fun K hK => ?_⟩
         have e43 : a.tmps[43]? = some ((.bool true)) := by rw [ha]; exact putSel_on (e := (10, 43, (.bool true))) 10 rfl rfl (hon 10 (by kernel_rfl)) rfl
         have e41 : a.tmps[41]? = some ((.bool false)) := by rw [ha]; exact putSel_on (e := (8, 41, (.bool false))) 8 rfl rfl (hon 8 (by kernel_rfl)) rfl
         replace ha := Aside0.mk ha
         have HB2 := Aside0.mk Q_HB2
         refine value_ (w1 := w') (v := (.bool true)) (wanted_on rfl rfl rfl (e41.trans (by first | rfl | (simp [*]; done)))) rfl ?_ ?_
         ·go_simp
          (try simp only [i64_w])
          try (first | rfl | assumption)
         refine hK.out _ _ ⟨(by rw [ha.out]; exact putSel_upk 11 hb_ rfl rfl rfl), Q_HB2⟩
        refine steps_cons ?_ ?_
        ·rintro b a w' ⟨ha, Q_HB2⟩ hb_ hon hoff
         refine ⟨_, rfl, fun K hK => ?_⟩
         have e0 : a.tmps[0]? = some ((.slice (some ad) l.length c)) := by rw [ha]; exact (putSel_off rfl).trans rfl
         have e44 : a.tmps[44]? = some ((.bool true)) := by rw [ha]; exact putSel_on (e := (11, 44, (.bool true))) 11 rfl rfl (hon 11 (by kernel_rfl)) rfl
         replace ha := Aside0.mk ha
         have HB2 := Aside0.mk Q_HB2
         refine value_ (w1 := w') (v := (.slice (some ad) l.length c)) (wanted_on rfl rfl rfl (e44.trans (by first | rfl | (simp [*]; done)))) rfl ?_ ?_
         ·go_simp
          (try simp only [i64_w])
          try (first | rfl | assumption)
         refine hK.out _ _ ⟨(by rw [ha.out]; exact putSel_upk 12 hb_ rfl rfl rfl), Q_HB2⟩
        refine steps_cons ?_ ?_
        ·rintro b a w' ⟨ha, Q_HB2⟩ hb_ hon hoff
         refine ⟨_, rfl, fun K hK => ?_⟩
         have e3 : a.tmps[3]? = some ((.int .i64 ((i : Int) + 1))) := by rw [ha]; exact (putSel_off rfl).trans rfl
         have e44 : a.tmps[44]? = some ((.bool true)) := by rw [ha]; exact putSel_on (e := (11, 44, (.bool true))) 11 rfl rfl (hon 11 (by kernel_rfl)) rfl
         replace ha := Aside0.mk ha
         have HB2 := Aside0.mk Q_HB2
         refine value_ (w1 := w') (v := (.int .i64 ((i : Int) + 1))) (wanted_on rfl rfl rfl (e44.trans (by first | rfl | (simp [*]; done)))) rfl ?_ ?_
         ·go_simp
          (try simp only [i64_w])
          try (first | rfl | assumption)
         refine hK.out _ _ ⟨(by rw [ha.out]; exact putSel_upk 13 hb_ rfl rfl rfl), Q_HB2⟩
        refine steps_cons ?_ ?_
        ·rintro b a w' ⟨ha, Q_HB2⟩ hb_ hon hoff
         refine ⟨_, rfl, fun K hK => ?_⟩
         have e46 : a.tmps[46]? = some ((.int .i64 ((i : Int) + 1))) := by rw [ha]; exact putSel_on (e := (13, 46, (.int .i64 ((i : Int) + 1)))) 13 rfl rfl (hon 13 (by kernel_rfl)) rfl
         have e44 : a.tmps[44]? = some ((.bool true)) := by rw [ha]; exact putSel_on (e := (11, 44, (.bool true))) 11 rfl rfl (hon 11 (by kernel_rfl)) rfl
         replace ha := Aside0.mk ha
         have HB2 := Aside0.mk Q_HB2
         refine value_ (w1 := w') (v := (.int .i64 (i : Int))) (wanted_on rfl rfl rfl (e44.trans (by first | rfl | (simp [*]; done)))) rfl ?_ ?_
         ·go_simp
          (try simp only [i64_w])
          try (first | rfl | assumption)
         refine hK.out _ _ ⟨(by rw [ha.out]; exact putSel_upk 14 hb_ rfl rfl rfl), Q_HB2⟩
        refine steps_cons ?_ ?_
        ·rintro b a w' ⟨ha, Q_HB2⟩ hb_ hon hoff
         refine ⟨_, rfl, fun K hK => ?_⟩
         have e45 : a.tmps[45]? = some ((.slice (some ad) l.length c)) := by rw [ha]; exact putSel_on (e := (12, 45, (.slice (some ad) l.length c))) 12 rfl rfl (hon 12 (by kernel_rfl)) rfl
         have e47 : a.tmps[47]? = some ((.int .i64 (i : Int))) := by rw [ha]; exact putSel_on (e := (14, 47, (.int .i64 (i : Int)))) 14 rfl rfl (hon 14 (by kernel_rfl)) rfl
         have e44 : a.tmps[44]? = some ((.bool true)) := by rw [ha]; exact putSel_on (e := (11, 44, (.bool true))) 11 rfl rfl (hon 11 (by kernel_rfl)) rfl
         replace ha := Aside0.mk ha
         have HB2 := Aside0.mk Q_HB2
         refine value_ (w1 := w') (v := (.pointer (some P))) (wanted_on rfl rfl rfl (e44.trans (by first | rfl | (simp [*]; done)))) rfl ?_ ?_
         ·go_simp
          (try simp only [i64_w])
          try (first | rfl | assumption)
         refine hK.out _ _ ⟨(by rw [ha.out]; exact putSel_upk 15 hb_ rfl rfl rfl), Q_HB2⟩
        refine steps_cons ?_ ?_
        ·rintro b a w' ⟨ha, Q_HB2⟩ hb_ hon hoff
         refine ⟨_, rfl, fun K hK => ?_⟩
         have e48 : a.tmps[48]? = some ((.pointer (some P))) := by rw [ha]; exact putSel_on (e := (15, 48, (.pointer (some P)))) 15 rfl rfl (hon 15 (by kernel_rfl)) rfl
         have e44 : a.tmps[44]? = some ((.bool true)) := by rw [ha]; exact putSel_on (e := (11, 44, (.bool true))) 11 rfl rfl (hon 11 (by kernel_rfl)) rfl
         replace ha := Aside0.mk ha
         have HB2 := Aside0.mk Q_HB2
         obtain ⟨x0_, x1_, x2_⟩ := HPRE.out _ HB2.out
         refine value_ (w1 := w') (v := (.agg #[.int .i64 y.f0.f0, .int .i64 y.f0.f1, .int .i64 y.f1])) (wanted_on rfl rfl rfl (e44.trans (by first | rfl | (simp [*]; done)))) rfl ?_ ?_
         ·go_simp
          (try simp only [i64_w])
          try (first | rfl | assumption)
         refine hK.out _ _ ⟨(by rw [ha.out]; exact putSel_upk 16 hb_ rfl rfl rfl), Q_HB2⟩
        refine steps_cons ?_ ?_
        ·rintro b a w' ⟨ha, Q_HB2⟩ hb_ hon hoff
         refine ⟨_, rfl, fun K hK => ?_⟩
         have e4 : a.tmps[4]? = some ((.pointer (some ⟨g, 0, none⟩))) := by rw [ha]; exact (putSel_off rfl).trans rfl
         have e44 : a.tmps[44]? = some ((.bool true)) := by rw [ha]; exact putSel_on (e := (11, 44, (.bool true))) 11 rfl rfl (hon 11 (by kernel_rfl)) rfl
         replace ha := Aside0.mk ha
         have HB2 := Aside0.mk Q_HB2
         obtain ⟨x0_, x1_, x2_⟩ := HALL.out _ HB2.out
         refine value_ (w1 := w') (v := (.agg #[.int .i64 x.f0.f0, .int .i64 x.f0.f1, .int .i64 x.f1])) (wanted_on rfl rfl rfl (e44.trans (by first | rfl | (simp [*]; done)))) rfl ?_ ?_
         ·go_simp
          (try simp only [i64_w])
          try (first | rfl | assumption)
         refine hK.out _ _ ⟨(by rw [ha.out]; exact putSel_upk 17 hb_ rfl rfl rfl), Q_HB2⟩
        refine steps_cons ?_ ?_
        ·rintro b a w' ⟨ha, Q_HB2⟩ hb_ hon hoff
         refine ⟨_, rfl, fun K hK => ?_⟩
         have e49 : a.tmps[49]? = some ((.agg #[.int .i64 y.f0.f0, .int .i64 y.f0.f1, .int .i64 y.f1])) := by rw [ha]; exact putSel_on (e := (16, 49, (.agg #[.int .i64 y.f0.f0, .int .i64 y.f0.f1, .int .i64 y.f1]))) 16 rfl rfl (hon 16 (by kernel_rfl)) rfl
         have e50 : a.tmps[50]? = some ((.agg #[.int .i64 x.f0.f0, .int .i64 x.f0.f1, .int .i64 x.f1])) := by rw [ha]; exact putSel_on (e := (17, 50, (.agg #[.int .i64 x.f0.f0, .int .i64 x.f0.f1, .int .i64 x.f1]))) 17 rfl rfl (hon 17 (by kernel_rfl)) rfl
         have e44 : a.tmps[44]? = some ((.bool true)) := by rw [ha]; exact putSel_on (e := (11, 44, (.bool true))) 11 rfl rfl (hon 11 (by kernel_rfl)) rfl
         replace ha := Aside0.mk ha
         have HB2 := Aside0.mk Q_HB2
         refine goes_ Try.func111 (by kernel_rfl) rfl #[.agg #[.int .i64 y.f0.f0, .int .i64 y.f0.f1, .int .i64 y.f1], .agg #[.int .i64 x.f0.f0, .int .i64 x.f0.f1, .int .i64 x.f1]] (wanted_on rfl rfl rfl (e44.trans (by first | rfl | (simp [*]; done)))) rfl rfl (by first | (simp only [List.map_toArray, List.map_cons, List.map_nil, Act.eval, Array.getD_eq_getD_getElem?, Option.getD_some, e49, e50, e44]; done) | (simp only [List.map_toArray, List.map_cons, List.map_nil, Act.eval, Array.getD_eq_getD_getElem?, Option.getD_some, e49, e50, e44]; rfl)) ?_
         refine (HLE.out _).mono ?_
         rintro e w1_ ⟨rfl, hb⟩
         refine ⟨_, rfl, ?_⟩
         refine hK.out _ _ ⟨(by rw [ha.out]; exact putSel_upk 18 hb_ rfl rfl rfl), below_step HB2.out hb⟩
        refine steps_cons ?_ ?_
        ·rintro b a w' ⟨ha, Q_HB2⟩ hb_ hon hoff
         refine ⟨_, rfl, fun K hK => ?_⟩
         have e51 : a.tmps[51]? = some ((.bool bq)) := by rw [ha]; exact putSel_on (e := (18, 51, (.bool bq))) 18 rfl rfl (hon 18 (by kernel_rfl)) rfl
         have e44 : a.tmps[44]? = some ((.bool true)) := by rw [ha]; exact putSel_on (e := (11, 44, (.bool true))) 11 rfl rfl (hon 11 (by kernel_rfl)) rfl
         replace ha := Aside0.mk ha
         have HB2 := Aside0.mk Q_HB2
         refine value_ (w1 := w') (v := (.bool (!bq))) (wanted_on rfl rfl rfl (e44.trans (by first | rfl | (simp [*]; done)))) rfl ?_ ?_
         ·go_simp
          (try simp only [i64_w])
          try (first | rfl | assumption)
         refine hK.out _ _ ⟨(by rw [ha.out]; exact putSel_upk 19 hb_ rfl rfl rfl), Q_HB2⟩
        refine steps_cons ?_ ?_
        ·rintro b a w' ⟨ha, Q_HB2⟩ hb_ hon hoff
         refine ⟨_, rfl, fun K hK => ?_⟩
         have e44 : a.tmps[44]? = some ((.bool true)) := by rw [ha]; exact putSel_on (e := (11, 44, (.bool true))) 11 rfl rfl (hon 11 (by kernel_rfl)) rfl
         have e52 : a.tmps[52]? = some ((.bool (!bq))) := by rw [ha]; exact putSel_on (e := (19, 52, (.bool (!bq)))) 19 rfl rfl (hon 19 (by kernel_rfl)) rfl
         have e41 : a.tmps[41]? = some ((.bool false)) := by rw [ha]; exact putSel_on (e := (8, 41, (.bool false))) 8 rfl rfl (hon 8 (by kernel_rfl)) rfl
         replace ha := Aside0.mk ha
         have HB2 := Aside0.mk Q_HB2
         refine value_ (w1 := w') (v := (.bool (!bq))) (wanted_on rfl rfl rfl (e41.trans (by first | rfl | (simp [*]; done)))) rfl ?_ ?_
         ·go_simp
          (try simp only [i64_w])
          try (first | rfl | assumption)
         refine hK.out _ _ ⟨(by rw [ha.out]; exact putSel_upk 20 hb_ rfl rfl rfl), Q_HB2⟩
        refine steps_cons ?_ ?_
        ·rintro b a w' ⟨ha, Q_HB2⟩ hb_ hon hoff
         refine ⟨_, rfl, fun K hK => ?_⟩
         have e41 : a.tmps[41]? = some ((.bool false)) := by rw [ha]; exact putSel_on (e := (8, 41, (.bool false))) 8 rfl rfl (hon 8 (by kernel_rfl)) rfl
         have e53 : a.tmps[53]? = some ((.bool (!bq))) := by rw [ha]; exact putSel_on (e := (20, 53, (.bool (!bq)))) 20 rfl rfl (hon 20 (by kernel_rfl)) rfl
         replace ha := Aside0.mk ha
         have HB2 := Aside0.mk Q_HB2
         refine value_ (w1 := w') (v := (.bool (!bq))) (by rfl) rfl ?_ ?_
         ·go_simp
          (try simp only [i64_w])
          try (first | rfl | assumption)
         refine hK.out _ _ ⟨(by rw [ha.out]; exact putSel_upk 21 hb_ rfl rfl rfl), Q_HB2⟩
        refine steps_cons ?_ ?_
        ·rintro b a w' ⟨ha, Q_HB2⟩ hb_ hon hoff
         refine ⟨_, rfl, fun K hK => ?_⟩
         have e54 : a.tmps[54]? = some ((.bool (!bq))) := by rw [ha]; exact putSel_on (e := (21, 54, (.bool (!bq)))) 21 rfl rfl (hon 21 (by kernel_rfl)) rfl
         replace ha := Aside0.mk ha
         have HB2 := Aside0.mk Q_HB2
         refine value_ (w1 := w') (v := (.bool (!bq))) (by rfl) rfl ?_ ?_
         ·go_simp
          (try simp only [i64_w])
          try (first | rfl | assumption)
         refine hK.out _ _ ⟨(by rw [ha.out]; exact putSel_upk 22 hb_ rfl rfl rfl), Q_HB2⟩
        exact steps_nil
       rintro b a we hall ⟨ha, Q_HB2⟩
       clear HB2
       have hb0_ := hall 0 (by kernel_rfl)
       have hb1_ := hall 1 (by kernel_rfl)
       have hb2_ := hall 2 (by kernel_rfl)
       have hb3_ := hall 3 (by kernel_rfl)
       have hb4_ := hall 4 (by kernel_rfl)
       have hb5_ := hall 5 (by kernel_rfl)
       have hb6_ := hall 6 (by kernel_rfl)
       have hb7_ := hall 7 (by kernel_rfl)
       have hb8_ := hall 8 (by kernel_rfl)
       have hb9_ := hall 9 (by kernel_rfl)
       have hb10_ := hall 10 (by kernel_rfl)
       have hb11_ := hall 11 (by kernel_rfl)
       have hb12_ := hall 12 (by kernel_rfl)
       have hb13_ := hall 13 (by kernel_rfl)
       have hb14_ := hall 14 (by kernel_rfl)
       have hb15_ := hall 15 (by kernel_rfl)
       have hb16_ := hall 16 (by kernel_rfl)
       have hb17_ := hall 17 (by kernel_rfl)
       have hb18_ := hall 18 (by kernel_rfl)
       have hb19_ := hall 19 (by kernel_rfl)
       have hb20_ := hall 20 (by kernel_rfl)
       have hb21_ := hall 21 (by kernel_rfl)
       have hb22_ := hall 22 (by kernel_rfl)
       subst ha
       simp only [putSel, hb0_, hb1_, hb2_, hb3_, hb4_, hb5_, hb6_, hb7_, hb8_, hb9_, hb10_, hb11_, hb12_, hb13_, hb14_, hb15_, hb16_, hb17_, hb18_, hb19_, hb20_, hb21_, hb22_, if_true, Act.put, List.setIfInBounds_toArray, List.set_cons_zero, List.set_cons_succ]
       have HB2 := Aside0.mk Q_HB2
       clear Q_HB2
       clear hall hb0_ hb1_ hb2_ hb3_ hb4_ hb5_ hb6_ hb7_ hb8_ hb9_ hb10_ hb11_ hb12_ hb13_ hb14_ hb15_ hb16_ hb17_ hb18_ hb19_ hb20_ hb21_ hb22_
       cases bq with
       | false =>
        have HF := Aside0.mk (show fineL l = false by unfold fineL; rw [← HO.out, HST.out, HOK.out, HPV.out]; show ((true && lessN y x) && _ && _) = false; rw [← HBB.out]; rfl)
        have FIN := Aside0.mk (fun W (hW : Below w2.heap.size w2 W) => (show (Ending.returned (.bool false) = Ending.returned (.bool (fineL l)) ∧ Below w.heap.size w W) from ⟨by rw [HF.out], below_step HBO.out hW⟩))
        clear HF
        go_wp2_with fail
        go_ret
        exact FIN.out _ HB2.out
       | true =>
        have HST2 := Aside0.mk (show fineR (prevO l (i + 1 + 1)) (l.drop (i + 1 + 1)) = fineR none l by rw [← HO.out, HST.out, HOK.out, HPV.out]; show _ = ((true && lessN y x) && _); rw [← HBB.out]; rfl)
        go_wp2_with fail
        go_roundw
        case rel => exact ⟨i + 1 + 1, by have := HLT.out; omega, by go_num, HST2.out, below_step HBO.out HB2.out⟩
        case measure => simp [intOf]; have := HLT.out; omega
     ·have d2 : 65536 < x.f1 := by omega
      have HF := Aside0.mk (show fineL l = false by unfold fineL; rw [← HO.out, HST.out, okX_code (fun h => c2 h.2)]; rfl)
      have FIN := Aside0.mk (fun W (hW : Below w2.heap.size w2 W) => (show (Ending.returned (.bool false) = Ending.returned (.bool (fineL l)) ∧ Below w.heap.size w W) from ⟨by rw [HF.out], below_step HBO.out hW⟩))
      clear HF c2
      refine start_ (n := 23) (S := fun w' => True) (ds := []) #[false, false, false, false, false, false, false, false, false, false, false, false, false, false, false, false, false, false, false, false, false, false, false] (by kernel_rfl) rfl rfl trivial (fun hHeld => ?_); refine with_tabW MsgF.tab5 MsgF.bits5 (fun HT_ HW_ => ?_)
      refine inv_at [0, 1, 2, 3, 4, 5, 6, 7, 8, 9, 10, 11, 12, 13, 14, 15, 16, 17, 18, 19, 20, 21, 22] (fun a0_ b a w' => a = putSel a0_ b [(0, 33, (.pointer (some ⟨g, 2, none⟩))), (1, 34, (.int .i64 x.f1)), (2, 35, (.bool false)), (3, 36, (.bool false)), (4, 37, (.pointer (some ⟨g, 2, none⟩))), (5, 38, (.int .i64 x.f1)), (6, 39, (.bool true)), (7, 40, (.bool true)), (8, 41, (.bool true)), (9, 42, undef), (10, 43, undef), (11, 44, undef), (12, 45, undef), (13, 46, undef), (14, 47, undef), (15, 48, undef), (16, 49, undef), (17, 50, undef), (18, 51, undef), (19, 52, undef), (20, 53, undef), (21, 54, (.bool true)), (22, 32, (.bool true))] ∧ (Below w2.heap.size w2 w')) HT_.out HW_.out (by kernel_rfl) (by kernel_rfl) ?_ ?_ ?_
      ·exact ⟨by simp only [putSel, Bool.false_eq_true, if_false], below_drew1 HB2.out⟩
      ·skip
       clear HB2
       refine steps_cons ?_ ?_
       ·rintro b a w' ⟨ha, Q_HB2⟩ hb_ hon hoff
        refine ⟨_, rfl, fun K hK => ?_⟩
        have e4 : a.tmps[4]? = some ((.pointer (some ⟨g, 0, none⟩))) := by rw [ha]; exact (putSel_off rfl).trans rfl
        replace ha := Aside0.mk ha
        have HB2 := Aside0.mk Q_HB2
        refine value_ (w1 := w') (v := (.pointer (some ⟨g, 2, none⟩))) (by rfl) rfl ?_ ?_
        ·go_simp
         (try simp only [i64_w])
         try (first | rfl | assumption)
        refine hK.out _ _ ⟨(by rw [ha.out]; exact putSel_upk 0 hb_ rfl rfl rfl), Q_HB2⟩
       refine steps_cons ?_ ?_
       ·rintro b a w' ⟨ha, Q_HB2⟩ hb_ hon hoff
        refine ⟨_, rfl, fun K hK => ?_⟩
        have e33 : a.tmps[33]? = some ((.pointer (some ⟨g, 2, none⟩))) := by rw [ha]; exact putSel_on (e := (0, 33, (.pointer (some ⟨g, 2, none⟩)))) 0 rfl rfl (hon 0 (by kernel_rfl)) rfl
        replace ha := Aside0.mk ha
        have HB2 := Aside0.mk Q_HB2
        obtain ⟨x0_, x1_, x2_⟩ := HALL.out _ HB2.out
        refine value_ (w1 := w') (v := (.int .i64 x.f1)) (by rfl) rfl ?_ ?_
        ·go_simp
         (try simp only [i64_w])
         try (first | rfl | assumption)
        refine hK.out _ _ ⟨(by rw [ha.out]; exact putSel_upk 1 hb_ rfl rfl rfl), Q_HB2⟩
       refine steps_cons ?_ ?_
       ·rintro b a w' ⟨ha, Q_HB2⟩ hb_ hon hoff
        refine ⟨_, rfl, fun K hK => ?_⟩
        have e34 : a.tmps[34]? = some ((.int .i64 x.f1)) := by rw [ha]; exact putSel_on (e := (1, 34, (.int .i64 x.f1))) 1 rfl rfl (hon 1 (by kernel_rfl)) rfl
        replace ha := Aside0.mk ha
        have HB2 := Aside0.mk Q_HB2
        refine value_ (w1 := w') (v := (.bool false)) (by rfl) rfl ?_ ?_
        ·go_simp
         (try simp only [i64_w])
         try (first | rfl | assumption)
        refine hK.out _ _ ⟨(by rw [ha.out]; exact putSel_upk 2 hb_ rfl rfl rfl), Q_HB2⟩
       refine steps_cons ?_ ?_
       ·rintro b a w' ⟨ha, Q_HB2⟩ hb_ hon hoff
        refine ⟨_, rfl, fun K hK => ?_⟩
        have e35 : a.tmps[35]? = some ((.bool false)) := by rw [ha]; exact putSel_on (e := (2, 35, (.bool false))) 2 rfl rfl (hon 2 (by kernel_rfl)) rfl
        replace ha := Aside0.mk ha
        have HB2 := Aside0.mk Q_HB2
        refine value_ (w1 := w') (v := (.bool false)) (by rfl) rfl ?_ ?_
        ·go_simp
         (try simp only [i64_w])
         try (first | rfl | assumption)
        refine hK.out _ _ ⟨(by rw [ha.out]; exact putSel_upk 3 hb_ rfl rfl rfl), Q_HB2⟩
       refine steps_cons ?_ ?_
       ·rintro b a w' ⟨ha, Q_HB2⟩ hb_ hon hoff
        refine ⟨_, rfl, fun K hK => ?_⟩
        have e4 : a.tmps[4]? = some ((.pointer (some ⟨g, 0, none⟩))) := by rw [ha]; exact (putSel_off rfl).trans rfl
        have e36 : a.tmps[36]? = some ((.bool false)) := by rw [ha]; exact putSel_on (e := (3, 36, (.bool false))) 3 rfl rfl (hon 3 (by kernel_rfl)) rfl
        replace ha := Aside0.mk ha
        have HB2 := Aside0.mk Q_HB2
        refine value_ (w1 := w') (v := (.pointer (some ⟨g, 2, none⟩))) (wanted_on rfl rfl rfl (e36.trans (by first | rfl | (simp [*]; done)))) rfl ?_ ?_
        ·go_simp
         (try simp only [i64_w])
         try (first | rfl | assumption)
        refine hK.out _ _ ⟨(by rw [ha.out]; exact putSel_upk 4 hb_ rfl rfl rfl), Q_HB2⟩
       refine steps_cons ?_ ?_
       ·rintro b a w' ⟨ha, Q_HB2⟩ hb_ hon hoff
        refine ⟨_, rfl, fun K hK => ?_⟩
        have e37 : a.tmps[37]? = some ((.pointer (some ⟨g, 2, none⟩))) := by rw [ha]; exact putSel_on (e := (4, 37, (.pointer (some ⟨g, 2, none⟩)))) 4 rfl rfl (hon 4 (by kernel_rfl)) rfl
        have e36 : a.tmps[36]? = some ((.bool false)) := by rw [ha]; exact putSel_on (e := (3, 36, (.bool false))) 3 rfl rfl (hon 3 (by kernel_rfl)) rfl
        replace ha := Aside0.mk ha
        have HB2 := Aside0.mk Q_HB2
        obtain ⟨x0_, x1_, x2_⟩ := HALL.out _ HB2.out
        refine value_ (w1 := w') (v := (.int .i64 x.f1)) (wanted_on rfl rfl rfl (e36.trans (by first | rfl | (simp [*]; done)))) rfl ?_ ?_
        ·go_simp
         (try simp only [i64_w])
         try (first | rfl | assumption)
        refine hK.out _ _ ⟨(by rw [ha.out]; exact putSel_upk 5 hb_ rfl rfl rfl), Q_HB2⟩
       refine steps_cons ?_ ?_
       ·rintro b a w' ⟨ha, Q_HB2⟩ hb_ hon hoff
        refine ⟨_, rfl, fun K hK => ?_⟩
        have e38 : a.tmps[38]? = some ((.int .i64 x.f1)) := by rw [ha]; exact putSel_on (e := (5, 38, (.int .i64 x.f1))) 5 rfl rfl (hon 5 (by kernel_rfl)) rfl
        have e36 : a.tmps[36]? = some ((.bool false)) := by rw [ha]; exact putSel_on (e := (3, 36, (.bool false))) 3 rfl rfl (hon 3 (by kernel_rfl)) rfl
        replace ha := Aside0.mk ha
        have HB2 := Aside0.mk Q_HB2
        refine value_ (w1 := w') (v := (.bool true)) (wanted_on rfl rfl rfl (e36.trans (by first | rfl | (simp [*]; done)))) rfl ?_ ?_
        ·go_simp
         (try simp only [i64_w])
         try (first | rfl | assumption)
        refine hK.out _ _ ⟨(by rw [ha.out]; exact putSel_upk 6 hb_ rfl rfl rfl), Q_HB2⟩
       refine steps_cons ?_ ?_
       ·rintro b a w' ⟨ha, Q_HB2⟩ hb_ hon hoff
        refine ⟨_, rfl, fun K hK => ?_⟩
        have e36 : a.tmps[36]? = some ((.bool false)) := by rw [ha]; exact putSel_on (e := (3, 36, (.bool false))) 3 rfl rfl (hon 3 (by kernel_rfl)) rfl
        have e39 : a.tmps[39]? = some ((.bool true)) := by rw [ha]; exact putSel_on (e := (6, 39, (.bool true))) 6 rfl rfl (hon 6 (by kernel_rfl)) rfl
        replace ha := Aside0.mk ha
        have HB2 := Aside0.mk Q_HB2
        refine value_ (w1 := w') (v := (.bool true)) (by rfl) rfl ?_ ?_
        ·go_simp
         (try simp only [i64_w])
         try (first | rfl | assumption)
        refine hK.out _ _ ⟨(by rw [ha.out]; exact putSel_upk 7 hb_ rfl rfl rfl), Q_HB2⟩
       refine steps_cons ?_ ?_
       ·rintro b a w' ⟨ha, Q_HB2⟩ hb_ hon hoff
        refine ⟨_, rfl, fun K hK => ?_⟩
        have e40 : a.tmps[40]? = some ((.bool true)) := by rw [ha]; exact putSel_on (e := (7, 40, (.bool true))) 7 rfl rfl (hon 7 (by kernel_rfl)) rfl
        replace ha := Aside0.mk ha
        have HB2 := Aside0.mk Q_HB2
        refine value_ (w1 := w') (v := (.bool true)) (by rfl) rfl ?_ ?_
        ·go_simp
         (try simp only [i64_w])
         try (first | rfl | assumption)
        refine hK.out _ _ ⟨(by rw [ha.out]; exact putSel_upk 8 hb_ rfl rfl rfl), Q_HB2⟩
       refine steps_cons ?_ ?_
       ·rintro b a w' ⟨ha, Q_HB2⟩ hb_ hon hoff
        refine ⟨_, rfl, fun K hK => ?_⟩
        have e41 : a.tmps[41]? = some ((.bool true)) := by rw [ha]; exact putSel_on (e := (8, 41, (.bool true))) 8 rfl rfl (hon 8 (by kernel_rfl)) rfl
        replace ha := Aside0.mk ha
        have HB2 := Aside0.mk Q_HB2
        refine off_ (wanted_off rfl rfl rfl (e41.trans (by first | rfl | (simp [*]; done)))) ?_
        refine hK.out _ _ ⟨(by rw [ha.out]; exact putSel_upk 9 hb_ rfl rfl rfl), Q_HB2⟩
       refine steps_cons ?_ ?_
       ·rintro b a w' ⟨ha, Q_HB2⟩ hb_ hon hoff
        refine ⟨_, rfl, fun K hK => ?_⟩
        have e41 : a.tmps[41]? = some ((.bool true)) := by rw [ha]; exact putSel_on (e := (8, 41, (.bool true))) 8 rfl rfl (hon 8 (by kernel_rfl)) rfl
        replace ha := Aside0.mk ha
        have HB2 := Aside0.mk Q_HB2
        refine off_ (wanted_off rfl rfl rfl (e41.trans (by first | rfl | (simp [*]; done)))) ?_
        refine hK.out _ _ ⟨(by rw [ha.out]; exact putSel_upk 10 hb_ rfl rfl rfl), Q_HB2⟩
       refine steps_cons ?_ ?_
       ·rintro b a w' ⟨ha, Q_HB2⟩ hb_ hon hoff
        refine ⟨_, rfl, fun K hK => ?_⟩
        have e41 : a.tmps[41]? = some ((.bool true)) := by rw [ha]; exact putSel_on (e := (8, 41, (.bool true))) 8 rfl rfl (hon 8 (by kernel_rfl)) rfl
        replace ha := Aside0.mk ha
        have HB2 := Aside0.mk Q_HB2
        refine off_ (wanted_off rfl rfl rfl (e41.trans (by first | rfl | (simp [*]; done)))) ?_
        refine hK.out _ _ ⟨(by rw [ha.out]; exact putSel_upk 11 hb_ rfl rfl rfl), Q_HB2⟩
       refine steps_cons ?_ ?_
       ·rintro b a w' ⟨ha, Q_HB2⟩ hb_ hon hoff
        refine ⟨_, rfl, fun K hK => ?_⟩
        have e44 : a.tmps[44]? = some (undef) := by rw [ha]; exact putSel_on (e := (11, 44, undef)) 11 rfl rfl (hon 11 (by kernel_rfl)) rfl
        replace ha := Aside0.mk ha
        have HB2 := Aside0.mk Q_HB2
        refine off_ (wanted_un rfl rfl rfl e44) ?_
        refine hK.out _ _ ⟨(by rw [ha.out]; exact putSel_upk 12 hb_ rfl rfl rfl), Q_HB2⟩
       refine steps_cons ?_ ?_
       ·rintro b a w' ⟨ha, Q_HB2⟩ hb_ hon hoff
        refine ⟨_, rfl, fun K hK => ?_⟩
        have e44 : a.tmps[44]? = some (undef) := by rw [ha]; exact putSel_on (e := (11, 44, undef)) 11 rfl rfl (hon 11 (by kernel_rfl)) rfl
        replace ha := Aside0.mk ha
        have HB2 := Aside0.mk Q_HB2
        refine off_ (wanted_un rfl rfl rfl e44) ?_
        refine hK.out _ _ ⟨(by rw [ha.out]; exact putSel_upk 13 hb_ rfl rfl rfl), Q_HB2⟩
       refine steps_cons ?_ ?_
       ·rintro b a w' ⟨ha, Q_HB2⟩ hb_ hon hoff
        refine ⟨_, rfl, fun K hK => ?_⟩
        have e44 : a.tmps[44]? = some (undef) := by rw [ha]; exact putSel_on (e := (11, 44, undef)) 11 rfl rfl (hon 11 (by kernel_rfl)) rfl
        replace ha := Aside0.mk ha
        have HB2 := Aside0.mk Q_HB2
        refine off_ (wanted_un rfl rfl rfl e44) ?_
        refine hK.out _ _ ⟨(by rw [ha.out]; exact putSel_upk 14 hb_ rfl rfl rfl), Q_HB2⟩
       refine steps_cons ?_ ?_
       ·rintro b a w' ⟨ha, Q_HB2⟩ hb_ hon hoff
        refine ⟨_, rfl, fun K hK => ?_⟩
        have e44 : a.tmps[44]? = some (undef) := by rw [ha]; exact putSel_on (e := (11, 44, undef)) 11 rfl rfl (hon 11 (by kernel_rfl)) rfl
        replace ha := Aside0.mk ha
        have HB2 := Aside0.mk Q_HB2
        refine off_ (wanted_un rfl rfl rfl e44) ?_
        refine hK.out _ _ ⟨(by rw [ha.out]; exact putSel_upk 15 hb_ rfl rfl rfl), Q_HB2⟩
       refine steps_cons ?_ ?_
       ·rintro b a w' ⟨ha, Q_HB2⟩ hb_ hon hoff
        refine ⟨_, rfl, fun K hK => ?_⟩
        have e44 : a.tmps[44]? = some (undef) := by rw [ha]; exact putSel_on (e := (11, 44, undef)) 11 rfl rfl (hon 11 (by kernel_rfl)) rfl
        replace ha := Aside0.mk ha
        have HB2 := Aside0.mk Q_HB2
        refine off_ (wanted_un rfl rfl rfl e44) ?_
        refine hK.out _ _ ⟨(by rw [ha.out]; exact putSel_upk 16 hb_ rfl rfl rfl), Q_HB2⟩
       refine steps_cons ?_ ?_
       ·rintro b a w' ⟨ha, Q_HB2⟩ hb_ hon hoff
        refine ⟨_, rfl, fun K hK => ?_⟩
        have e44 : a.tmps[44]? = some (undef) := by rw [ha]; exact putSel_on (e := (11, 44, undef)) 11 rfl rfl (hon 11 (by kernel_rfl)) rfl
        replace ha := Aside0.mk ha
        have HB2 := Aside0.mk Q_HB2
        refine off_ (wanted_un rfl rfl rfl e44) ?_
        refine hK.out _ _ ⟨(by rw [ha.out]; exact putSel_upk 17 hb_ rfl rfl rfl), Q_HB2⟩
       refine steps_cons ?_ ?_
       ·rintro b a w' ⟨ha, Q_HB2⟩ hb_ hon hoff
        refine ⟨_, rfl, fun K hK => ?_⟩
        have e44 : a.tmps[44]? = some (undef) := by rw [ha]; exact putSel_on (e := (11, 44, undef)) 11 rfl rfl (hon 11 (by kernel_rfl)) rfl
        replace ha := Aside0.mk ha
        have HB2 := Aside0.mk Q_HB2
        refine off_ (wanted_un rfl rfl rfl e44) ?_
        refine hK.out _ _ ⟨(by rw [ha.out]; exact putSel_upk 18 hb_ rfl rfl rfl), Q_HB2⟩
       refine steps_cons ?_ ?_
       ·rintro b a w' ⟨ha, Q_HB2⟩ hb_ hon hoff
        refine ⟨_, rfl, fun K hK => ?_⟩
        have e44 : a.tmps[44]? = some (undef) := by rw [ha]; exact putSel_on (e := (11, 44, undef)) 11 rfl rfl (hon 11 (by kernel_rfl)) rfl
        replace ha := Aside0.mk ha
        have HB2 := Aside0.mk Q_HB2
        refine off_ (wanted_un rfl rfl rfl e44) ?_
        refine hK.out _ _ ⟨(by rw [ha.out]; exact putSel_upk 19 hb_ rfl rfl rfl), Q_HB2⟩
       refine steps_cons ?_ ?_
       ·rintro b a w' ⟨ha, Q_HB2⟩ hb_ hon hoff
        refine ⟨_, rfl, fun K hK => ?_⟩
        have e41 : a.tmps[41]? = some ((.bool true)) := by rw [ha]; exact putSel_on (e := (8, 41, (.bool true))) 8 rfl rfl (hon 8 (by kernel_rfl)) rfl
        replace ha := Aside0.mk ha
        have HB2 := Aside0.mk Q_HB2
        refine off_ (wanted_off rfl rfl rfl (e41.trans (by first | rfl | (simp [*]; done)))) ?_
        refine hK.out _ _ ⟨(by rw [ha.out]; exact putSel_upk 20 hb_ rfl rfl rfl), Q_HB2⟩
       refine steps_cons ?_ ?_
       ·rintro b a w' ⟨ha, Q_HB2⟩ hb_ hon hoff
        refine ⟨_, rfl, fun K hK => ?_⟩
        have e41 : a.tmps[41]? = some ((.bool true)) := by rw [ha]; exact putSel_on (e := (8, 41, (.bool true))) 8 rfl rfl (hon 8 (by kernel_rfl)) rfl
        have e53 : a.tmps[53]? = some (undef) := by rw [ha]; exact putSel_on (e := (20, 53, undef)) 20 rfl rfl (hon 20 (by kernel_rfl)) rfl
        replace ha := Aside0.mk ha
        have HB2 := Aside0.mk Q_HB2
        refine value_ (w1 := w') (v := (.bool true)) (by rfl) rfl ?_ ?_
        ·go_simp
         (try simp only [i64_w])
         try (first | rfl | assumption)
        refine hK.out _ _ ⟨(by rw [ha.out]; exact putSel_upk 21 hb_ rfl rfl rfl), Q_HB2⟩
       refine steps_cons ?_ ?_
       ·rintro b a w' ⟨ha, Q_HB2⟩ hb_ hon hoff
        refine ⟨_, rfl, fun K hK => ?_⟩
        have e54 : a.tmps[54]? = some ((.bool true)) := by rw [ha]; exact putSel_on (e := (21, 54, (.bool true))) 21 rfl rfl (hon 21 (by kernel_rfl)) rfl
        replace ha := Aside0.mk ha
        have HB2 := Aside0.mk Q_HB2
        refine value_ (w1 := w') (v := (.bool true)) (by rfl) rfl ?_ ?_
        ·go_simp
         (try simp only [i64_w])
         try (first | rfl | assumption)
        refine hK.out _ _ ⟨(by rw [ha.out]; exact putSel_upk 22 hb_ rfl rfl rfl), Q_HB2⟩
       exact steps_nil
      rintro b a we hall ⟨ha, Q_HB2⟩
      clear HB2
      have hb0_ := hall 0 (by kernel_rfl)
      have hb1_ := hall 1 (by kernel_rfl)
      have hb2_ := hall 2 (by kernel_rfl)
      have hb3_ := hall 3 (by kernel_rfl)
      have hb4_ := hall 4 (by kernel_rfl)
      have hb5_ := hall 5 (by kernel_rfl)
      have hb6_ := hall 6 (by kernel_rfl)
      have hb7_ := hall 7 (by kernel_rfl)
      have hb8_ := hall 8 (by kernel_rfl)
      have hb9_ := hall 9 (by kernel_rfl)
      have hb10_ := hall 10 (by kernel_rfl)
      have hb11_ := hall 11 (by kernel_rfl)
      have hb12_ := hall 12 (by kernel_rfl)
      have hb13_ := hall 13 (by kernel_rfl)
      have hb14_ := hall 14 (by kernel_rfl)
      have hb15_ := hall 15 (by kernel_rfl)
      have hb16_ := hall 16 (by kernel_rfl)
      have hb17_ := hall 17 (by kernel_rfl)
      have hb18_ := hall 18 (by kernel_rfl)
      have hb19_ := hall 19 (by kernel_rfl)
      have hb20_ := hall 20 (by kernel_rfl)
      have hb21_ := hall 21 (by kernel_rfl)
      have hb22_ := hall 22 (by kernel_rfl)
      subst ha
      simp only [putSel, hb0_, hb1_, hb2_, hb3_, hb4_, hb5_, hb6_, hb7_, hb8_, hb9_, hb10_, hb11_, hb12_, hb13_, hb14_, hb15_, hb16_, hb17_, hb18_, hb19_, hb20_, hb21_, hb22_, if_true, Act.put, List.setIfInBounds_toArray, List.set_cons_zero, List.set_cons_succ]
      have HB2 := Aside0.mk Q_HB2
      clear Q_HB2
      clear hall hb0_ hb1_ hb2_ hb3_ hb4_ hb5_ hb6_ hb7_ hb8_ hb9_ hb10_ hb11_ hb12_ hb13_ hb14_ hb15_ hb16_ hb17_ hb18_ hb19_ hb20_ hb21_ hb22_
      go_wp2_with fail
      go_ret
      exact FIN.out _ HB2.out
    ·have d1 : x.f1 < 0 := by omega
     have HF := Aside0.mk (show fineL l = false by unfold fineL; rw [← HO.out, HST.out, okX_code (fun h => c1 h.1)]; rfl)
     have FIN := Aside0.mk (fun W (hW : Below w2.heap.size w2 W) => (show (Ending.returned (.bool false) = Ending.returned (.bool (fineL l)) ∧ Below w.heap.size w W) from ⟨by rw [HF.out], below_step HBO.out hW⟩))
     clear HF c1
     refine start_ (n := 23) (S := fun w' => True) (ds := []) #[false, false, false, false, false, false, false, false, false, false, false, false, false, false, false, false, false, false, false, false, false, false, false] (by kernel_rfl) rfl rfl trivial (fun hHeld => ?_); refine with_tabW MsgF.tab5 MsgF.bits5 (fun HT_ HW_ => ?_)
     refine inv_at [0, 1, 2, 3, 4, 5, 6, 7, 8, 9, 10, 11, 12, 13, 14, 15, 16, 17, 18, 19, 20, 21, 22] (fun a0_ b a w' => a = putSel a0_ b [(0, 33, (.pointer (some ⟨g, 2, none⟩))), (1, 34, (.int .i64 x.f1)), (2, 35, (.bool true)), (3, 36, (.bool true)), (4, 37, undef), (5, 38, undef), (6, 39, undef), (7, 40, (.bool true)), (8, 41, (.bool true)), (9, 42, undef), (10, 43, undef), (11, 44, undef), (12, 45, undef), (13, 46, undef), (14, 47, undef), (15, 48, undef), (16, 49, undef), (17, 50, undef), (18, 51, undef), (19, 52, undef), (20, 53, undef), (21, 54, (.bool true)), (22, 32, (.bool true))] ∧ (Below w2.heap.size w2 w')) HT_.out HW_.out (by kernel_rfl) (by kernel_rfl) ?_ ?_ ?_
     ·exact ⟨by simp only [putSel, Bool.false_eq_true, if_false], below_drew1 HB2.out⟩
     ·skip
      clear HB2
      refine steps_cons ?_ ?_
      ·rintro b a w' ⟨ha, Q_HB2⟩ hb_ hon hoff
       refine ⟨_, rfl, fun K hK => ?_⟩
       have e4 : a.tmps[4]? = some ((.pointer (some ⟨g, 0, none⟩))) := by rw [ha]; exact (putSel_off rfl).trans rfl
       replace ha := Aside0.mk ha
       have HB2 := Aside0.mk Q_HB2
       refine value_ (w1 := w') (v := (.pointer (some ⟨g, 2, none⟩))) (by rfl) rfl ?_ ?_
       ·go_simp
        (try simp only [i64_w])
        try (first | rfl | assumption)
       refine hK.out _ _ ⟨(by rw [ha.out]; exact putSel_upk 0 hb_ rfl rfl rfl), Q_HB2⟩
      refine steps_cons ?_ ?_
      ·rintro b a w' ⟨ha, Q_HB2⟩ hb_ hon hoff
       refine ⟨_, rfl, fun K hK => ?_⟩
       have e33 : a.tmps[33]? = some ((.pointer (some ⟨g, 2, none⟩))) := by rw [ha]; exact putSel_on (e := (0, 33, (.pointer (some ⟨g, 2, none⟩)))) 0 rfl rfl (hon 0 (by kernel_rfl)) rfl
       replace ha := Aside0.mk ha
       have HB2 := Aside0.mk Q_HB2
       obtain ⟨x0_, x1_, x2_⟩ := HALL.out _ HB2.out
       refine value_ (w1 := w') (v := (.int .i64 x.f1)) (by rfl) rfl ?_ ?_
       ·go_simp
        (try simp only [i64_w])
        try (first | rfl | assumption)
       refine hK.out _ _ ⟨(by rw [ha.out]; exact putSel_upk 1 hb_ rfl rfl rfl), Q_HB2⟩
      refine steps_cons ?_ ?_
      ·rintro b a w' ⟨ha, Q_HB2⟩ hb_ hon hoff
       refine ⟨_, rfl, fun K hK => ?_⟩
       have e34 : a.tmps[34]? = some ((.int .i64 x.f1)) := by rw [ha]; exact putSel_on (e := (1, 34, (.int .i64 x.f1))) 1 rfl rfl (hon 1 (by kernel_rfl)) rfl
       replace ha := Aside0.mk ha
       have HB2 := Aside0.mk Q_HB2
       refine value_ (w1 := w') (v := (.bool true)) (by rfl) rfl ?_ ?_
       ·go_simp
        (try simp only [i64_w])
        try (first | rfl | assumption)
       refine hK.out _ _ ⟨(by rw [ha.out]; exact putSel_upk 2 hb_ rfl rfl rfl), Q_HB2⟩
      refine steps_cons ?_ ?_
      ·rintro b a w' ⟨ha, Q_HB2⟩ hb_ hon hoff
       refine ⟨_, rfl, fun K hK => ?_⟩
       have e35 : a.tmps[35]? = some ((.bool true)) := by rw [ha]; exact putSel_on (e := (2, 35, (.bool true))) 2 rfl rfl (hon 2 (by kernel_rfl)) rfl
       replace ha := Aside0.mk ha
       have HB2 := Aside0.mk Q_HB2
       refine value_ (w1 := w') (v := (.bool true)) (by rfl) rfl ?_ ?_
       ·go_simp
        (try simp only [i64_w])
        try (first | rfl | assumption)
       refine hK.out _ _ ⟨(by rw [ha.out]; exact putSel_upk 3 hb_ rfl rfl rfl), Q_HB2⟩
      refine steps_cons ?_ ?_
      ·rintro b a w' ⟨ha, Q_HB2⟩ hb_ hon hoff
       refine ⟨_, rfl, fun K hK => ?_⟩
       have e36 : a.tmps[36]? = some ((.bool true)) := by rw [ha]; exact putSel_on (e := (3, 36, (.bool true))) 3 rfl rfl (hon 3 (by kernel_rfl)) rfl
       replace ha := Aside0.mk ha
       have HB2 := Aside0.mk Q_HB2
       refine off_ (wanted_off rfl rfl rfl (e36.trans (by first | rfl | (simp [*]; done)))) ?_
       refine hK.out _ _ ⟨(by rw [ha.out]; exact putSel_upk 4 hb_ rfl rfl rfl), Q_HB2⟩
      refine steps_cons ?_ ?_
      ·rintro b a w' ⟨ha, Q_HB2⟩ hb_ hon hoff
       refine ⟨_, rfl, fun K hK => ?_⟩
       have e36 : a.tmps[36]? = some ((.bool true)) := by rw [ha]; exact putSel_on (e := (3, 36, (.bool true))) 3 rfl rfl (hon 3 (by kernel_rfl)) rfl
       replace ha := Aside0.mk ha
       have HB2 := Aside0.mk Q_HB2
       refine off_ (wanted_off rfl rfl rfl (e36.trans (by first | rfl | (simp [*]; done)))) ?_
       refine hK.out _ _ ⟨(by rw [ha.out]; exact putSel_upk 5 hb_ rfl rfl rfl), Q_HB2⟩
      refine steps_cons ?_ ?_
      ·rintro b a w' ⟨ha, Q_HB2⟩ hb_ hon hoff
       refine ⟨_, rfl, fun K hK => ?_⟩
       have e36 : a.tmps[36]? = some ((.bool true)) := by rw [ha]; exact putSel_on (e := (3, 36, (.bool true))) 3 rfl rfl (hon 3 (by kernel_rfl)) rfl
       replace ha := Aside0.mk ha
       have HB2 := Aside0.mk Q_HB2
       refine off_ (wanted_off rfl rfl rfl (e36.trans (by first | rfl | (simp [*]; done)))) ?_
       refine hK.out _ _ ⟨(by rw [ha.out]; exact putSel_upk 6 hb_ rfl rfl rfl), Q_HB2⟩
      refine steps_cons ?_ ?_
      ·rintro b a w' ⟨ha, Q_HB2⟩ hb_ hon hoff
       refine ⟨_, rfl, fun K hK => ?_⟩
       have e36 : a.tmps[36]? = some ((.bool true)) := by rw [ha]; exact putSel_on (e := (3, 36, (.bool true))) 3 rfl rfl (hon 3 (by kernel_rfl)) rfl
       have e39 : a.tmps[39]? = some (undef) := by rw [ha]; exact putSel_on (e := (6, 39, undef)) 6 rfl rfl (hon 6 (by kernel_rfl)) rfl
       replace ha := Aside0.mk ha
       have HB2 := Aside0.mk Q_HB2
       refine value_ (w1 := w') (v := (.bool true)) (by rfl) rfl ?_ ?_
       ·go_simp
        (try simp only [i64_w])
        try (first | rfl | assumption)
       refine hK.out _ _ ⟨(by rw [ha.out]; exact putSel_upk 7 hb_ rfl rfl rfl), Q_HB2⟩
      refine steps_cons ?_ ?_
      ·rintro b a w' ⟨ha, Q_HB2⟩ hb_ hon hoff
       refine ⟨_, rfl, fun K hK => ?_⟩
       have e40 : a.tmps[40]? = some ((.bool true)) := by rw [ha]; exact putSel_on (e := (7, 40, (.bool true))) 7 rfl rfl (hon 7 (by kernel_rfl)) rfl
       replace ha := Aside0.mk ha
       have HB2 := Aside0.mk Q_HB2
       refine value_ (w1 := w') (v := (.bool true)) (by rfl) rfl ?_ ?_
       ·go_simp
        (try simp only [i64_w])
        try (first | rfl | assumption)
       refine hK.out _ _ ⟨(by rw [ha.out]; exact putSel_upk 8 hb_ rfl rfl rfl), Q_HB2⟩
      refine steps_cons ?_ ?_
      ·rintro b a w' ⟨ha, Q_HB2⟩ hb_ hon hoff
       refine ⟨_, rfl, fun K hK => ?_⟩
       have e41 : a.tmps[41]? = some ((.bool true)) := by rw [ha]; exact putSel_on (e := (8, 41, (.bool true))) 8 rfl rfl (hon 8 (by kernel_rfl)) rfl
       replace ha := Aside0.mk ha
       have HB2 := Aside0.mk Q_HB2
       refine off_ (wanted_off rfl rfl rfl (e41.trans (by first | rfl | (simp [*]; done)))) ?_
       refine hK.out _ _ ⟨(by rw [ha.out]; exact putSel_upk 9 hb_ rfl rfl rfl), Q_HB2⟩
      refine steps_cons ?_ ?_
      ·rintro b a w' ⟨ha, Q_HB2⟩ hb_ hon hoff
       refine ⟨_, rfl, fun K hK => ?_⟩
       have e41 : a.tmps[41]? = some ((.bool true)) := by rw [ha]; exact putSel_on (e := (8, 41, (.bool true))) 8 rfl rfl (hon 8 (by kernel_rfl)) rfl
       replace ha := Aside0.mk ha
       have HB2 := Aside0.mk Q_HB2
       refine off_ (wanted_off rfl rfl rfl (e41.trans (by first | rfl | (simp [*]; done)))) ?_
       refine hK.out _ _ ⟨(by rw [ha.out]; exact putSel_upk 10 hb_ rfl rfl rfl), Q_HB2⟩
      refine steps_cons ?_ ?_
      ·rintro b a w' ⟨ha, Q_HB2⟩ hb_ hon hoff
       refine ⟨_, rfl, fun K hK => ?_⟩
       have e41 : a.tmps[41]? = some ((.bool true)) := by rw [ha]; exact putSel_on (e := (8, 41, (.bool true))) 8 rfl rfl (hon 8 (by kernel_rfl)) rfl
       replace ha := Aside0.mk ha
       have HB2 := Aside0.mk Q_HB2
       refine off_ (wanted_off rfl rfl rfl (e41.trans (by first | rfl | (simp [*]; done)))) ?_
       refine hK.out _ _ ⟨(by rw [ha.out]; exact putSel_upk 11 hb_ rfl rfl rfl), Q_HB2⟩
      refine steps_cons ?_ ?_
      ·rintro b a w' ⟨ha, Q_HB2⟩ hb_ hon hoff
       refine ⟨_, rfl, fun K hK => ?_⟩
       have e44 : a.tmps[44]? = some (undef) := by rw [ha]; exact putSel_on (e := (11, 44, undef)) 11 rfl rfl (hon 11 (by kernel_rfl)) rfl
       replace ha := Aside0.mk ha
       have HB2 := Aside0.mk Q_HB2
       refine off_ (wanted_un rfl rfl rfl e44) ?_
       refine hK.out _ _ ⟨(by rw [ha.out]; exact putSel_upk 12 hb_ rfl rfl rfl), Q_HB2⟩
      refine steps_cons ?_ ?_
      ·rintro b a w' ⟨ha, Q_HB2⟩ hb_ hon hoff
       refine ⟨_, rfl, fun K hK => ?_⟩
       have e44 : a.tmps[44]? = some (undef) := by rw [ha]; exact putSel_on (e := (11, 44, undef)) 11 rfl rfl (hon 11 (by kernel_rfl)) rfl
       replace ha := Aside0.mk ha
       have HB2 := Aside0.mk Q_HB2
       refine off_ (wanted_un rfl rfl rfl e44) ?_
       refine hK.out _ _ ⟨(by rw [ha.out]; exact putSel_upk 13 hb_ rfl rfl rfl), Q_HB2⟩
      refine steps_cons ?_ ?_
      ·rintro b a w' ⟨ha, Q_HB2⟩ hb_ hon hoff
       refine ⟨_, rfl, fun K hK => ?_⟩
       have e44 : a.tmps[44]? = some (undef) := by rw [ha]; exact putSel_on (e := (11, 44, undef)) 11 rfl rfl (hon 11 (by kernel_rfl)) rfl
       replace ha := Aside0.mk ha
       have HB2 := Aside0.mk Q_HB2
       refine off_ (wanted_un rfl rfl rfl e44) ?_
       refine hK.out _ _ ⟨(by rw [ha.out]; exact putSel_upk 14 hb_ rfl rfl rfl), Q_HB2⟩
      refine steps_cons ?_ ?_
      ·rintro b a w' ⟨ha, Q_HB2⟩ hb_ hon hoff
       refine ⟨_, rfl, fun K hK => ?_⟩
       have e44 : a.tmps[44]? = some (undef) := by rw [ha]; exact putSel_on (e := (11, 44, undef)) 11 rfl rfl (hon 11 (by kernel_rfl)) rfl
       replace ha := Aside0.mk ha
       have HB2 := Aside0.mk Q_HB2
       refine off_ (wanted_un rfl rfl rfl e44) ?_
       refine hK.out _ _ ⟨(by rw [ha.out]; exact putSel_upk 15 hb_ rfl rfl rfl), Q_HB2⟩
      refine steps_cons ?_ ?_
      ·rintro b a w' ⟨ha, Q_HB2⟩ hb_ hon hoff
       refine ⟨_, rfl, fun K hK => ?_⟩
       have e44 : a.tmps[44]? = some (undef) := by rw [ha]; exact putSel_on (e := (11, 44, undef)) 11 rfl rfl (hon 11 (by kernel_rfl)) rfl
       replace ha := Aside0.mk ha
       have HB2 := Aside0.mk Q_HB2
       refine off_ (wanted_un rfl rfl rfl e44) ?_
       refine hK.out _ _ ⟨(by rw [ha.out]; exact putSel_upk 16 hb_ rfl rfl rfl), Q_HB2⟩
      refine steps_cons ?_ ?_
      ·rintro b a w' ⟨ha, Q_HB2⟩ hb_ hon hoff
       refine ⟨_, rfl, fun K hK => ?_⟩
       have e44 : a.tmps[44]? = some (undef) := by rw [ha]; exact putSel_on (e := (11, 44, undef)) 11 rfl rfl (hon 11 (by kernel_rfl)) rfl
       replace ha := Aside0.mk ha
       have HB2 := Aside0.mk Q_HB2
       refine off_ (wanted_un rfl rfl rfl e44) ?_
       refine hK.out _ _ ⟨(by rw [ha.out]; exact putSel_upk 17 hb_ rfl rfl rfl), Q_HB2⟩
      refine steps_cons ?_ ?_
      ·rintro b a w' ⟨ha, Q_HB2⟩ hb_ hon hoff
       refine ⟨_, rfl, fun K hK => ?_⟩
       have e44 : a.tmps[44]? = some (undef) := by rw [ha]; exact putSel_on (e := (11, 44, undef)) 11 rfl rfl (hon 11 (by kernel_rfl)) rfl
       replace ha := Aside0.mk ha
       have HB2 := Aside0.mk Q_HB2
       refine off_ (wanted_un rfl rfl rfl e44) ?_
       refine hK.out _ _ ⟨(by rw [ha.out]; exact putSel_upk 18 hb_ rfl rfl rfl), Q_HB2⟩
      refine steps_cons ?_ ?_
      ·rintro b a w' ⟨ha, Q_HB2⟩ hb_ hon hoff
       refine ⟨_, rfl, fun K hK => ?_⟩
       have e44 : a.tmps[44]? = some (undef) := by rw [ha]; exact putSel_on (e := (11, 44, undef)) 11 rfl rfl (hon 11 (by kernel_rfl)) rfl
       replace ha := Aside0.mk ha
       have HB2 := Aside0.mk Q_HB2
       refine off_ (wanted_un rfl rfl rfl e44) ?_
       refine hK.out _ _ ⟨(by rw [ha.out]; exact putSel_upk 19 hb_ rfl rfl rfl), Q_HB2⟩
      refine steps_cons ?_ ?_
      ·rintro b a w' ⟨ha, Q_HB2⟩ hb_ hon hoff
       refine ⟨_, rfl, fun K hK => ?_⟩
       have e41 : a.tmps[41]? = some ((.bool true)) := by rw [ha]; exact putSel_on (e := (8, 41, (.bool true))) 8 rfl rfl (hon 8 (by kernel_rfl)) rfl
       replace ha := Aside0.mk ha
       have HB2 := Aside0.mk Q_HB2
       refine off_ (wanted_off rfl rfl rfl (e41.trans (by first | rfl | (simp [*]; done)))) ?_
       refine hK.out _ _ ⟨(by rw [ha.out]; exact putSel_upk 20 hb_ rfl rfl rfl), Q_HB2⟩
      refine steps_cons ?_ ?_
      ·rintro b a w' ⟨ha, Q_HB2⟩ hb_ hon hoff
       refine ⟨_, rfl, fun K hK => ?_⟩
       have e41 : a.tmps[41]? = some ((.bool true)) := by rw [ha]; exact putSel_on (e := (8, 41, (.bool true))) 8 rfl rfl (hon 8 (by kernel_rfl)) rfl
       have e53 : a.tmps[53]? = some (undef) := by rw [ha]; exact putSel_on (e := (20, 53, undef)) 20 rfl rfl (hon 20 (by kernel_rfl)) rfl
       replace ha := Aside0.mk ha
       have HB2 := Aside0.mk Q_HB2
       refine value_ (w1 := w') (v := (.bool true)) (by rfl) rfl ?_ ?_
       ·go_simp
        (try simp only [i64_w])
        try (first | rfl | assumption)
       refine hK.out _ _ ⟨(by rw [ha.out]; exact putSel_upk 21 hb_ rfl rfl rfl), Q_HB2⟩
      refine steps_cons ?_ ?_
      ·rintro b a w' ⟨ha, Q_HB2⟩ hb_ hon hoff
       refine ⟨_, rfl, fun K hK => ?_⟩
       have e54 : a.tmps[54]? = some ((.bool true)) := by rw [ha]; exact putSel_on (e := (21, 54, (.bool true))) 21 rfl rfl (hon 21 (by kernel_rfl)) rfl
       replace ha := Aside0.mk ha
       have HB2 := Aside0.mk Q_HB2
       refine value_ (w1 := w') (v := (.bool true)) (by rfl) rfl ?_ ?_
       ·go_simp
        (try simp only [i64_w])
        try (first | rfl | assumption)
       refine hK.out _ _ ⟨(by rw [ha.out]; exact putSel_upk 22 hb_ rfl rfl rfl), Q_HB2⟩
      exact steps_nil
     rintro b a we hall ⟨ha, Q_HB2⟩
     clear HB2
     have hb0_ := hall 0 (by kernel_rfl)
     have hb1_ := hall 1 (by kernel_rfl)
     have hb2_ := hall 2 (by kernel_rfl)
     have hb3_ := hall 3 (by kernel_rfl)
     have hb4_ := hall 4 (by kernel_rfl)
     have hb5_ := hall 5 (by kernel_rfl)
     have hb6_ := hall 6 (by kernel_rfl)
     have hb7_ := hall 7 (by kernel_rfl)
     have hb8_ := hall 8 (by kernel_rfl)
     have hb9_ := hall 9 (by kernel_rfl)
     have hb10_ := hall 10 (by kernel_rfl)
     have hb11_ := hall 11 (by kernel_rfl)
     have hb12_ := hall 12 (by kernel_rfl)
     have hb13_ := hall 13 (by kernel_rfl)
     have hb14_ := hall 14 (by kernel_rfl)
     have hb15_ := hall 15 (by kernel_rfl)
     have hb16_ := hall 16 (by kernel_rfl)
     have hb17_ := hall 17 (by kernel_rfl)
     have hb18_ := hall 18 (by kernel_rfl)
     have hb19_ := hall 19 (by kernel_rfl)
     have hb20_ := hall 20 (by kernel_rfl)
     have hb21_ := hall 21 (by kernel_rfl)
     have hb22_ := hall 22 (by kernel_rfl)
     subst ha
     simp only [putSel, hb0_, hb1_, hb2_, hb3_, hb4_, hb5_, hb6_, hb7_, hb8_, hb9_, hb10_, hb11_, hb12_, hb13_, hb14_, hb15_, hb16_, hb17_, hb18_, hb19_, hb20_, hb21_, hb22_, if_true, Act.put, List.setIfInBounds_toArray, List.set_cons_zero, List.set_cons_succ]
     have HB2 := Aside0.mk Q_HB2
     clear Q_HB2
     clear hall hb0_ hb1_ hb2_ hb3_ hb4_ hb5_ hb6_ hb7_ hb8_ hb9_ hb10_ hb11_ hb12_ hb13_ hb14_ hb15_ hb16_ hb17_ hb18_ hb19_ hb20_ hb21_ hb22_
     go_wp2_with fail
     go_ret
     exact FIN.out _ HB2.out
   ·have HF := Aside0.mk (show fineL l = false by unfold fineL; rw [← HO.out, HST.out, okX_spot hs]; rfl)
    have fin : ∀ W, Below w.heap.size w W → (Ending.returned (.bool false) = Ending.returned (.bool (fineL l)) ∧ Below w.heap.size w W) := fun W hW => ⟨by rw [HF.out], hW⟩
    have FIN := Aside0.mk fin
    by_cases h1 : 0 ≤ x.f0.f0
    ·by_cases h2 : x.f0.f0 ≤ x.f0.f1
     ·have h3 : ¬ x.f0.f1 ≤ 16777216 := fun h3 => hs ⟨h1, h2, h3⟩
      clear hs fin
      go_wp2_with (first | rw [← HG1.out, ← HW1.out] | rw [← HW2.out])
      go_ret
      exact FIN.out _ HB2.out
     ·clear hs fin
      go_wp2_with (first | rw [← HG1.out, ← HW1.out] | rw [← HW2.out])
      go_ret
      exact FIN.out _ HB2.out
    ·clear hs fin
     go_wp2_with (first | rw [← HG1.out, ← HW1.out] | rw [← HW2.out])
     go_ret
     exact FIN.out _ HB2.out
  ·obtain rfl : j = l.length := by omega
   have HF := Aside0.mk (show fineL l = decide ((l.length : Int) ≤ 4096) by
    have h := HO.out
    rw [List.drop_eq_nil_of_le (Nat.le_refl _)] at h
    unfold fineL
    rw [← h]
    show (true && decide (l.length ≤ 4096)) = _
    rw [Bool.true_and]
    exact decide_eq_decide.2 (by omega))
   have hlt' : ¬ ((l.length : Int) < (l.length : Int)) := by omega
   go_wp2_with fail
   go_ret
   exact ⟨by rw [HF.out]; rfl, HB.out⟩
end Go.Proofs.Ytedfcjcnhgomoaa.MsgF
end
-- MERGED YtedfcjcnhgomoaaPPart2
section
namespace Go.Proofs.Ytedfcjcnhgomoaa.P
open Go.RowKit Go.Proofs.YtedfcjcnhgomoaaW.PrintWords Go.Proofs.YtedfcjcnhgomoaaW.PrintLast Go.Proofs.YtedfcjcnhgomoaaW.PrintMore
attribute [local go_sem] max2_int min2_int max_two min_two max_three min_three max_four min_four   -- for this text's walks alone
set_option linter.unusedVariables false
set_option linter.unusedSimpArgs false
theorem eqA85 (d : Nat) (w : World) (x0 y0 : Int) (x1 y1 : ByteArray) (x2 y2 : Int) :
  (Op.equalIn (d + 2) 85 (.agg #[.int .i64 x0, .string x1, .int .i64 x2]) (.agg #[.int .i64 y0, .string y1, .int .i64 y2])).run Try.prog w = .ok (x0 == y0 && (x1.toList == y1.toList && (x2 == y2))) w := by
 refine eqA_of Try.underlying85 (by kernel_rfl) ?_
 refine eqf_cons (by rfl) (by go_simp; rfl) (by go_simp; rfl) (by go_simp) ?_
 refine eqf_cons (by rfl) (by go_simp; rfl) (by go_simp; rfl) (by go_simp) ?_
 exact eqf_last (by rfl) (by go_simp; rfl) (by go_simp; rfl) (by go_simp)
end Go.Proofs.Ytedfcjcnhgomoaa.P
end
-- MERGED YtedfcjcnhgomoaaPeditkind
section
namespace Go.Proofs.Ytedfcjcnhgomoaa.P
open Go.RowKit Go.Proofs.YtedfcjcnhgomoaaW.PrintWords Go.Proofs.YtedfcjcnhgomoaaW.PrintLast Go.Proofs.YtedfcjcnhgomoaaW.PrintMore
attribute [local go_sem] max2_int min2_int max_two min_two max_three min_three max_four min_four   -- for this text's walks alone
set_option linter.unusedVariables false
set_option linter.unusedSimpArgs false
def edit_kind.f (a0_0 : Int) (a0_1 : ByteArray) (a0_2 : Int) : Option (Int) := some (EditL.knd ⟨a0_0, a0_1, a0_2⟩)
attribute [local go_sem high] eqA85
theorem edit_kind.lnil (s : ByteArray) (h : s.size ≠ 0) : (s.toList == ([] : List UInt8)) = false := by
 rw [beq_eq_false_iff_ne, ByteArray.toList_eq]
 intro e
 apply h
 show s.data.size = 0
 rw [← Array.length_toList, e]; rfl
set_option maxHeartbeats 8000000 in
set_option maxRecDepth 100000 in
theorem edit_kind.calls (a0_0 : Int) (a0_1 : ByteArray) (a0_2 : Int) (r : Int) (w : World) (h : edit_kind.f a0_0 a0_1 a0_2 = some r) :
  Calls Try.prog 114 #[.agg #[.int .i64 a0_0, .string a0_1, .int .i64 a0_2]] w fun e w' => e = .returned (.int .i64 r) ∧ Below w.heap.size w w' := by
 obtain rfl := Option.some.inj h
 clear h
 have HB := Aside0.mk (below_alloc (Below.refl w.heap.size w) (.cells #[.int .i64 a0_0, .string a0_1, .int .i64 a0_2] 85))
 obtain ⟨n, hn⟩ : ∃ n, n = a0_1.size := ⟨_, rfl⟩
 have HK := Aside0.mk (show ∀ x y : Int, x = a0_0 → y = a0_2 → EditL.knd ⟨a0_0, a0_1, a0_2⟩ = if 0 < x ∧ n = 0 ∧ y = 0 then 1 else if x = 0 ∧ n ≠ 0 ∧ y = 0 then 2 else if x = 0 ∧ n = 0 ∧ 0 < y then 3 else 0 from fun x y hx hy => by rw [hx, hy, hn]; rfl)
 have HN := Aside0.mk hn
 obtain ⟨K, hK⟩ : ∃ K, K = EditL.knd ⟨a0_0, a0_1, a0_2⟩ := ⟨_, rfl⟩
 rw [← hK] at HK ⊢
 clear hK hn
 have h0 : a0_0 < 0 ∨ a0_0 = 0 ∨ 0 < a0_0 := by omega
 have h2 : a0_2 < 0 ∨ a0_2 = 0 ∨ 0 < a0_2 := by omega
 by_cases h1 : a0_1.size = 0
 ·have e1 : a0_1 = ⟨#[]⟩ := EditL.eq_E h1
  subst e1
  have HZ := Aside0.mk (HN.out.trans h1)
  clear h1 HN
  rcases h0 with h0 | rfl | h0
  all_goals rcases h2 with h2 | rfl | h2
  all_goals try have g0 : (a0_0 == 0) = false := by simp; omega
  all_goals try have g2 : (a0_2 == 0) = false := by simp; omega
  all_goals try have g0' : ¬ 0 < a0_0 := by omega
  all_goals try have g2' : ¬ 0 < a0_2 := by omega
  all_goals
   go_enter Try.func114, Try.ntmps114
   go_wp2_with fail
   go_ret
   refine ⟨?_, HB.out⟩
   refine congrArg (fun x : Int => Ending.returned (Value.int IntKind.i64 x)) ?_
   rw [HK.out _ _ rfl rfl]
   have := HZ.out
   clear HK HZ HB
   (repeat' split) <;> omega
 ·have g1 := edit_kind.lnil a0_1 h1
  have HZ := Aside0.mk (show n ≠ 0 by rw [HN.out]; exact h1)
  clear h1 HN
  rcases h0 with h0 | rfl | h0
  all_goals rcases h2 with h2 | rfl | h2
  all_goals try have g0 : (a0_0 == 0) = false := by simp; omega
  all_goals try have g2 : (a0_2 == 0) = false := by simp; omega
  all_goals try have g0' : ¬ 0 < a0_0 := by omega
  all_goals try have g2' : ¬ 0 < a0_2 := by omega
  all_goals
   go_enter Try.func114, Try.ntmps114
   go_wp2_with fail
   go_ret
   refine ⟨?_, HB.out⟩
   refine congrArg (fun x : Int => Ending.returned (Value.int IntKind.i64 x)) ?_
   rw [HK.out _ _ rfl rfl]
   have := HZ.out
   clear HK HZ HB
   (repeat' split) <;> omega
end Go.Proofs.Ytedfcjcnhgomoaa.P
end
-- MERGED YtedfcjcnhgomoaaPeditright
section
namespace Go.Proofs.Ytedfcjcnhgomoaa.P
open Go.RowKit Go.Proofs.YtedfcjcnhgomoaaW.PrintWords Go.Proofs.YtedfcjcnhgomoaaW.PrintLast Go.Proofs.YtedfcjcnhgomoaaW.PrintMore
attribute [local go_sem] max2_int min2_int max_two min_two max_three min_three max_four min_four   -- for this text's walks alone
set_option linter.unusedVariables false
set_option linter.unusedSimpArgs false
def edit_right.l0 : Nat → List (S85) → Int → List (S85) → Int → Int → Option (Bool)
 | 0, _, _, _, _, _ => none
 | k + 1, x0, x3, x7, x8, x9 => if x9 < x8 then (if 0 ≤ x9 then (if x9 < (x7.length : Int) then ((edit_kind.f ((rd_T85 x7 x9).f0) ((rd_T85 x7 x9).f1) ((rd_T85 x7 x9).f2)).bind fun t250 => (if t250 = 0 then (some false) else (if t250 = x3 then (some false) else (if x3 = 3 then (if t250 = 2 then (some false) else (edit_right.l0 k x0 t250 x7 x8 (wrap64 (x9 + 1)))) else (edit_right.l0 k x0 t250 x7 x8 (wrap64 (x9 + 1))))))) else (none)) else (none)) else (some (decide ((x0.length : Int) ≤ 65536)))
def edit_right.f (k : Nat) (l0 : List (S85)) : Option (Bool) := edit_right.l0 k l0 0 l0 (l0.length : Int) 0
set_option maxHeartbeats 8000000 in
set_option maxRecDepth 100000 in
theorem edit_right.calls (k : Nat) (A0 : Option Addr) (c0 : Nat) (l0 : List (S85)) (r : Bool) (w : World) (hr0 : Kd.C k85 w A0 l0.length l0) (hc0 : l0.length ≤ c0) (h : edit_right.f k l0 = some r) :
  Calls Try.prog 109 #[.slice A0 l0.length c0] w fun e w' => e = .returned (.bool r) ∧ Below w.heap.size w w' := by
 have hu85 := Try.underlying85
 have HR0 := Aside0.mk hr0
 have HC0 := Aside0.mk hc0
 clear hr0 hc0
 have HB := Aside0.mk (Below.refl w.heap.size w)
 have H : (edit_right.l0 k l0 0 l0 (l0.length : Int) 0) = some r := h
 clear h
 have H' := Aside0.mk H
 clear H
 go_enter Try.func109, Try.ntmps109
 go_wp2
 go_loopg [3, 9] k (fun kq v3 v9 w' => ∃ (x3_1 : Int) (x9_1 : Int), v3 = .int .i64 x3_1 ∧ v9 = .int .i64 x9_1 ∧ Aside0 (edit_right.l0 kq l0 x3_1 l0 (l0.length : Int) x9_1 = some r) ∧ Aside0 (kq ≤ k) ∧ Aside0 (Below w.heap.size w w'))
 case atStart => exact ⟨(0), (0), (by (rfl)), (by (rfl)), H', ⟨Nat.le_refl _⟩, ⟨by repeat ((with_reducible (exact HB.out)))⟩⟩
 case round =>
  clear H'
  try clear c1
  obtain ⟨x3_1, x9_1, rfl, rfl, HA, HK1, HB⟩ := hrel
  cases gk with
  | zero => exact absurd HA.out (by simp [edit_right.l0])
  | succ k1 =>
   have H := HA.out
   clear HA
   simp only [edit_right.l0] at H
   by_cases c2 : x9_1 < (l0.length : Int)
   ·rw [if_pos c2] at H
    have c2b0 : decide (x9_1 < (l0.length : Int)) = true := decide_eq_true c2
    clear c2
    by_cases c3 : 0 ≤ x9_1
    ·rw [if_pos c3] at H
     have c3b0 : decide (0 ≤ x9_1) = true := decide_eq_true c3
     clear c3
     by_cases c4 : x9_1 < (l0.length : Int)
     ·rw [if_pos c4] at H
      have c4b0 : decide (x9_1 < (l0.length : Int)) = true := decide_eq_true c4
      clear c4
      replace H := Option.bind_eq_some_iff.mp H
      obtain ⟨t250, A50, H⟩ := H
      replace H : (if t250 = 0 then (some false) else (if t250 = x3_1 then (some false) else (if x3_1 = 3 then (if t250 = 2 then (some false) else (edit_right.l0 k1 l0 t250 l0 (l0.length : Int) (wrap64 (x9_1 + 1)))) else (edit_right.l0 k1 l0 t250 l0 (l0.length : Int) (wrap64 (x9_1 + 1)))))) = some r := H
      have A5 := Aside0.mk A50
      clear A50
      by_cases c6 : t250 = 0
      ·rw [if_pos c6] at H
       have c6b0 : (t250 == 0) = true := beq_iff_eq.mpr c6
       have c6b1 : (t250 != 0) = false := bne_eq_false_iff_eq.mpr c6
       clear c6
       obtain rfl := Option.some.inj H
       have p248 : 0 ≤ (x9_1 : Int) := of_decide_eq_true (by (with_reducible assumption))
       have q248 : x9_1 < (l0.length : Int) := of_decide_eq_true (by (with_reducible assumption))
       obtain ⟨ad248, e248, hx248_0, hx248_1, hx248_2⟩ := at_T85 HR0.out x9_1 p248 q248
       cases e248
       replace hx248_0 := (HB.out.cell (World.block_lt_of_cell? w _ hx248_0)).trans hx248_0
       replace hx248_1 := (HB.out.cell (World.block_lt_of_cell? w _ hx248_1)).trans hx248_1
       replace hx248_2 := (HB.out.cell (World.block_lt_of_cell? w _ hx248_2)).trans hx248_2
       replace p248 := eq_true p248
       replace q248 := eq_true q248
       go_wp2_with (first | ((with_reducible refine gate_dst (N := 5) rfl ?_); refine box_event ?hg (N := 5) ?hd (cs := #[.int .i64 0, .string (⟨#[]⟩ : ByteArray), .int .i64 0]) (t := 85) ?hr ?_; (case hd => rfl); (case hg => rfl); (case hr => (go_simp; done)); intro gb249 hg w7 hbox hb; have n0_ := Aside0.mk (below_step (by repeat ((with_reducible (exact HB.out)))) hb); have n1_ := Aside0.mk (hbox); have n2_ := Aside0.mk ((by rw [hg]; exact (below_size (by repeat ((with_reducible (exact HB.out))))) : w.heap.size ≤ gb249)); have n3_ := Aside0.mk ((by rw [hg]; exact (below_size (by repeat ((with_reducible (exact HB.out))))) : w.heap.size ≤ gb249)); clear HB; have HB := n0_; have BK249 := n1_; have GW249 := n2_; have GE249 := n3_; clear n0_ n1_ n2_ n3_; clear hb hbox hg; have hcz8_0 : w7.cell? ⟨gb249, 0, none⟩ = some (.int .i64 0) := (blk_cell BK249.out 0).trans rfl; have hcz8_1 : w7.cell? ⟨gb249, 1, none⟩ = some (.string (⟨#[]⟩ : ByteArray)) := (blk_cell BK249.out 1).trans rfl; have hcz8_2 : w7.cell? ⟨gb249, 2, none⟩ = some (.int .i64 0) := (blk_cell BK249.out 2).trans rfl; have hfz8_0 := blk_frozen BK249.out 0; have hfz8_1 := blk_frozen BK249.out 1; have hfz8_2 := blk_frozen BK249.out 2) | ((with_reducible refine gate_callee (f := 114) rfl ?_); refine goesL_ (some 14) rfl rfl Try.func114 (by kernel_rfl) rfl #[.agg #[.int .i64 ((rd_T85 l0 x9_1).f0), .string ((rd_T85 l0 x9_1).f1), .int .i64 ((rd_T85 l0 x9_1).f2)]] rfl (by (try simp only [List.map_toArray, List.map_cons, List.map_nil]); (rfl)) ?_; (with_reducible refine (edit_kind.calls ((rd_T85 l0 x9_1).f0) ((rd_T85 l0 x9_1).f1) ((rd_T85 l0 x9_1).f2) t250 _ A5.out).mono ?_); rintro e w9 ⟨rfl, hb⟩; refine ⟨_, rfl, ?_⟩; have n0_ := Aside0.mk (blk_below (g := gb249) (o := .cells #[.int .i64 ((rd_T85 l0 x9_1).f0), .string ((rd_T85 l0 x9_1).f1), .int .i64 ((rd_T85 l0 x9_1).f2)] 85 (0, 0)) (by (with_reducible repeat ((refine blk_drew ?_))); refine blk_put (cs := #[.int .i64 ((rd_T85 l0 x9_1).f0), .string ((rd_T85 l0 x9_1).f1), .int .i64 0]) ?_ 2 _ rfl; (with_reducible repeat ((refine blk_drew ?_))); refine blk_put (cs := #[.int .i64 ((rd_T85 l0 x9_1).f0), .string (⟨#[]⟩ : ByteArray), .int .i64 0]) ?_ 1 _ rfl; (with_reducible repeat ((refine blk_drew ?_))); refine blk_put (cs := #[.int .i64 0, .string (⟨#[]⟩ : ByteArray), .int .i64 0]) ?_ 0 _ rfl; (with_reducible repeat ((refine blk_drew ?_))); exact BK249.out) hb); have n1_ := Aside0.mk (below_step (by repeat ((with_reducible first | exact HB.out | refine below_set ?_ GE249.out))) hb); clear BK249; clear HB; have BK249 := n0_; have HB := n1_; clear n0_ n1_; (try clear hb); (try clear hb2); (try clear hk); (try clear hi)))
       go_ret
       exact ⟨by (rfl), by repeat ((with_reducible (exact HB.out)))⟩
      ·rw [if_neg c6] at H
       have c6b0 : (t250 == 0) = false := beq_eq_false_iff_ne.mpr c6
       have c6b1 : (t250 != 0) = true := bne_iff_ne.mpr c6
       by_cases c10 : t250 = x3_1
       ·rw [if_pos c10] at H
        have c10b0 : (t250 == x3_1) = true := beq_iff_eq.mpr c10
        have c10b1 : (t250 != x3_1) = false := bne_eq_false_iff_eq.mpr c10
        clear c10
        obtain rfl := Option.some.inj H
        have p248 : 0 ≤ (x9_1 : Int) := of_decide_eq_true (by (with_reducible assumption))
        have q248 : x9_1 < (l0.length : Int) := of_decide_eq_true (by (with_reducible assumption))
        obtain ⟨ad248, e248, hx248_0, hx248_1, hx248_2⟩ := at_T85 HR0.out x9_1 p248 q248
        cases e248
        replace hx248_0 := (HB.out.cell (World.block_lt_of_cell? w _ hx248_0)).trans hx248_0
        replace hx248_1 := (HB.out.cell (World.block_lt_of_cell? w _ hx248_1)).trans hx248_1
        replace hx248_2 := (HB.out.cell (World.block_lt_of_cell? w _ hx248_2)).trans hx248_2
        replace p248 := eq_true p248
        replace q248 := eq_true q248
        go_wp2_with (first | ((with_reducible refine gate_dst (N := 5) rfl ?_); refine box_event ?hg (N := 5) ?hd (cs := #[.int .i64 0, .string (⟨#[]⟩ : ByteArray), .int .i64 0]) (t := 85) ?hr ?_; (case hd => rfl); (case hg => rfl); (case hr => (go_simp; done)); intro gb249 hg w11 hbox hb; have n0_ := Aside0.mk (below_step (by repeat ((with_reducible (exact HB.out)))) hb); have n1_ := Aside0.mk (hbox); have n2_ := Aside0.mk ((by rw [hg]; exact (below_size (by repeat ((with_reducible (exact HB.out))))) : w.heap.size ≤ gb249)); have n3_ := Aside0.mk ((by rw [hg]; exact (below_size (by repeat ((with_reducible (exact HB.out))))) : w.heap.size ≤ gb249)); clear HB; have HB := n0_; have BK249 := n1_; have GW249 := n2_; have GE249 := n3_; clear n0_ n1_ n2_ n3_; clear hb hbox hg; have hcz12_0 : w11.cell? ⟨gb249, 0, none⟩ = some (.int .i64 0) := (blk_cell BK249.out 0).trans rfl; have hcz12_1 : w11.cell? ⟨gb249, 1, none⟩ = some (.string (⟨#[]⟩ : ByteArray)) := (blk_cell BK249.out 1).trans rfl; have hcz12_2 : w11.cell? ⟨gb249, 2, none⟩ = some (.int .i64 0) := (blk_cell BK249.out 2).trans rfl; have hfz12_0 := blk_frozen BK249.out 0; have hfz12_1 := blk_frozen BK249.out 1; have hfz12_2 := blk_frozen BK249.out 2) | ((with_reducible refine gate_callee (f := 114) rfl ?_); refine goesL_ (some 14) rfl rfl Try.func114 (by kernel_rfl) rfl #[.agg #[.int .i64 ((rd_T85 l0 x9_1).f0), .string ((rd_T85 l0 x9_1).f1), .int .i64 ((rd_T85 l0 x9_1).f2)]] rfl (by (try simp only [List.map_toArray, List.map_cons, List.map_nil]); (rfl)) ?_; (with_reducible refine (edit_kind.calls ((rd_T85 l0 x9_1).f0) ((rd_T85 l0 x9_1).f1) ((rd_T85 l0 x9_1).f2) t250 _ A5.out).mono ?_); rintro e w13 ⟨rfl, hb⟩; refine ⟨_, rfl, ?_⟩; have n0_ := Aside0.mk (blk_below (g := gb249) (o := .cells #[.int .i64 ((rd_T85 l0 x9_1).f0), .string ((rd_T85 l0 x9_1).f1), .int .i64 ((rd_T85 l0 x9_1).f2)] 85 (0, 0)) (by (with_reducible repeat ((refine blk_drew ?_))); refine blk_put (cs := #[.int .i64 ((rd_T85 l0 x9_1).f0), .string ((rd_T85 l0 x9_1).f1), .int .i64 0]) ?_ 2 _ rfl; (with_reducible repeat ((refine blk_drew ?_))); refine blk_put (cs := #[.int .i64 ((rd_T85 l0 x9_1).f0), .string (⟨#[]⟩ : ByteArray), .int .i64 0]) ?_ 1 _ rfl; (with_reducible repeat ((refine blk_drew ?_))); refine blk_put (cs := #[.int .i64 0, .string (⟨#[]⟩ : ByteArray), .int .i64 0]) ?_ 0 _ rfl; (with_reducible repeat ((refine blk_drew ?_))); exact BK249.out) hb); have n1_ := Aside0.mk (below_step (by repeat ((with_reducible first | exact HB.out | refine below_set ?_ GE249.out))) hb); clear BK249; clear HB; have BK249 := n0_; have HB := n1_; clear n0_ n1_; (try clear hb); (try clear hb2); (try clear hk); (try clear hi)))
        go_ret
        exact ⟨by (rfl), by repeat ((with_reducible (exact HB.out)))⟩
       ·rw [if_neg c10] at H
        have c10b0 : (t250 == x3_1) = false := beq_eq_false_iff_ne.mpr c10
        have c10b1 : (t250 != x3_1) = true := bne_iff_ne.mpr c10
        by_cases c14 : x3_1 = 3
        ·rw [if_pos c14] at H
         have c14b0 : (x3_1 == 3) = true := beq_iff_eq.mpr c14
         have c14b1 : (x3_1 != 3) = false := bne_eq_false_iff_eq.mpr c14
         clear c14
         by_cases c15 : t250 = 2
         ·rw [if_pos c15] at H
          have c15b0 : (t250 == 2) = true := beq_iff_eq.mpr c15
          have c15b1 : (t250 != 2) = false := bne_eq_false_iff_eq.mpr c15
          clear c15
          obtain rfl := Option.some.inj H
          have p248 : 0 ≤ (x9_1 : Int) := of_decide_eq_true (by (with_reducible assumption))
          have q248 : x9_1 < (l0.length : Int) := of_decide_eq_true (by (with_reducible assumption))
          obtain ⟨ad248, e248, hx248_0, hx248_1, hx248_2⟩ := at_T85 HR0.out x9_1 p248 q248
          cases e248
          replace hx248_0 := (HB.out.cell (World.block_lt_of_cell? w _ hx248_0)).trans hx248_0
          replace hx248_1 := (HB.out.cell (World.block_lt_of_cell? w _ hx248_1)).trans hx248_1
          replace hx248_2 := (HB.out.cell (World.block_lt_of_cell? w _ hx248_2)).trans hx248_2
          replace p248 := eq_true p248
          replace q248 := eq_true q248
          go_wp2_with (first | ((with_reducible refine gate_dst (N := 5) rfl ?_); refine box_event ?hg (N := 5) ?hd (cs := #[.int .i64 0, .string (⟨#[]⟩ : ByteArray), .int .i64 0]) (t := 85) ?hr ?_; (case hd => rfl); (case hg => rfl); (case hr => (go_simp; done)); intro gb249 hg w16 hbox hb; have n0_ := Aside0.mk (below_step (by repeat ((with_reducible (exact HB.out)))) hb); have n1_ := Aside0.mk (hbox); have n2_ := Aside0.mk ((by rw [hg]; exact (below_size (by repeat ((with_reducible (exact HB.out))))) : w.heap.size ≤ gb249)); have n3_ := Aside0.mk ((by rw [hg]; exact (below_size (by repeat ((with_reducible (exact HB.out))))) : w.heap.size ≤ gb249)); clear HB; have HB := n0_; have BK249 := n1_; have GW249 := n2_; have GE249 := n3_; clear n0_ n1_ n2_ n3_; clear hb hbox hg; have hcz17_0 : w16.cell? ⟨gb249, 0, none⟩ = some (.int .i64 0) := (blk_cell BK249.out 0).trans rfl; have hcz17_1 : w16.cell? ⟨gb249, 1, none⟩ = some (.string (⟨#[]⟩ : ByteArray)) := (blk_cell BK249.out 1).trans rfl; have hcz17_2 : w16.cell? ⟨gb249, 2, none⟩ = some (.int .i64 0) := (blk_cell BK249.out 2).trans rfl; have hfz17_0 := blk_frozen BK249.out 0; have hfz17_1 := blk_frozen BK249.out 1; have hfz17_2 := blk_frozen BK249.out 2) | ((with_reducible refine gate_callee (f := 114) rfl ?_); refine goesL_ (some 14) rfl rfl Try.func114 (by kernel_rfl) rfl #[.agg #[.int .i64 ((rd_T85 l0 x9_1).f0), .string ((rd_T85 l0 x9_1).f1), .int .i64 ((rd_T85 l0 x9_1).f2)]] rfl (by (try simp only [List.map_toArray, List.map_cons, List.map_nil]); (rfl)) ?_; (with_reducible refine (edit_kind.calls ((rd_T85 l0 x9_1).f0) ((rd_T85 l0 x9_1).f1) ((rd_T85 l0 x9_1).f2) t250 _ A5.out).mono ?_); rintro e w18 ⟨rfl, hb⟩; refine ⟨_, rfl, ?_⟩; have n0_ := Aside0.mk (blk_below (g := gb249) (o := .cells #[.int .i64 ((rd_T85 l0 x9_1).f0), .string ((rd_T85 l0 x9_1).f1), .int .i64 ((rd_T85 l0 x9_1).f2)] 85 (0, 0)) (by (with_reducible repeat ((refine blk_drew ?_))); refine blk_put (cs := #[.int .i64 ((rd_T85 l0 x9_1).f0), .string ((rd_T85 l0 x9_1).f1), .int .i64 0]) ?_ 2 _ rfl; (with_reducible repeat ((refine blk_drew ?_))); refine blk_put (cs := #[.int .i64 ((rd_T85 l0 x9_1).f0), .string (⟨#[]⟩ : ByteArray), .int .i64 0]) ?_ 1 _ rfl; (with_reducible repeat ((refine blk_drew ?_))); refine blk_put (cs := #[.int .i64 0, .string (⟨#[]⟩ : ByteArray), .int .i64 0]) ?_ 0 _ rfl; (with_reducible repeat ((refine blk_drew ?_))); exact BK249.out) hb); have n1_ := Aside0.mk (below_step (by repeat ((with_reducible first | exact HB.out | refine below_set ?_ GE249.out))) hb); clear BK249; clear HB; have BK249 := n0_; have HB := n1_; clear n0_ n1_; (try clear hb); (try clear hb2); (try clear hk); (try clear hi)))
          go_ret
          exact ⟨by (rfl), by repeat ((with_reducible (exact HB.out)))⟩
         ·rw [if_neg c15] at H
          have c15b0 : (t250 == 2) = false := beq_eq_false_iff_ne.mpr c15
          have c15b1 : (t250 != 2) = true := bne_iff_ne.mpr c15
          have H' := Aside0.mk H
          clear H
          have p248 : 0 ≤ (x9_1 : Int) := of_decide_eq_true (by (with_reducible assumption))
          have q248 : x9_1 < (l0.length : Int) := of_decide_eq_true (by (with_reducible assumption))
          obtain ⟨ad248, e248, hx248_0, hx248_1, hx248_2⟩ := at_T85 HR0.out x9_1 p248 q248
          cases e248
          replace hx248_0 := (HB.out.cell (World.block_lt_of_cell? w _ hx248_0)).trans hx248_0
          replace hx248_1 := (HB.out.cell (World.block_lt_of_cell? w _ hx248_1)).trans hx248_1
          replace hx248_2 := (HB.out.cell (World.block_lt_of_cell? w _ hx248_2)).trans hx248_2
          replace p248 := eq_true p248
          replace q248 := eq_true q248
          go_wp2_with (first | ((with_reducible refine gate_dst (N := 5) rfl ?_); refine box_event ?hg (N := 5) ?hd (cs := #[.int .i64 0, .string (⟨#[]⟩ : ByteArray), .int .i64 0]) (t := 85) ?hr ?_; (case hd => rfl); (case hg => rfl); (case hr => (go_simp; done)); intro gb249 hg w19 hbox hb; have n0_ := Aside0.mk (below_step (by repeat ((with_reducible (exact HB.out)))) hb); have n1_ := Aside0.mk (hbox); have n2_ := Aside0.mk ((by rw [hg]; exact (below_size (by repeat ((with_reducible (exact HB.out))))) : w.heap.size ≤ gb249)); have n3_ := Aside0.mk ((by rw [hg]; exact (below_size (by repeat ((with_reducible (exact HB.out))))) : w.heap.size ≤ gb249)); clear HB; have HB := n0_; have BK249 := n1_; have GW249 := n2_; have GE249 := n3_; clear n0_ n1_ n2_ n3_; clear hb hbox hg; have hcz20_0 : w19.cell? ⟨gb249, 0, none⟩ = some (.int .i64 0) := (blk_cell BK249.out 0).trans rfl; have hcz20_1 : w19.cell? ⟨gb249, 1, none⟩ = some (.string (⟨#[]⟩ : ByteArray)) := (blk_cell BK249.out 1).trans rfl; have hcz20_2 : w19.cell? ⟨gb249, 2, none⟩ = some (.int .i64 0) := (blk_cell BK249.out 2).trans rfl; have hfz20_0 := blk_frozen BK249.out 0; have hfz20_1 := blk_frozen BK249.out 1; have hfz20_2 := blk_frozen BK249.out 2) | ((with_reducible refine gate_callee (f := 114) rfl ?_); refine goesL_ (some 14) rfl rfl Try.func114 (by kernel_rfl) rfl #[.agg #[.int .i64 ((rd_T85 l0 x9_1).f0), .string ((rd_T85 l0 x9_1).f1), .int .i64 ((rd_T85 l0 x9_1).f2)]] rfl (by (try simp only [List.map_toArray, List.map_cons, List.map_nil]); (rfl)) ?_; (with_reducible refine (edit_kind.calls ((rd_T85 l0 x9_1).f0) ((rd_T85 l0 x9_1).f1) ((rd_T85 l0 x9_1).f2) t250 _ A5.out).mono ?_); rintro e w21 ⟨rfl, hb⟩; refine ⟨_, rfl, ?_⟩; have n0_ := Aside0.mk (blk_below (g := gb249) (o := .cells #[.int .i64 ((rd_T85 l0 x9_1).f0), .string ((rd_T85 l0 x9_1).f1), .int .i64 ((rd_T85 l0 x9_1).f2)] 85 (0, 0)) (by (with_reducible repeat ((refine blk_drew ?_))); refine blk_put (cs := #[.int .i64 ((rd_T85 l0 x9_1).f0), .string ((rd_T85 l0 x9_1).f1), .int .i64 0]) ?_ 2 _ rfl; (with_reducible repeat ((refine blk_drew ?_))); refine blk_put (cs := #[.int .i64 ((rd_T85 l0 x9_1).f0), .string (⟨#[]⟩ : ByteArray), .int .i64 0]) ?_ 1 _ rfl; (with_reducible repeat ((refine blk_drew ?_))); refine blk_put (cs := #[.int .i64 0, .string (⟨#[]⟩ : ByteArray), .int .i64 0]) ?_ 0 _ rfl; (with_reducible repeat ((refine blk_drew ?_))); exact BK249.out) hb); have n1_ := Aside0.mk (below_step (by repeat ((with_reducible first | exact HB.out | refine below_set ?_ GE249.out))) hb); clear BK249; clear HB; have BK249 := n0_; have HB := n1_; clear n0_ n1_; (try clear hb); (try clear hb2); (try clear hk); (try clear hi)))
          go_roundg k1
          case measure => have := HK1.out; omega
          case rel => exact ⟨(t250), (wrap64 (x9_1 + 1)), (by (rfl)), (by (rfl)), H', ⟨by have := HK1.out; omega⟩, ⟨by repeat ((with_reducible (exact HB.out)))⟩⟩
        ·rw [if_neg c14] at H
         have c14b0 : (x3_1 == 3) = false := beq_eq_false_iff_ne.mpr c14
         have c14b1 : (x3_1 != 3) = true := bne_iff_ne.mpr c14
         have H' := Aside0.mk H
         clear H
         have p248 : 0 ≤ (x9_1 : Int) := of_decide_eq_true (by (with_reducible assumption))
         have q248 : x9_1 < (l0.length : Int) := of_decide_eq_true (by (with_reducible assumption))
         obtain ⟨ad248, e248, hx248_0, hx248_1, hx248_2⟩ := at_T85 HR0.out x9_1 p248 q248
         cases e248
         replace hx248_0 := (HB.out.cell (World.block_lt_of_cell? w _ hx248_0)).trans hx248_0
         replace hx248_1 := (HB.out.cell (World.block_lt_of_cell? w _ hx248_1)).trans hx248_1
         replace hx248_2 := (HB.out.cell (World.block_lt_of_cell? w _ hx248_2)).trans hx248_2
         replace p248 := eq_true p248
         replace q248 := eq_true q248
         go_wp2_with (first | ((with_reducible refine gate_dst (N := 5) rfl ?_); refine box_event ?hg (N := 5) ?hd (cs := #[.int .i64 0, .string (⟨#[]⟩ : ByteArray), .int .i64 0]) (t := 85) ?hr ?_; (case hd => rfl); (case hg => rfl); (case hr => (go_simp; done)); intro gb249 hg w22 hbox hb; have n0_ := Aside0.mk (below_step (by repeat ((with_reducible (exact HB.out)))) hb); have n1_ := Aside0.mk (hbox); have n2_ := Aside0.mk ((by rw [hg]; exact (below_size (by repeat ((with_reducible (exact HB.out))))) : w.heap.size ≤ gb249)); have n3_ := Aside0.mk ((by rw [hg]; exact (below_size (by repeat ((with_reducible (exact HB.out))))) : w.heap.size ≤ gb249)); clear HB; have HB := n0_; have BK249 := n1_; have GW249 := n2_; have GE249 := n3_; clear n0_ n1_ n2_ n3_; clear hb hbox hg; have hcz23_0 : w22.cell? ⟨gb249, 0, none⟩ = some (.int .i64 0) := (blk_cell BK249.out 0).trans rfl; have hcz23_1 : w22.cell? ⟨gb249, 1, none⟩ = some (.string (⟨#[]⟩ : ByteArray)) := (blk_cell BK249.out 1).trans rfl; have hcz23_2 : w22.cell? ⟨gb249, 2, none⟩ = some (.int .i64 0) := (blk_cell BK249.out 2).trans rfl; have hfz23_0 := blk_frozen BK249.out 0; have hfz23_1 := blk_frozen BK249.out 1; have hfz23_2 := blk_frozen BK249.out 2) | ((with_reducible refine gate_callee (f := 114) rfl ?_); refine goesL_ (some 14) rfl rfl Try.func114 (by kernel_rfl) rfl #[.agg #[.int .i64 ((rd_T85 l0 x9_1).f0), .string ((rd_T85 l0 x9_1).f1), .int .i64 ((rd_T85 l0 x9_1).f2)]] rfl (by (try simp only [List.map_toArray, List.map_cons, List.map_nil]); (rfl)) ?_; (with_reducible refine (edit_kind.calls ((rd_T85 l0 x9_1).f0) ((rd_T85 l0 x9_1).f1) ((rd_T85 l0 x9_1).f2) t250 _ A5.out).mono ?_); rintro e w24 ⟨rfl, hb⟩; refine ⟨_, rfl, ?_⟩; have n0_ := Aside0.mk (blk_below (g := gb249) (o := .cells #[.int .i64 ((rd_T85 l0 x9_1).f0), .string ((rd_T85 l0 x9_1).f1), .int .i64 ((rd_T85 l0 x9_1).f2)] 85 (0, 0)) (by (with_reducible repeat ((refine blk_drew ?_))); refine blk_put (cs := #[.int .i64 ((rd_T85 l0 x9_1).f0), .string ((rd_T85 l0 x9_1).f1), .int .i64 0]) ?_ 2 _ rfl; (with_reducible repeat ((refine blk_drew ?_))); refine blk_put (cs := #[.int .i64 ((rd_T85 l0 x9_1).f0), .string (⟨#[]⟩ : ByteArray), .int .i64 0]) ?_ 1 _ rfl; (with_reducible repeat ((refine blk_drew ?_))); refine blk_put (cs := #[.int .i64 0, .string (⟨#[]⟩ : ByteArray), .int .i64 0]) ?_ 0 _ rfl; (with_reducible repeat ((refine blk_drew ?_))); exact BK249.out) hb); have n1_ := Aside0.mk (below_step (by repeat ((with_reducible first | exact HB.out | refine below_set ?_ GE249.out))) hb); clear BK249; clear HB; have BK249 := n0_; have HB := n1_; clear n0_ n1_; (try clear hb); (try clear hb2); (try clear hk); (try clear hi)))
         go_roundg k1
         case measure => have := HK1.out; omega
         case rel => exact ⟨(t250), (wrap64 (x9_1 + 1)), (by (rfl)), (by (rfl)), H', ⟨by have := HK1.out; omega⟩, ⟨by repeat ((with_reducible (exact HB.out)))⟩⟩
     ·rw [if_neg c4] at H
      exact absurd H (by simp)
    ·rw [if_neg c3] at H
     exact absurd H (by simp)
   ·rw [if_neg c2] at H
    have c2b0 : decide (x9_1 < (l0.length : Int)) = false := decide_eq_false c2
    clear c2
    obtain rfl := Option.some.inj H
    go_wp2
    go_ret
    exact ⟨by (rfl), by repeat ((with_reducible (exact HB.out)))⟩
end Go.Proofs.Ytedfcjcnhgomoaa.P
end
-- MERGED YtedfcjcnhgomoaaPeditsums
section
namespace Go.Proofs.Ytedfcjcnhgomoaa.P
open Go.RowKit Go.Proofs.YtedfcjcnhgomoaaW.PrintWords Go.Proofs.YtedfcjcnhgomoaaW.PrintLast Go.Proofs.YtedfcjcnhgomoaaW.PrintMore
attribute [local go_sem] max2_int min2_int max_two min_two max_three min_three max_four min_four   -- for this text's walks alone
set_option linter.unusedVariables false
set_option linter.unusedSimpArgs false
def edit_sums.l0 : Nat → Int → Int → List (S85) → Int → Int → Option (Int × Int × Bool)
 | 0, _, _, _, _, _ => none
 | k + 1, x2, x3, x7, x8, x9 => if x9 < x8 then (if 0 ≤ x9 then (if x9 < (x7.length : Int) then (if (mx ((rd_T85 x7 x9).f0) ((rd_T85 x7 x9).f2)) > (wrap64 (16777216 - x2)) then (some (0, 0, false)) else (if (mx ((rd_T85 x7 x9).f0) (((rd_T85 x7 x9).f1).size : Int)) > (wrap64 (16777216 - x3)) then (some (0, 0, false)) else (edit_sums.l0 k (wrap64 (x2 + (wrap64 (((rd_T85 x7 x9).f0) + ((rd_T85 x7 x9).f2))))) (wrap64 (x3 + (wrap64 (((rd_T85 x7 x9).f0) + (((rd_T85 x7 x9).f1).size : Int))))) x7 x8 (wrap64 (x9 + 1))))) else (none)) else (none)) else (some (x2, x3, true))
def edit_sums.f (k : Nat) (l0 : List (S85)) : Option (Int × Int × Bool) := edit_sums.l0 k 0 0 l0 (l0.length : Int) 0
set_option maxHeartbeats 8000000 in
set_option maxRecDepth 100000 in
theorem edit_sums.calls (k : Nat) (A0 : Option Addr) (c0 : Nat) (l0 : List (S85)) (r1 : Int) (r2 : Int) (r3 : Bool) (w : World) (hr0 : Kd.C k85 w A0 l0.length l0) (hc0 : l0.length ≤ c0) (h : edit_sums.f k l0 = some (r1, r2, r3)) :
  Calls Try.prog 110 #[.slice A0 l0.length c0] w fun e w' => e = .returned (.tuple #[.int .i64 r1, .int .i64 r2, .bool r3]) ∧ Below w.heap.size w w' := by
 have hu85 := Try.underlying85
 have HR0 := Aside0.mk hr0
 have HC0 := Aside0.mk hc0
 clear hr0 hc0
 have HB := Aside0.mk (Below.refl w.heap.size w)
 have H : (edit_sums.l0 k 0 0 l0 (l0.length : Int) 0) = some (r1, r2, r3) := h
 clear h
 have H' := Aside0.mk H
 clear H
 go_enter Try.func110, Try.ntmps110
 go_wp2
 go_loopg [2, 3, 9] k (fun kq v2 v3 v9 w' => ∃ (x2_1 : Int) (x3_1 : Int) (x9_1 : Int), v2 = .int .i64 x2_1 ∧ v3 = .int .i64 x3_1 ∧ v9 = .int .i64 x9_1 ∧ Aside0 (edit_sums.l0 kq x2_1 x3_1 l0 (l0.length : Int) x9_1 = some (r1, r2, r3)) ∧ Aside0 (kq ≤ k) ∧ Aside0 (Below w.heap.size w w'))
 case atStart => exact ⟨(0), (0), (0), (by (rfl)), (by (rfl)), (by (rfl)), H', ⟨Nat.le_refl _⟩, ⟨by repeat ((with_reducible (exact HB.out)))⟩⟩
 case round =>
  clear H'
  try clear c1
  obtain ⟨x2_1, x3_1, x9_1, rfl, rfl, rfl, HA, HK1, HB⟩ := hrel
  cases gk with
  | zero => exact absurd HA.out (by simp [edit_sums.l0])
  | succ k1 =>
   have H := HA.out
   clear HA
   simp only [edit_sums.l0] at H
   by_cases c2 : x9_1 < (l0.length : Int)
   ·rw [if_pos c2] at H
    have c2b0 : decide (x9_1 < (l0.length : Int)) = true := decide_eq_true c2
    clear c2
    by_cases c3 : 0 ≤ x9_1
    ·rw [if_pos c3] at H
     have c3b0 : decide (0 ≤ x9_1) = true := decide_eq_true c3
     clear c3
     by_cases c4 : x9_1 < (l0.length : Int)
     ·rw [if_pos c4] at H
      have c4b0 : decide (x9_1 < (l0.length : Int)) = true := decide_eq_true c4
      clear c4
      obtain ⟨ji5, hji5⟩ : ∃ j_ : Int, (mx ((rd_T85 l0 x9_1).f0) ((rd_T85 l0 x9_1).f2)) = j_ := ⟨_, rfl⟩
      replace H : (if (ji5) > (wrap64 (16777216 - x2_1)) then (some (0, 0, false)) else (if (mx ((rd_T85 l0 x9_1).f0) (((rd_T85 l0 x9_1).f1).size : Int)) > (wrap64 (16777216 - x3_1)) then (some (0, 0, false)) else (edit_sums.l0 k1 (wrap64 (x2_1 + (wrap64 (((rd_T85 l0 x9_1).f0) + ((rd_T85 l0 x9_1).f2))))) (wrap64 (x3_1 + (wrap64 (((rd_T85 l0 x9_1).f0) + (((rd_T85 l0 x9_1).f1).size : Int))))) l0 (l0.length : Int) (wrap64 (x9_1 + 1))))) = some (r1, r2, r3) := by (rw [hji5] at H; exact H)
      have hji5_ : (if ((rd_T85 l0 x9_1).f0) < ((rd_T85 l0 x9_1).f2) then ((rd_T85 l0 x9_1).f2) else ((rd_T85 l0 x9_1).f0)) = ji5 := hji5
      (try simp only [Int.ofNat_lt] at hji5_)
      by_cases c6 : (ji5) > (wrap64 (16777216 - x2_1))
      ·rw [if_pos c6] at H
       have c6b0 : decide ((wrap64 (16777216 - x2_1)) < (ji5)) = true := decide_eq_true c6
       clear c6
       simp only [Option.some.injEq, Prod.mk.injEq] at H
       obtain ⟨rfl, rfl, rfl⟩ := H
       have p251 : 0 ≤ (x9_1 : Int) := of_decide_eq_true (by (with_reducible assumption))
       have q251 : x9_1 < (l0.length : Int) := of_decide_eq_true (by (with_reducible assumption))
       obtain ⟨ad251, e251, hx251_0, hx251_1, hx251_2⟩ := at_T85 HR0.out x9_1 p251 q251
       cases e251
       replace hx251_0 := (HB.out.cell (World.block_lt_of_cell? w _ hx251_0)).trans hx251_0
       replace hx251_1 := (HB.out.cell (World.block_lt_of_cell? w _ hx251_1)).trans hx251_1
       replace hx251_2 := (HB.out.cell (World.block_lt_of_cell? w _ hx251_2)).trans hx251_2
       replace p251 := eq_true p251
       replace q251 := eq_true q251
       go_wp2_with (first | ((with_reducible refine gate_dst (N := 6) rfl ?_); (try (refine gate_guard (by rfl) ?_; dsimp only)); refine box_event ?hg (N := 6) ?hd (cs := #[.int .i64 0, .string (⟨#[]⟩ : ByteArray), .int .i64 0]) (t := 85) ?hr ?_; (case hd => rfl); (case hg => rfl); (case hr => (go_simp; done)); intro gb252 hg w7 hbox hb; have n0_ := Aside0.mk (below_step (by repeat ((with_reducible (exact HB.out)))) hb); have n1_ := Aside0.mk (hbox); have n2_ := Aside0.mk ((by rw [hg]; exact (below_size (by repeat ((with_reducible (exact HB.out))))) : w.heap.size ≤ gb252)); have n3_ := Aside0.mk ((by rw [hg]; exact (below_size (by repeat ((with_reducible (exact HB.out))))) : w.heap.size ≤ gb252)); clear HB; have HB := n0_; have BK252 := n1_; have GW252 := n2_; have GE252 := n3_; clear n0_ n1_ n2_ n3_; clear hb hbox hg; have hcz8_0 : w7.cell? ⟨gb252, 0, none⟩ = some (.int .i64 0) := (blk_cell BK252.out 0).trans rfl; have hcz8_1 : w7.cell? ⟨gb252, 1, none⟩ = some (.string (⟨#[]⟩ : ByteArray)) := (blk_cell BK252.out 1).trans rfl; have hcz8_2 : w7.cell? ⟨gb252, 2, none⟩ = some (.int .i64 0) := (blk_cell BK252.out 2).trans rfl; have hfz8_0 := blk_frozen BK252.out 0; have hfz8_1 := blk_frozen BK252.out 1; have hfz8_2 := blk_frozen BK252.out 2))
       go_ret3
       exact ⟨by (rfl), by repeat ((with_reducible first | exact HB.out | refine below_set ?_ GE252.out))⟩
      ·rw [if_neg c6] at H
       have c6b0 : decide ((wrap64 (16777216 - x2_1)) < (ji5)) = false := decide_eq_false c6
       clear c6
       obtain ⟨ji9, hji9⟩ : ∃ j_ : Int, (mx ((rd_T85 l0 x9_1).f0) (((rd_T85 l0 x9_1).f1).size : Int)) = j_ := ⟨_, rfl⟩
       replace H : (if (ji9) > (wrap64 (16777216 - x3_1)) then (some (0, 0, false)) else (edit_sums.l0 k1 (wrap64 (x2_1 + (wrap64 (((rd_T85 l0 x9_1).f0) + ((rd_T85 l0 x9_1).f2))))) (wrap64 (x3_1 + (wrap64 (((rd_T85 l0 x9_1).f0) + (((rd_T85 l0 x9_1).f1).size : Int))))) l0 (l0.length : Int) (wrap64 (x9_1 + 1)))) = some (r1, r2, r3) := by (rw [hji9] at H; exact H)
       have hji9_ : (if ((rd_T85 l0 x9_1).f0) < (((rd_T85 l0 x9_1).f1).size : Int) then (((rd_T85 l0 x9_1).f1).size : Int) else ((rd_T85 l0 x9_1).f0)) = ji9 := hji9
       (try simp only [Int.ofNat_lt] at hji9_)
       by_cases c10 : (ji9) > (wrap64 (16777216 - x3_1))
       ·rw [if_pos c10] at H
        have c10b0 : decide ((wrap64 (16777216 - x3_1)) < (ji9)) = true := decide_eq_true c10
        clear c10
        simp only [Option.some.injEq, Prod.mk.injEq] at H
        obtain ⟨rfl, rfl, rfl⟩ := H
        have p251 : 0 ≤ (x9_1 : Int) := of_decide_eq_true (by (with_reducible assumption))
        have q251 : x9_1 < (l0.length : Int) := of_decide_eq_true (by (with_reducible assumption))
        obtain ⟨ad251, e251, hx251_0, hx251_1, hx251_2⟩ := at_T85 HR0.out x9_1 p251 q251
        cases e251
        replace hx251_0 := (HB.out.cell (World.block_lt_of_cell? w _ hx251_0)).trans hx251_0
        replace hx251_1 := (HB.out.cell (World.block_lt_of_cell? w _ hx251_1)).trans hx251_1
        replace hx251_2 := (HB.out.cell (World.block_lt_of_cell? w _ hx251_2)).trans hx251_2
        replace p251 := eq_true p251
        replace q251 := eq_true q251
        go_wp2_with (first | ((with_reducible refine gate_dst (N := 6) rfl ?_); (try (refine gate_guard (by rfl) ?_; dsimp only)); refine box_event ?hg (N := 6) ?hd (cs := #[.int .i64 0, .string (⟨#[]⟩ : ByteArray), .int .i64 0]) (t := 85) ?hr ?_; (case hd => rfl); (case hg => rfl); (case hr => (go_simp; done)); intro gb252 hg w11 hbox hb; have n0_ := Aside0.mk (below_step (by repeat ((with_reducible (exact HB.out)))) hb); have n1_ := Aside0.mk (hbox); have n2_ := Aside0.mk ((by rw [hg]; exact (below_size (by repeat ((with_reducible (exact HB.out))))) : w.heap.size ≤ gb252)); have n3_ := Aside0.mk ((by rw [hg]; exact (below_size (by repeat ((with_reducible (exact HB.out))))) : w.heap.size ≤ gb252)); clear HB; have HB := n0_; have BK252 := n1_; have GW252 := n2_; have GE252 := n3_; clear n0_ n1_ n2_ n3_; clear hb hbox hg; have hcz12_0 : w11.cell? ⟨gb252, 0, none⟩ = some (.int .i64 0) := (blk_cell BK252.out 0).trans rfl; have hcz12_1 : w11.cell? ⟨gb252, 1, none⟩ = some (.string (⟨#[]⟩ : ByteArray)) := (blk_cell BK252.out 1).trans rfl; have hcz12_2 : w11.cell? ⟨gb252, 2, none⟩ = some (.int .i64 0) := (blk_cell BK252.out 2).trans rfl; have hfz12_0 := blk_frozen BK252.out 0; have hfz12_1 := blk_frozen BK252.out 1; have hfz12_2 := blk_frozen BK252.out 2))
        go_ret3
        exact ⟨by (rfl), by repeat ((with_reducible first | exact HB.out | refine below_set ?_ GE252.out))⟩
       ·rw [if_neg c10] at H
        have c10b0 : decide ((wrap64 (16777216 - x3_1)) < (ji9)) = false := decide_eq_false c10
        clear c10
        have H' := Aside0.mk H
        clear H
        have p251 : 0 ≤ (x9_1 : Int) := of_decide_eq_true (by (with_reducible assumption))
        have q251 : x9_1 < (l0.length : Int) := of_decide_eq_true (by (with_reducible assumption))
        obtain ⟨ad251, e251, hx251_0, hx251_1, hx251_2⟩ := at_T85 HR0.out x9_1 p251 q251
        cases e251
        replace hx251_0 := (HB.out.cell (World.block_lt_of_cell? w _ hx251_0)).trans hx251_0
        replace hx251_1 := (HB.out.cell (World.block_lt_of_cell? w _ hx251_1)).trans hx251_1
        replace hx251_2 := (HB.out.cell (World.block_lt_of_cell? w _ hx251_2)).trans hx251_2
        replace p251 := eq_true p251
        replace q251 := eq_true q251
        go_wp2_with (first | ((with_reducible refine gate_dst (N := 6) rfl ?_); (try (refine gate_guard (by rfl) ?_; dsimp only)); refine box_event ?hg (N := 6) ?hd (cs := #[.int .i64 0, .string (⟨#[]⟩ : ByteArray), .int .i64 0]) (t := 85) ?hr ?_; (case hd => rfl); (case hg => rfl); (case hr => (go_simp; done)); intro gb252 hg w13 hbox hb; have n0_ := Aside0.mk (below_step (by repeat ((with_reducible (exact HB.out)))) hb); have n1_ := Aside0.mk (hbox); have n2_ := Aside0.mk ((by rw [hg]; exact (below_size (by repeat ((with_reducible (exact HB.out))))) : w.heap.size ≤ gb252)); have n3_ := Aside0.mk ((by rw [hg]; exact (below_size (by repeat ((with_reducible (exact HB.out))))) : w.heap.size ≤ gb252)); clear HB; have HB := n0_; have BK252 := n1_; have GW252 := n2_; have GE252 := n3_; clear n0_ n1_ n2_ n3_; clear hb hbox hg; have hcz14_0 : w13.cell? ⟨gb252, 0, none⟩ = some (.int .i64 0) := (blk_cell BK252.out 0).trans rfl; have hcz14_1 : w13.cell? ⟨gb252, 1, none⟩ = some (.string (⟨#[]⟩ : ByteArray)) := (blk_cell BK252.out 1).trans rfl; have hcz14_2 : w13.cell? ⟨gb252, 2, none⟩ = some (.int .i64 0) := (blk_cell BK252.out 2).trans rfl; have hfz14_0 := blk_frozen BK252.out 0; have hfz14_1 := blk_frozen BK252.out 1; have hfz14_2 := blk_frozen BK252.out 2))
        go_roundg k1
        case measure => have := HK1.out; omega
        case rel => exact ⟨(wrap64 (x2_1 + (wrap64 (((rd_T85 l0 x9_1).f0) + ((rd_T85 l0 x9_1).f2))))), (wrap64 (x3_1 + (wrap64 (((rd_T85 l0 x9_1).f0) + (((rd_T85 l0 x9_1).f1).size : Int))))), (wrap64 (x9_1 + 1)), (by (rfl)), (by (rfl)), (by (rfl)), H', ⟨by have := HK1.out; omega⟩, ⟨by repeat ((with_reducible first | exact HB.out | refine below_set ?_ GE252.out))⟩⟩
     ·rw [if_neg c4] at H
      exact absurd H (by simp)
    ·rw [if_neg c3] at H
     exact absurd H (by simp)
   ·rw [if_neg c2] at H
    have c2b0 : decide (x9_1 < (l0.length : Int)) = false := decide_eq_false c2
    clear c2
    simp only [Option.some.injEq, Prod.mk.injEq] at H
    obtain ⟨rfl, rfl, rfl⟩ := H
    go_wp2
    go_ret3
    exact ⟨by (rfl), by repeat ((with_reducible (exact HB.out)))⟩
end Go.Proofs.Ytedfcjcnhgomoaa.P
end
-- MERGED YtedfcjcnhgomoaaPeditGood
section
namespace Go.Proofs.Ytedfcjcnhgomoaa.P
open Go.RowKit Go.Proofs.YtedfcjcnhgomoaaW.PrintWords Go.Proofs.YtedfcjcnhgomoaaW.PrintLast Go.Proofs.YtedfcjcnhgomoaaW.PrintMore
attribute [local go_sem] max2_int min2_int max_two min_two max_three min_three max_four min_four   -- for this text's walks alone
set_option linter.unusedVariables false
set_option linter.unusedSimpArgs false
def edit_Good.f (k : Nat) (l0 : List (S85)) : Option (Bool) := (edit_right.f k l0).bind fun t253 => (if t253 = true then ((edit_sums.f k l0).bind fun bt254 => (some bt254.2.2)) else (some false))
set_option maxHeartbeats 8000000 in
set_option maxRecDepth 100000 in
theorem edit_Good.calls (k : Nat) (A0 : Option Addr) (c0 : Nat) (l0 : List (S85)) (r : Bool) (w : World) (hr0 : Kd.C k85 w A0 l0.length l0) (hc0 : l0.length ≤ c0) (h : edit_Good.f k l0 = some r) :
  Calls Try.prog 93 #[.slice A0 l0.length c0] w fun e w' => e = .returned (.bool r) ∧ Below w.heap.size w w' := by
 have HR0 := Aside0.mk hr0
 have HC0 := Aside0.mk hc0
 clear hr0 hc0
 have HB := Aside0.mk (Below.refl w.heap.size w)
 have H : ((edit_right.f k l0).bind fun t253 => (if t253 = true then ((edit_sums.f k l0).bind fun bt254 => (some bt254.2.2)) else (some false))) = some r := h
 clear h
 replace H := Option.bind_eq_some_iff.mp H
 obtain ⟨t253, A20, H⟩ := H
 replace H : (if t253 = true then ((edit_sums.f k l0).bind fun bt254 => (some bt254.2.2)) else (some false)) = some r := H
 have A2 := Aside0.mk A20
 clear A20
 by_cases c3 : t253 = true
 ·subst c3
  have H1 : ((edit_sums.f k l0).bind fun bt254 => (some bt254.2.2)) = some r := by rw [if_pos rfl] at H; exact H
  clear H
  have H := H1
  clear H1
  replace H := Option.bind_eq_some_iff.mp H
  obtain ⟨⟨t254, t255, t256⟩, A40, H⟩ := H
  replace H : (some t256) = some r := H
  have A4 := Aside0.mk A40
  clear A40
  obtain rfl := Option.some.inj H
  go_enter Try.func93, Try.ntmps93
  go_wp2_with (first | ((with_reducible refine gate_callee (f := 109) rfl ?_); refine goesL_ (some 7) rfl rfl Try.func109 (by kernel_rfl) rfl #[.slice A0 l0.length c0] rfl (by (try simp only [List.map_toArray, List.map_cons, List.map_nil]); first | done | rfl | (simp only [List.length_drop, List.length_take]; rfl)) ?_; (with_reducible refine (edit_right.calls k _ _ l0 true _ ?side1 ?side2 A2.out).mono ?_); (case side1 => repeat (first | exact HR0.out | (with_reducible refine Kd.C_alloc ?_ _) | (with_reducible refine Kd.C_drewN ?_ _) | (with_reducible refine Kd.C_drew ?_))); (case side2 => exact HC0.out); rintro e w5 ⟨rfl, hb⟩; refine ⟨_, rfl, ?_⟩; have n0_ := Aside0.mk (below_step (by repeat (first | (with_reducible first | exact HB.out | apply below_alloc | apply pw_below_drewN | apply below_drew1) | exact HB.out)) hb); clear HB; have HB := n0_; clear n0_; (try clear hb); (try clear hb2); (try clear hk); (try clear hi)) | ((with_reducible refine gate_callee (f := 110) rfl ?_); refine goesL_ (some 11) rfl rfl Try.func110 (by kernel_rfl) rfl #[.slice A0 l0.length c0] rfl (by (try simp only [List.map_toArray, List.map_cons, List.map_nil]); first | done | rfl | (simp only [List.length_drop, List.length_take]; rfl)) ?_; (with_reducible refine (edit_sums.calls k _ _ l0 t254 t255 t256 _ ?side1 ?side2 A4.out).mono ?_); (case side1 => repeat (first | exact (Kd.C_below HR0.out HB.out) | (with_reducible refine Kd.C_alloc ?_ _) | (with_reducible refine Kd.C_drewN ?_ _) | (with_reducible refine Kd.C_drew ?_))); (case side2 => exact HC0.out); rintro e w6 ⟨rfl, hb⟩; refine ⟨_, rfl, ?_⟩; have n0_ := Aside0.mk (below_step (by repeat (first | (with_reducible first | exact HB.out | apply below_alloc | apply pw_below_drewN | apply below_drew1) | exact HB.out)) hb); clear HB; have HB := n0_; clear n0_; (try clear hb); (try clear hb2); (try clear hk); (try clear hi)))
  go_ret
  exact ⟨by first | rfl | (simp [errW_none, errW_some] <;> rfl) | (simp [*, errW_none, errW_some] <;> rfl), by repeat (first | (with_reducible first | exact HB.out | apply below_alloc | apply pw_below_drewN | apply below_drew1) | exact HB.out)⟩
 ·replace c3 := Bool.eq_false_iff.mpr c3
  subst c3
  have H1 : (some false) = some r := by rw [if_neg (show ¬ (false = true) by decide)] at H; exact H
  clear H
  have H := H1
  clear H1
  obtain rfl := Option.some.inj H
  go_enter Try.func93, Try.ntmps93
  go_wp2_with (first | ((with_reducible refine gate_callee (f := 109) rfl ?_); refine goesL_ (some 7) rfl rfl Try.func109 (by kernel_rfl) rfl #[.slice A0 l0.length c0] rfl (by (try simp only [List.map_toArray, List.map_cons, List.map_nil]); first | done | rfl | (simp only [List.length_drop, List.length_take]; rfl)) ?_; (with_reducible refine (edit_right.calls k _ _ l0 false _ ?side1 ?side2 A2.out).mono ?_); (case side1 => repeat (first | exact HR0.out | (with_reducible refine Kd.C_alloc ?_ _) | (with_reducible refine Kd.C_drewN ?_ _) | (with_reducible refine Kd.C_drew ?_))); (case side2 => exact HC0.out); rintro e w7 ⟨rfl, hb⟩; refine ⟨_, rfl, ?_⟩; have n0_ := Aside0.mk (below_step (by repeat (first | (with_reducible first | exact HB.out | apply below_alloc | apply pw_below_drewN | apply below_drew1) | exact HB.out)) hb); clear HB; have HB := n0_; clear n0_; (try clear hb); (try clear hb2); (try clear hk); (try clear hi)))
  go_ret
  exact ⟨by first | rfl | (simp [errW_none, errW_some] <;> rfl) | (simp [*, errW_none, errW_some] <;> rfl), by repeat (first | (with_reducible first | exact HB.out | apply below_alloc | apply pw_below_drewN | apply below_drew1) | exact HB.out)⟩
end Go.Proofs.Ytedfcjcnhgomoaa.P
end
-- MERGED YtedfcjcnhgomoaaPvariorumref06Good
section
namespace Go.Proofs.Ytedfcjcnhgomoaa.P
open Go.RowKit Go.Proofs.YtedfcjcnhgomoaaW.PrintWords Go.Proofs.YtedfcjcnhgomoaaW.PrintLast Go.Proofs.YtedfcjcnhgomoaaW.PrintMore
attribute [local go_sem] max2_int min2_int max_two min_two max_three min_three max_four min_four   -- for this text's walks alone
set_option linter.unusedVariables false
set_option linter.unusedSimpArgs false
def variorumref06_Good.f (l0 : List (S85)) : Option (Bool) := if l0.length ≤ 140737488351232 then some (EditL.good l0) else none
end Go.Proofs.Ytedfcjcnhgomoaa.P
end
-- MERGED YtedfcjcnhgomoaaPvariorumref06Same
section
namespace Go.Proofs.Ytedfcjcnhgomoaa.P
open Go.RowKit Go.Proofs.YtedfcjcnhgomoaaW.PrintWords Go.Proofs.YtedfcjcnhgomoaaW.PrintLast Go.Proofs.YtedfcjcnhgomoaaW.PrintMore
attribute [local go_sem] max2_int min2_int max_two min_two max_three min_three max_four min_four   -- for this text's walks alone
set_option linter.unusedVariables false
set_option linter.unusedSimpArgs false
attribute [local go_sem high] eqA85
def variorumref06_Same.l0 : Nat → List (S85) → List (S85) → Int → Option (Bool)
 | 0, _, _, _ => none
 | k + 1, x0, x1, x5 => if x5 < (x0.length : Int) then (if 0 ≤ x5 then (if x5 < (x1.length : Int) then (if (!(((rd_T85 x0 x5).f0) == ((rd_T85 x1 x5).f0)) || (!((((rd_T85 x0 x5).f1).toList) == (((rd_T85 x1 x5).f1).toList)) || (!(((rd_T85 x0 x5).f2) == ((rd_T85 x1 x5).f2))))) = true then (some false) else (variorumref06_Same.l0 k x0 x1 (wrap64 (x5 + 1)))) else (none)) else (none)) else (some true)
def variorumref06_Same.f (k : Nat) (l0 : List (S85)) (l1 : List (S85)) : Option (Bool) := if (l0.length : Int) = (l1.length : Int) then (variorumref06_Same.l0 k l0 l1 0) else (some false)
set_option maxHeartbeats 8000000 in
set_option maxRecDepth 100000 in
theorem variorumref06_Same.calls (k : Nat) (A0 : Option Addr) (c0 : Nat) (l0 : List (S85)) (A1 : Option Addr) (c1 : Nat) (l1 : List (S85)) (r : Bool) (w : World) (hr0 : Kd.C k85 w A0 l0.length l0) (hc0 : l0.length ≤ c0) (hr1 : Kd.C k85 w A1 l1.length l1) (hc1 : l1.length ≤ c1) (h : variorumref06_Same.f k l0 l1 = some r) :
  Calls Try.prog 73 #[.slice A0 l0.length c0, .slice A1 l1.length c1] w fun e w' => e = .returned (.bool r) ∧ Drawn0 w w' := by
 have hu85 := Try.underlying85
 have HR0 := Aside0.mk hr0
 have HC0 := Aside0.mk hc0
 clear hr0 hc0
 have HR1 := Aside0.mk hr1
 have HC1 := Aside0.mk hc1
 clear hr1 hc1
 have H : (if (l0.length : Int) = (l1.length : Int) then (variorumref06_Same.l0 k l0 l1 0) else (some false)) = some r := h
 clear h
 by_cases c3 : (l0.length : Int) = (l1.length : Int)
 ·rw [if_pos c3] at H
  have c3b0 : ((l0.length : Int) == (l1.length : Int)) = true := beq_iff_eq.mpr c3
  have c3b1 : ((l0.length : Int) != (l1.length : Int)) = false := bne_eq_false_iff_eq.mpr c3
  have c3b2 : (l0.length == l1.length) = true := by (simp at c3 ⊢; omega)
  clear c3
  have H' := Aside0.mk H
  clear H
  go_enter Try.func73, Try.ntmps73
  go_wp2
  repeat (go_quiet (fail); try go_wp2)
  go_loopg [5] k (fun kq v5 w' => ∃ (x5_1 : Int), v5 = .int .i64 x5_1 ∧ Aside0 (variorumref06_Same.l0 kq l0 l1 x5_1 = some r) ∧ Aside0 (kq ≤ k) ∧ Drawn0 w w')
  case atStart => exact ⟨(0), (by (rfl)), H', ⟨Nat.le_refl _⟩, by repeat ((exact Drawn0.refl _))⟩
  case round =>
   clear H'
   try clear c1
   try clear p2
   try clear c3
   try clear c3b0
   try clear c3b1
   try clear c3b2
   obtain ⟨x5_1, rfl, HA, HK1, ⟨m1, rfl⟩⟩ := hrel
   cases gk with
   | zero => exact absurd HA.out (by simp [variorumref06_Same.l0])
   | succ k1 =>
    have H := HA.out
    clear HA
    simp only [variorumref06_Same.l0] at H
    by_cases c4 : x5_1 < (l0.length : Int)
    ·rw [if_pos c4] at H
     have c4b0 : decide (x5_1 < (l0.length : Int)) = true := decide_eq_true c4
     clear c4
     by_cases c5 : 0 ≤ x5_1
     ·rw [if_pos c5] at H
      have c5b0 : decide (0 ≤ x5_1) = true := decide_eq_true c5
      clear c5
      by_cases c6 : x5_1 < (l1.length : Int)
      ·rw [if_pos c6] at H
       have c6b0 : decide (x5_1 < (l1.length : Int)) = true := decide_eq_true c6
       clear c6
       by_cases c7 : (!(((rd_T85 l0 x5_1).f0) == ((rd_T85 l1 x5_1).f0)) || (!((((rd_T85 l0 x5_1).f1).toList) == (((rd_T85 l1 x5_1).f1).toList)) || (!(((rd_T85 l0 x5_1).f2) == ((rd_T85 l1 x5_1).f2))))) = true
       ·rw [if_pos c7] at H
        have c7b0 : (!(((rd_T85 l0 x5_1).f0) == ((rd_T85 l1 x5_1).f0)) || (!((((rd_T85 l0 x5_1).f1).toList) == (((rd_T85 l1 x5_1).f1).toList)) || (!(((rd_T85 l0 x5_1).f2) == ((rd_T85 l1 x5_1).f2))))) = true := c7
        clear c7
        obtain rfl := Option.some.inj H
        have p349 : 0 ≤ (x5_1 : Int) := of_decide_eq_true (by (with_reducible assumption))
        have q349 : x5_1 < (l0.length : Int) := of_decide_eq_true (by (with_reducible assumption))
        obtain ⟨ad349, e349, hx349_0, hx349_1, hx349_2⟩ := at_T85 HR0.out x5_1 p349 q349
        cases e349
        replace p349 := eq_true p349
        replace q349 := eq_true q349
        have p350 : 0 ≤ (x5_1 : Int) := of_decide_eq_true (by (with_reducible assumption))
        have q350 : x5_1 < (l1.length : Int) := of_decide_eq_true (by (with_reducible assumption))
        obtain ⟨ad350, e350, hx350_0, hx350_1, hx350_2⟩ := at_T85 HR1.out x5_1 p350 q350
        cases e350
        replace p350 := eq_true p350
        replace q350 := eq_true q350
        go_wp2
        repeat (go_quiet (fail); try go_wp2)
        go_ret
        exact ⟨by (rfl), by repeat (first | exact Drawn0.refl _ | apply Drawn0.step)⟩
       ·rw [if_neg c7] at H
        have c7b0 : (!(((rd_T85 l0 x5_1).f0) == ((rd_T85 l1 x5_1).f0)) || (!((((rd_T85 l0 x5_1).f1).toList) == (((rd_T85 l1 x5_1).f1).toList)) || (!(((rd_T85 l0 x5_1).f2) == ((rd_T85 l1 x5_1).f2))))) = false := by simpa using c7
        clear c7
        have H' := Aside0.mk H
        clear H
        have p349 : 0 ≤ (x5_1 : Int) := of_decide_eq_true (by (with_reducible assumption))
        have q349 : x5_1 < (l0.length : Int) := of_decide_eq_true (by (with_reducible assumption))
        obtain ⟨ad349, e349, hx349_0, hx349_1, hx349_2⟩ := at_T85 HR0.out x5_1 p349 q349
        cases e349
        replace p349 := eq_true p349
        replace q349 := eq_true q349
        have p350 : 0 ≤ (x5_1 : Int) := of_decide_eq_true (by (with_reducible assumption))
        have q350 : x5_1 < (l1.length : Int) := of_decide_eq_true (by (with_reducible assumption))
        obtain ⟨ad350, e350, hx350_0, hx350_1, hx350_2⟩ := at_T85 HR1.out x5_1 p350 q350
        cases e350
        replace p350 := eq_true p350
        replace q350 := eq_true q350
        go_wp2
        repeat (go_quiet (fail); try go_wp2)
        go_roundg k1
        case measure => have := HK1.out; omega
        case rel => exact ⟨(wrap64 (x5_1 + 1)), (by (rfl)), H', ⟨by have := HK1.out; omega⟩, by repeat (first | exact Drawn0.refl _ | apply Drawn0.step)⟩
      ·rw [if_neg c6] at H
       exact absurd H (by simp)
     ·rw [if_neg c5] at H
      exact absurd H (by simp)
    ·rw [if_neg c4] at H
     have c4b0 : decide (x5_1 < (l0.length : Int)) = false := decide_eq_false c4
     clear c4
     obtain rfl := Option.some.inj H
     go_wp2
     repeat (go_quiet (fail); try go_wp2)
     go_ret
     exact ⟨by (rfl), by repeat (first | exact Drawn0.refl _ | apply Drawn0.step)⟩
 ·rw [if_neg c3] at H
  have c3b0 : ((l0.length : Int) == (l1.length : Int)) = false := beq_eq_false_iff_ne.mpr c3
  have c3b1 : ((l0.length : Int) != (l1.length : Int)) = true := bne_iff_ne.mpr c3
  have c3b2 : (l0.length == l1.length) = false := by (simp at c3 ⊢; omega)
  obtain rfl := Option.some.inj H
  go_enter Try.func73, Try.ntmps73
  go_wp2
  repeat (go_quiet (fail); try go_wp2)
  go_ret
  exact ⟨by (rfl), by repeat ((exact Drawn0.refl _))⟩
end Go.Proofs.Ytedfcjcnhgomoaa.P
end
-- MERGED YtedfcjcnhgomoaaEditF
section
namespace Go.Proofs.Ytedfcjcnhgomoaa.EditF
open Go.RowKit Go.Proofs.Ytedfcjcnhgomoaa.P Go.Proofs.YtedfcjcnhgomoaaW.PrintWords Go.Proofs.YtedfcjcnhgomoaaW.PrintLast Go.Proofs.YtedfcjcnhgomoaaW.PrintMore Go.Proofs.Ytedfcjcnhgomoaa.EditL Go.Proofs.Ytedfcjcnhgomoaa.EditK
theorem kind_f (r : Rn) : edit_kind.f r.f0 r.f1 r.f2 = some (knd r) := rfl
theorem sums_l (l0 : List Rn) (hb : l0.length ≤ 140737488351232) : ∀ (suf pre : List Rn) (k : Nat) (i o : Int), l0 = pre ++ suf → suf.length < k → (∀ r ∈ suf, knd r ≠ 0) → 0 ≤ i → i ≤ 16777216 → 0 ≤ o → o ≤ 16777216 →
  edit_sums.l0 k i o l0 (l0.length : Int) (pre.length : Int) = some (cond (fits suf i o) (i + inL suf, o + outL suf, true) (0, 0, false)) := by
 intro suf
 induction suf with
 | nil =>
  intro pre k i o hl hk _ _ _ _ _
  obtain ⟨k, rfl⟩ : ∃ m, k = m + 1 := ⟨k - 1, by simp at hk; omega⟩
  have : l0.length = pre.length := by rw [hl]; simp
  simp only [edit_sums.l0]
  rw [if_neg (by omega)]
  simp [fits, inL, outL]
 | cons r suf ih =>
  intro pre k i o hl hk hok hi0 hi ho0 ho
  obtain ⟨k, rfl⟩ : ∃ m, k = m + 1 := ⟨k - 1, by simp at hk; omega⟩
  obtain ⟨hl2, hn, hlt⟩ := snoc hl
  have hr := knd_cases r
  have h0 := hok r List.mem_cons_self
  simp only [edit_sums.l0]
  rw [if_pos hlt, if_pos (by omega), if_pos hlt, rd_at hl, w64 (x := 16777216 - i) (by omega) (by omega), w64 (x := 16777216 - o) (by omega) (by omega)]
  by_cases c1 : mx r.f0 r.f2 > 16777216 - i
  ·rw [if_pos c1]
   have : ¬ (r.f0 ≤ 16777216 - i ∧ r.f2 ≤ 16777216 - i) := by
    unfold mx at c1
    split at c1 <;> omega
   have hf : fits (r :: suf) i o = false := by
    rw [Bool.eq_false_iff]
    simp only [fits, ne_eq, Bool.and_eq_true, decide_eq_true_eq]
    rintro ⟨⟨⟨⟨a1, a2⟩, _⟩, _⟩, _⟩
    exact this ⟨a1, a2⟩
   rw [hf]; rfl
  ·rw [if_neg c1]
   have e1 : r.f0 ≤ 16777216 - i ∧ r.f2 ≤ 16777216 - i := by
    unfold mx at c1
    split at c1 <;> omega
   by_cases c2 : mx r.f0 (r.f1.size : Int) > 16777216 - o
   ·rw [if_pos c2]
    have : ¬ (r.f0 ≤ 16777216 - o ∧ (r.f1.size : Int) ≤ 16777216 - o) := by
     unfold mx at c2
     split at c2 <;> omega
    have hf : fits (r :: suf) i o = false := by
     rw [Bool.eq_false_iff]
     simp only [fits, ne_eq, Bool.and_eq_true, decide_eq_true_eq]
     rintro ⟨⟨⟨_, a1⟩, a2⟩, _⟩
     exact this ⟨a1, a2⟩
    rw [hf]; rfl
   ·rw [if_neg c2]
    have e2 : r.f0 ≤ 16777216 - o ∧ (r.f1.size : Int) ≤ 16777216 - o := by
     unfold mx at c2
     split at c2 <;> omega
    have hp := knd_pos h0
    simp only [fits, inL, outL]
    rw [decide_eq_true e1.1, decide_eq_true e1.2, decide_eq_true e2.1, decide_eq_true e2.2, Bool.true_and, Bool.true_and, Bool.true_and, Bool.true_and,
     w64 (x := r.f0 + r.f2) (by omega) (by omega), w64 (x := i + (r.f0 + r.f2)) (by omega) (by omega), w64 (x := r.f0 + (r.f1.size : Int)) (by omega) (by omega), w64 (x := o + (r.f0 + (r.f1.size : Int))) (by omega) (by omega), w64 (x := (pre.length : Int) + 1) (by omega) (by omega), ← hn]
    rw [ih (pre ++ [r]) k _ _ hl2 (by simp at hk; omega) (fun x hx => hok x (List.mem_cons_of_mem _ hx)) (by omega) (by rcases hr with h | h | h | h <;> omega) (by omega) (by rcases hr with h | h | h | h <;> omega)]
    cases fits suf (i + (r.f0 + r.f2)) (o + (r.f0 + (r.f1.size : Int))) with
    | false => rfl
    | true => simp only [cond_true, Option.some.injEq, Prod.mk.injEq, and_true]; omega
theorem sums_f {l : List Rn} (hb : l.length ≤ 140737488351232) (hok : ∀ r ∈ l, knd r ≠ 0) (k : Nat) (hk : l.length < k) : edit_sums.f k l = some (cond (fits l 0 0) (inL l, outL l, true) (0, 0, false)) := by
 unfold edit_sums.f
 have := sums_l l hb l [] k 0 0 rfl hk hok (by omega) (by omega) (by omega) (by omega)
 simp only [Int.zero_add] at this
 exact this
theorem right_l (l0 : List Rn) (hb : l0.length ≤ 140737488351232) : ∀ (suf pre : List Rn) (k : Nat) (last : Int), l0 = pre ++ suf → suf.length < k →
  edit_right.l0 k l0 last l0 (l0.length : Int) (pre.length : Int) = some (ord suf last && decide (l0.length ≤ 65536)) := by
 intro suf
 induction suf with
 | nil =>
  intro pre k last hl hk
  obtain ⟨k, rfl⟩ : ∃ m, k = m + 1 := ⟨k - 1, by simp at hk; omega⟩
  have : l0.length = pre.length := by rw [hl]; simp
  simp only [edit_right.l0]
  rw [if_neg (by omega)]
  simp only [ord, Bool.true_and, Option.some.injEq]
  by_cases h : l0.length ≤ 65536
  ·rw [decide_eq_true h, decide_eq_true (by omega)]
  ·rw [decide_eq_false h, decide_eq_false (by omega)]
 | cons r suf ih =>
  intro pre k last hl hk
  obtain ⟨k, rfl⟩ : ∃ m, k = m + 1 := ⟨k - 1, by simp at hk; omega⟩
  obtain ⟨hl2, hn, hlt⟩ := snoc hl
  have next := ih (pre ++ [r]) k (knd r) hl2 (by simp at hk; omega)
  rw [hn] at next
  simp only [edit_right.l0]
  rw [if_pos hlt, if_pos (by omega), if_pos hlt, rd_at hl, kind_f, Option.bind_some, w64 (x := (pre.length : Int) + 1) (by omega) (by omega), next]
  simp only [ord]
  by_cases c1 : knd r = 0
  ·rw [if_pos c1, decide_eq_false (by omega)]; rfl
  ·rw [if_neg c1, decide_eq_true c1]
   by_cases c2 : knd r = last
   ·rw [if_pos c2, decide_eq_false (by omega)]; rfl
   ·rw [if_neg c2, decide_eq_true c2]
    by_cases c3 : last = 3
    ·rw [if_pos c3]
     by_cases c4 : knd r = 2
     ·rw [if_pos c4, decide_eq_false (show ¬ ¬ (last = 3 ∧ knd r = 2) by omega)]; rfl
     ·rw [if_neg c4, decide_eq_true (show ¬ (last = 3 ∧ knd r = 2) by omega)]; rfl
    ·rw [if_neg c3, decide_eq_true (show ¬ (last = 3 ∧ knd r = 2) by omega)]; rfl
theorem good_f {l : List Rn} (hb : l.length ≤ 140737488351232) (k : Nat) (hk : l.length < k) : edit_Good.f k l = some (good l) := by
 unfold edit_Good.f edit_right.f good
 have := right_l l hb l [] k 0 rfl hk
 simp only [List.length_nil] at this
 rw [show ((0 : Nat) : Int) = 0 from rfl] at this
 rw [this, Option.bind_some]
 cases h : ord l 0 with
 | false => simp
 | true =>
  rw [sums_f hb (ord_ok h) k hk, Option.bind_some]
  by_cases h2 : l.length ≤ 65536
  ·rw [decide_eq_true h2]
   cases fits l 0 0 <;> rfl
  ·rw [decide_eq_false h2]; rfl
end Go.Proofs.Ytedfcjcnhgomoaa.EditF
end
-- MERGED YtedfcjcnhgomoaaMsgE
section
namespace Go.Proofs.Ytedfcjcnhgomoaa.MsgE
open Go.RowKit Go.Proofs.Ytedfcjcnhgomoaa.P Go.Proofs.YtedfcjcnhgomoaaW.PrintWords Go.Proofs.YtedfcjcnhgomoaaW.PrintLast Go.Proofs.YtedfcjcnhgomoaaW.PrintMore Go.Proofs.Ytedfcjcnhgomoaa.Own Go.Proofs.Ytedfcjcnhgomoaa.Vy Go.Proofs.Ytedfcjcnhgomoaa.VaryR Go.Proofs.Ytedfcjcnhgomoaa.NoteN Go.Proofs.Ytedfcjcnhgomoaa.MsgA Go.Proofs.Ytedfcjcnhgomoaa.MsgD Go.Proofs.Ytedfcjcnhgomoaa.MsgW
set_option linter.unusedSimpArgs false
set_option linter.unusedVariables false
structure Ms where
 k : Int
 c : Int
 e : Int
 r : Int
 s : Int
 d : Int
 o : List EditL.Rn
 t : ByteArray
 n : List Nt
def Ms.get (m : Ms) (f : Int) : Int := if f = 0 then m.c else if f = 1 then m.e else if f = 2 then m.r else if f = 3 then m.s else m.d
def Ms.fieldB (m : Ms) (f : Int) (b : List Int) : List Int := if f = 5 then opR m.o (putL b (m.o.length : Int)) else if f = 6 then putTL b (numsOf m.t) else if f = 7 then noteR m.n 0 (putL b (m.n.length : Int)) else putL b (m.get f)
def Ms.encR (m : Ms) : List Int → List Int → List Int
 | [], b => b
 | f :: l, b => m.encR l (m.fieldB f b)
def Ms.encL (m : Ms) : List Int := m.encR (fieldsL m.k) (putL [] m.k)
structure Lies (m : Ms) (A6 : Option Addr) (c6 : Nat) (A8 : Option Addr) (c8 : Nat) (w : World) : Prop where
 o : RC w A6 m.o
 oc : m.o.length ≤ c6
 n : NC w A8 m.n
 nc : m.n.length ≤ c8
theorem Lies.below {m : Ms} {A6 A8 : Option Addr} {c6 c8 : Nat} {w w' : World} (h : Lies m A6 c6 A8 c8 w) (hb : Below w.heap.size w w') : Lies m A6 c6 A8 c8 w' := ⟨Kd.C_below h.o hb, h.oc, Kd.C_below h.n hb, h.nc⟩
structure Small (m : Ms) : Prop where
 o : m.o.length ≤ 1000000
 w : wgt m.o ≤ 1000000000000
 t : m.t.size ≤ 1000000000
 n : m.n.length ≤ 1000000
theorem opR_len : ∀ (l : List EditL.Rn) (b : List Int), (opR l b).length ≤ b.length + wgt l := by
 intro l
 induction l with
 | nil => intro b; exact Nat.le_refl _
 | cons r l ih =>
  intro b
  have h1 := ih (opStep b r)
  have h2 := opStep_len b r
  simp only [opR, wgt]
  omega
theorem noteR_len : ∀ (l : List Nt) (q : Int) (b : List Int), (noteR l q b).length ≤ b.length + 27 * l.length := by
 intro l
 induction l with
 | nil => intro q b; exact Nat.le_refl _
 | cons x l ih =>
  intro q b
  have h1 := ih x.f0.f0 (noteStep b q x)
  have h2 := noteStep_len b q x
  simp only [noteR, List.length_cons]
  omega
theorem field_len {m : Ms} (h : Small m) (f : Int) (b : List Int) : (m.fieldB f b).length ≤ b.length + 2000000000000 := by
 have h1 := h.w
 have h2 := h.t
 have h3 := h.n
 unfold Ms.fieldB
 repeat' split
 ·have := opR_len m.o (putL b (m.o.length : Int)); have := putL_len b (m.o.length : Int); omega
 ·have := putTL_len b (numsOf m.t); rw [numsOf_length] at this; omega
 ·have := noteR_len m.n 0 (putL b (m.n.length : Int)); have := putL_len b (m.n.length : Int); omega
 ·have := putL_len b (m.get f); omega
def Ms.mg (m : Ms) (A6 : Option Addr) (c6 : Nat) (A8 : Option Addr) (c8 : Nat) : Mg := ⟨m.k, m.c, m.e, m.r, m.s, m.d, .slice A6 m.o.length c6, m.t, .slice A8 m.n.length c8⟩
def Ms.good (m : Ms) : Bool := goodM (m.mg none 0 none 0) (EditL.good m.o) (fineL m.n)
structure Like (a b : Mg) : Prop where
 k : a.k = b.k
 c : a.c = b.c
 e : a.e = b.e
 r : a.r = b.r
 s : a.s = b.s
 d : a.d = b.d
 t : a.t = b.t
 o : nil0 a.o = nil0 b.o
 n : nil0 a.n = nil0 b.n
theorem Like.strip {a b : Mg} (h : Like a b) (f : Nat) : Like (a.strip f) (b.strip f) := by
 obtain ⟨h1, h2, h3, h4, h5, h6, h7, h8, h9⟩ := h
 unfold Mg.strip
 repeat' split
 all_goals first | exact ⟨h1, rfl, h3, h4, h5, h6, h7, h8, h9⟩ | exact ⟨h1, h2, rfl, h4, h5, h6, h7, h8, h9⟩ | exact ⟨h1, h2, h3, rfl, h5, h6, h7, h8, h9⟩ | exact ⟨h1, h2, h3, h4, rfl, h6, h7, h8, h9⟩ | exact ⟨h1, h2, h3, h4, h5, rfl, h7, h8, h9⟩ | exact ⟨h1, h2, h3, h4, h5, h6, h7, rfl, h9⟩ | exact ⟨h1, h2, h3, h4, h5, h6, rfl, h8, h9⟩ | exact ⟨h1, h2, h3, h4, h5, h6, h7, h8, rfl⟩
theorem Like.ok {a b : Mg} (h : Like a b) (go gn : Bool) (f : Nat) : a.ok go gn f = b.ok go gn f := by
 unfold Mg.ok Mg.get
 rw [h.c, h.e, h.r, h.s, h.d, h.t]
theorem Like.last {a b x y : Mg} (h : Like a b) (hx : Like x y) : lastOk x a = lastOk y b := by
 unfold lastOk MsgC.Mg.same MsgC.Mg.nums
 rw [hx.k, h.k, h.c, h.e, h.r, h.s, h.d, h.t, h.o, h.n]
theorem Like.run {x y : Mg} (hx : Like x y) (go gn : Bool) : ∀ (l : List Int) (a b : Mg), Like a b → ((MsgD.run go gn l a).map (lastOk x)).getD false = ((MsgD.run go gn l b).map (lastOk y)).getD false := by
 intro l
 induction l with
 | nil => intro a b h; exact h.last hx
 | cons f l ih =>
  intro a b h
  simp only [MsgD.run]
  rw [h.ok]
  split
  ·exact ih _ _ (h.strip _)
  ·rfl
theorem Like.good {a b : Mg} (h : Like a b) (go gn : Bool) : goodM a go gn = goodM b go gn := by
 unfold goodM
 rw [h.k]
 exact h.run go gn _ a b h
theorem good_m (m : Ms) (A6 : Option Addr) (c6 : Nat) (A8 : Option Addr) (c8 : Nat) (w : World) (h : Lies m A6 c6 A8 c8 w) (hs : Small m) : Calls Try.prog 23 #[(m.mg A6 c6 A8 c8).val] w fun e w' => e = .returned (.bool m.good) ∧ Below w.heap.size w w' := by
 have ho := hs.o
 have hn := hs.n
 have := MsgD.good_c (m.mg A6 c6 A8 c8) (EditL.good m.o) (fineL m.n) w ⟨_, _, _, rfl, by omega⟩ ⟨_, _, _, rfl, by omega⟩
  (fun W hb => edit_Good.calls (m.o.length + 1) A6 c6 m.o (EditL.good m.o) W (Kd.C_below h.o hb) h.oc (EditF.good_f (by omega) _ (by omega)))
  (fun W hb => MsgF.fine_c A8 c8 m.n W (NC.below h.n hb) h.nc hn)
 rw [show goodM (m.mg A6 c6 A8 c8) (EditL.good m.o) (fineL m.n) = m.good from Like.good (a := m.mg A6 c6 A8 c8) (b := m.mg none 0 none 0) ⟨rfl, rfl, rfl, rfl, rfl, rfl, rfl, rfl, rfl⟩ _ _] at this
 exact this
def R14.T14 : Bool × List (List Nat × List Nat) := (true, [([], []), ([], []), ([1], [1]), ([2], [2]), ([3], [3]), ([], []), ([5], [5]), ([4, 6], [4, 6]), ([0, 0, 1, 2, 3, 4, 5, 6, 7], [0]), ([8, 0, 1, 2, 3, 4, 5, 6, 7], [8]), ([9, 7, 7, 0, 1, 2, 3, 4, 5, 6, 7], [7, 9])])
def R14.B14 : List Nat := [0, 0, 2, 6, 14, 0, 32, 126, 255, 511, 1023]
theorem R14.tab14 : rtab .any (opsOf Try.f21 14) = R14.T14 := by kernel_rfl
theorem R14.bits14 : waitsOk R14.T14.2 R14.B14 = true := by kernel_rfl
def EncPost (m : Ms) (w : World) (e : Ending) (w' : World) : Prop := ∃ v, e = .returned (.tuple #[v, .int .i64 (if m.good then 0 else 2)]) ∧ Sl w' v (if m.good then m.encL else []) ∧ Below w.heap.size w w'
set_option maxHeartbeats 16000000 in
set_option maxRecDepth 100000 in
theorem encode_c (m : Ms) (A6 : Option Addr) (c6 : Nat) (A8 : Option Addr) (c8 : Nat) (w : World) (h : Lies m A6 c6 A8 c8 w) (hs : Small m) : Calls Try.prog 21 #[(m.mg A6 c6 A8 c8).val] w (EncPost m w) := by
 obtain ⟨B, hB⟩ : ∃ B, B = w.heap.size := ⟨_, rfl⟩
 obtain ⟨w1, hw1⟩ : ∃ w1, w1 = w.alloc (.cells (m.mg A6 c6 A8 c8).cs 44) := ⟨_, rfl⟩
 have HBB := Aside0.mk (show Blk B (m.mg A6 c6 A8 c8) w1 by unfold Blk; rw [hw1, hB]; exact Own.heap_new _ _)
 have HLO := Aside0.mk (show Below w.heap.size w w1 by rw [hw1]; exact below_alloc (Below.refl _ _) _)
 have HGD := Aside0.mk (good_m m A6 c6 A8 c8 w1 (h.below (by rw [hw1]; exact below_alloc (Below.refl _ _) _)) hs)
 have HLI := Aside0.mk h
 have HSM := Aside0.mk hs
 have HW1 := Aside0.mk hw1
 have HBE := Aside0.mk hB
 clear h hs hw1 hB
 obtain ⟨⟨x0, x1, x2, x3, x4, x5⟩, x6, x7, x8⟩ := HBB.out.cells
 go_enter Try.func21, Try.ntmps21
 unfold Ms.mg Mg.val Mg.cs
 unfold Ms.mg at x0 x1 x2 x3 x4 x5 x6 x7 x8
 unfold Ms.mg Mg.cs at HW1
 go_wp2_with (first | rw [← HBE.out, ← HW1.out])
 refine HGD.out.mono ?_
 rintro e w2 ⟨rfl, hb⟩
 have HB2 := Aside0.mk (HBB.out.below hb)
 have HL2 := Aside0.mk (below_step HLO.out hb)
 clear hb x0 x1 x2 x3 x4 x5 x6 x7 x8 HGD HW1
 cases hgd : m.good with
 | false =>
  go_wp2_with fail
  go_ret2
  exact ⟨_, by rw [hgd]; rfl, by rw [hgd]; exact Sl.nil _, HL2.out⟩
 | true =>
  obtain ⟨S, hS⟩ : ∃ S, S = w2.heap.size := ⟨_, rfl⟩
  obtain ⟨w3, hw3⟩ : ∃ w3, w3 = w2.alloc (.cells #[.slice none 0 0] 88) := ⟨_, rfl⟩
  have hwt : Wt S [] (.slice none ([] : List Int).length 0) w3 := ⟨by rw [hw3, hS]; exact Own.heap_new _ _, Sl.nil _⟩
  have HNW := Aside0.mk (num_w S [] none 0 m.k w3 hwt (by simp))
  have HB3 := Aside0.mk (show Blk B (m.mg A6 c6 A8 c8) w3 from HB2.out.below (by rw [hw3]; exact below_alloc (Below.refl _ _) _))
  have HL3 := Aside0.mk (show Below w.heap.size w w3 by rw [hw3]; exact below_alloc HL2.out _)
  have HSB := Aside0.mk (show B < S by rw [hS]; exact HB2.out.lt)
  have HSW := Aside0.mk (show w.heap.size ≤ S by rw [hS]; exact HL2.out.size)
  have HS3 := Aside0.mk (show S < w3.heap.size by rw [hw3, hS]; simp)
  have HW3 := Aside0.mk hw3
  have HSE := Aside0.mk hS
  clear hw3 hS hwt HB2 HL2 HBB HLO
  obtain ⟨⟨x0, x1, x2, x3, x4, x5⟩, x6, x7, x8⟩ := HB3.out.cells
  unfold Ms.mg at x0 x1 x2 x3 x4 x5 x6 x7 x8
  go_wp2_with (first | rw [← HSE.out, ← HW3.out])
  refine HNW.out.mono ?_
  rintro e w4 ⟨⟨u, rfl⟩, hb4, A4, c4, hw4⟩
  have HBU4 := Aside0.mk hb4
  have HW4 := Aside0.mk hw4
  have HB4 := Aside0.mk (show Blk B (m.mg A6 c6 A8 c8) w4 from (hb4.block B HB3.out.lt (fun e => by have := HSB.out; have := Option.some.inj e; omega)).trans HB3.out)
  clear hb4 hw4 x0 x1 x2 x3 x4 x5 x6 x7 x8 HNW HW3
  obtain ⟨⟨x0, x1, x2, x3, x4, x5⟩, x6, x7, x8⟩ := HB4.out.cells
  unfold Ms.mg at x0 x1 x2 x3 x4 x5 x6 x7 x8
  go_wp2_with fail
  refine (message_fields.calls m.k _ _ (fields_f m.k)).mono ?_
  rintro e w5 ⟨v, rfl, hr, hb5⟩
  have hr' := Kd.R_mono (ok' := fun K => S < K) (Kd.R_bound hr) (fun K hK => by
   have h1 := HW4.out.lt
   have h2 := hK.2.1
   omega)
  obtain ⟨F, cF, rfl⟩ := Kd.R_slice hr'
  obtain ⟨fs, hfs⟩ : ∃ fs, fs = fieldsL m.k := ⟨_, rfl⟩
  have HFO := Aside0.mk (fields_ok m.k)
  rw [← hfs] at hr' HFO ⊢
  have HFS := Aside0.mk hfs
  have HRF := Aside0.mk hr'
  have HW5 := Aside0.mk (HW4.out.below hb5)
  have HBU5 := Aside0.mk (HBU4.out.trans (grown_of_below hb5 (some S)))
  clear hr hr' hb5 hfs x0 x1 x2 x3 x4 x5 x6 x7 x8
  obtain ⟨bs, hbs⟩ : ∃ bs, bs = w4.heap.size := ⟨_, rfl⟩
  rw [← hbs] at HRF
  clear hbs
  go_wp2_with fail
  go_loopw [22] (fun iv wr => ∃ (j : Nat) (ys : List Int), j ≤ fs.length ∧ iv = .int .i64 (j : Int) ∧ m.encR (fs.drop j) ys = m.encL ∧ ys.length ≤ 9 + j * 2000000000000 ∧ Wz S ys w3 wr ∧ Kd.R (Kd.int .i64) 92 wr bs (fun K => S < K) (.slice F fs.length cF) fs) (fun iv _ => fs.length - (intOf iv).toNat)
  case atStart => exact ⟨0, _, Nat.zero_le _, rfl, by unfold Ms.encL; rw [← HFS.out]; rfl, by have := putL_len [] m.k; simp at this; omega, ⟨HBU5.out, _, _, HW5.out⟩, HRF.out⟩
  case round =>
   obtain ⟨j, ys, hj, rfl, ho, hlen, ⟨hbut, A5, c5, hwt⟩, hrow⟩ := hrel
   have HBJ := Aside0.mk hbut
   have HWJ := Aside0.mk hwt
   have HO := Aside0.mk ho
   have HLE := Aside0.mk hlen
   have HRJ := Aside0.mk hrow
   have HBLK := Aside0.mk (show Blk B (m.mg A6 c6 A8 c8) wr from (hbut.block B HB3.out.lt (fun e => by have := HSB.out; have := Option.some.inj e; omega)).trans HB3.out)
   have HLW := Aside0.mk (show Below w.heap.size w wr from HL3.out.grown hbut HL3.out.size (fun K e => by cases e; exact HSW.out))
   clear hbut hwt ho hlen hrow
   by_cases hlt : j < fs.length
   ·obtain ⟨f, hf⟩ : ∃ f, f = rd fs (j : Int) := ⟨_, rfl⟩
    have h4 : j < 4 := by have := HFO.out.2.2; omega
    have hdr := drop_rd hlt
    rw [← hf] at hdr
    have hmem : f ∈ fs := List.mem_of_mem_drop (i := j) (by rw [hdr]; exact List.mem_cons_self)
    have h08 := HFO.out.2.1 f hmem
    obtain ⟨ad, rfl, y⟩ := Kd.at_int (Kd.R_reads' HRJ.out).2.2 (j : Int) (by omega) (by omega)
    rw [Int.toNat_natCast, ← hf] at y
    have HO2 := Aside0.mk (show m.encR (fs.drop (j + 1)) (m.fieldB f ys) = m.encL by rw [← HO.out, hdr]; rfl)
    have HLE2 := Aside0.mk (show (m.fieldB f ys).length ≤ 9 + (j + 1) * 2000000000000 by have h1 := field_len HSM.out f ys; have h2 := HLE.out; omega)
    have HLT := Aside0.mk hlt
    have hlt' : (j : Int) < (fs.length : Int) := by omega
    have HNE6 := Aside0.mk (fun (ad : Addr) (e : A6 = some ad) (hp : 0 < m.o.length) => (show ad.block ≠ S by have h1 := RC.lt HLI.out.o ad e hp; have h2 := HSW.out; omega))
    have HNE8 := Aside0.mk (fun (ad : Addr) (e : A8 = some ad) (hp : 0 < m.n.length) => (show ad.block ≠ S by have h1 := MsgW.NC.lt HLI.out.n ad e hp; have h2 := HSW.out; omega))
    have HLJ := Aside0.mk (HLI.out.below HLW.out)
    have HYB := Aside0.mk (show ys.length ≤ 50000000000000 by have := HLE.out; omega)
    obtain ⟨⟨x0, x1, x2, x3, x4, x5⟩, x6, x7, x8⟩ := HBLK.out.cells
    unfold Ms.mg at x0 x1 x2 x3 x4 x5 x6 x7 x8
    clear hf hdr hmem hlt
    have hq : f = 0 ∨ f = 1 ∨ f = 2 ∨ f = 3 ∨ f = 4 ∨ f = 5 ∨ f = 6 ∨ f = 7 := by omega
    clear h08
    rcases hq with rfl | rfl | rfl | rfl | rfl | rfl | rfl | rfl
    ·have HN1 := Aside0.mk (num_w S ys A5 c5 m.c wr HWJ.out (by have := HYB.out; omega))
     clear x6 x7 x8
     go_wp2_with fail
     refine (num_c B 0 (by decide) wr).mono ?_
     rintro e w6 ⟨rfl, rfl⟩
     go_wp2_with fail
     refine HN1.out.mono ?_
     rintro e w7 ⟨⟨u7, rfl⟩, hb7, A7, c7, hw7⟩
     have HZ7 := Aside0.mk (show Wz S (m.fieldB 0 ys) w3 w7 from ⟨HBJ.out.trans hb7, A7, c7, hw7⟩)
     have HR7 := Aside0.mk (Kd.R_grown HRJ.out hb7 (fun K hK e => by have := Option.some.inj e; omega))
     clear hb7 hw7 x0 x1 x2 x3 x4 x5 y
     go_wp2_with fail
     go_roundw
     case rel => exact ⟨j + 1, _, HLT.out, by go_num, HO2.out, HLE2.out, HZ7.out, HR7.out⟩
     case measure => simp [intOf]; have := HLT.out; omega
    ·have HN1 := Aside0.mk (num_w S ys A5 c5 m.e wr HWJ.out (by have := HYB.out; omega))
     clear x6 x7 x8
     go_wp2_with fail
     refine (num_c B 1 (by decide) wr).mono ?_
     rintro e w6 ⟨rfl, rfl⟩
     go_wp2_with fail
     refine HN1.out.mono ?_
     rintro e w7 ⟨⟨u7, rfl⟩, hb7, A7, c7, hw7⟩
     have HZ7 := Aside0.mk (show Wz S (m.fieldB 1 ys) w3 w7 from ⟨HBJ.out.trans hb7, A7, c7, hw7⟩)
     have HR7 := Aside0.mk (Kd.R_grown HRJ.out hb7 (fun K hK e => by have := Option.some.inj e; omega))
     clear hb7 hw7 x0 x1 x2 x3 x4 x5 y
     go_wp2_with fail
     go_roundw
     case rel => exact ⟨j + 1, _, HLT.out, by go_num, HO2.out, HLE2.out, HZ7.out, HR7.out⟩
     case measure => simp [intOf]; have := HLT.out; omega
    ·have HN1 := Aside0.mk (num_w S ys A5 c5 m.r wr HWJ.out (by have := HYB.out; omega))
     clear x6 x7 x8
     go_wp2_with fail
     refine (num_c B 2 (by decide) wr).mono ?_
     rintro e w6 ⟨rfl, rfl⟩
     go_wp2_with fail
     refine HN1.out.mono ?_
     rintro e w7 ⟨⟨u7, rfl⟩, hb7, A7, c7, hw7⟩
     have HZ7 := Aside0.mk (show Wz S (m.fieldB 2 ys) w3 w7 from ⟨HBJ.out.trans hb7, A7, c7, hw7⟩)
     have HR7 := Aside0.mk (Kd.R_grown HRJ.out hb7 (fun K hK e => by have := Option.some.inj e; omega))
     clear hb7 hw7 x0 x1 x2 x3 x4 x5 y
     go_wp2_with fail
     go_roundw
     case rel => exact ⟨j + 1, _, HLT.out, by go_num, HO2.out, HLE2.out, HZ7.out, HR7.out⟩
     case measure => simp [intOf]; have := HLT.out; omega
    ·have HN1 := Aside0.mk (num_w S ys A5 c5 m.s wr HWJ.out (by have := HYB.out; omega))
     clear x6 x7 x8
     go_wp2_with fail
     refine (num_c B 3 (by decide) wr).mono ?_
     rintro e w6 ⟨rfl, rfl⟩
     go_wp2_with fail
     refine HN1.out.mono ?_
     rintro e w7 ⟨⟨u7, rfl⟩, hb7, A7, c7, hw7⟩
     have HZ7 := Aside0.mk (show Wz S (m.fieldB 3 ys) w3 w7 from ⟨HBJ.out.trans hb7, A7, c7, hw7⟩)
     have HR7 := Aside0.mk (Kd.R_grown HRJ.out hb7 (fun K hK e => by have := Option.some.inj e; omega))
     clear hb7 hw7 x0 x1 x2 x3 x4 x5 y
     go_wp2_with fail
     go_roundw
     case rel => exact ⟨j + 1, _, HLT.out, by go_num, HO2.out, HLE2.out, HZ7.out, HR7.out⟩
     case measure => simp [intOf]; have := HLT.out; omega
    ·have HN1 := Aside0.mk (num_w S ys A5 c5 m.d wr HWJ.out (by have := HYB.out; omega))
     clear x6 x7 x8
     go_wp2_with fail
     refine (num_c B 4 (by decide) wr).mono ?_
     rintro e w6 ⟨rfl, rfl⟩
     go_wp2_with fail
     refine HN1.out.mono ?_
     rintro e w7 ⟨⟨u7, rfl⟩, hb7, A7, c7, hw7⟩
     have HZ7 := Aside0.mk (show Wz S (m.fieldB 4 ys) w3 w7 from ⟨HBJ.out.trans hb7, A7, c7, hw7⟩)
     have HR7 := Aside0.mk (Kd.R_grown HRJ.out hb7 (fun K hK e => by have := Option.some.inj e; omega))
     clear hb7 hw7 x0 x1 x2 x3 x4 x5 y
     go_wp2_with fail
     go_roundw
     case rel => exact ⟨j + 1, _, HLT.out, by go_num, HO2.out, HLE2.out, HZ7.out, HR7.out⟩
     case measure => simp [intOf]; have := HLT.out; omega
    ·have HN1 := Aside0.mk (op_w S ys A5 c5 A6 c6 m.o wr HWJ.out HLJ.out.o HLJ.out.oc HNE6.out (by have h1 := HYB.out; have h2 := HSM.out.w; omega) HSM.out.o)
     go_wp2_with fail
     refine HN1.out.mono ?_
     rintro e w7 ⟨⟨u7, rfl⟩, hb7, A7, c7, hw7⟩
     have HZ7 := Aside0.mk (show Wz S (m.fieldB 5 ys) w3 w7 from ⟨HBJ.out.trans hb7, A7, c7, hw7⟩)
     have HR7 := Aside0.mk (Kd.R_grown HRJ.out hb7 (fun K hK e => by have := Option.some.inj e; omega))
     clear hb7 hw7 x0 x1 x2 x3 x4 x5 y
     go_wp2_with fail
     go_roundw
     case rel => exact ⟨j + 1, _, HLT.out, by go_num, HO2.out, HLE2.out, HZ7.out, HR7.out⟩
     case measure => simp [intOf]; have := HLT.out; omega
    ·have HPT := Aside0.mk (fun (W : World) (hW : Below wr.heap.size wr W) => VaryP.nPutText _ ys m.t W (HWJ.out.below hW).sl (by have h1 := HYB.out; have h2 := HSM.out.t; omega))
     have HAL6 := Aside0.mk (fun (W : World) (hW : Below wr.heap.size wr W) => (show W.cell? ⟨B, 7, none⟩ = some (.string m.t) ∧ Wt S ys (.slice A5 ys.length c5) W from ⟨(HBLK.out.below hW).cells.2.2.1, HWJ.out.below hW⟩))
     have HB6 := Aside0.mk (Below.refl wr.heap.size wr)
     clear x0 x1 x2 x3 x4 x5 x6 x7 x8
     go_wp2_with fail
     clear y
     refine start_ (n := 11) (S := fun w' => True) (ds := []) #[false, false, false, false, false, false, false, false, false, false, false] (by kernel_rfl) rfl rfl trivial (fun hHeld => ?_); refine with_tabW R14.tab14 R14.bits14 (fun HT_ HW_ => ?_)
     refine inv_at [0, 1, 2, 3, 4, 5, 6, 7, 8, 9, 10] (fun a0_ b a w' => ∃ (v7 : Value), a = putSel a0_ b [(0, 45, (.pointer (some ⟨S, 0, none⟩))), (1, 46, (.pointer (some ⟨S, 0, none⟩))), (2, 47, (.pointer (some ⟨S, 0, none⟩))), (3, 48, (.pointer (some ⟨S, 0, none⟩))), (4, 49, (.slice A5 ys.length c5)), (5, 50, (.pointer (some ⟨B, 7, none⟩))), (6, 51, (.string m.t)), (7, 52, v7), (8, 53, (.pointer (some ⟨S, 0, none⟩))), (9, 54, (.pointer (some ⟨S, 0, none⟩)))] ∧ (b 10 = false → Below wr.heap.size wr w') ∧ (b 7 = true → Sl w' v7 (putTL ys (numsOf m.t))) ∧ (b 10 = true → Wz S (putTL ys (numsOf m.t)) wr w')) HT_.out HW_.out (by kernel_rfl) (by kernel_rfl) ?_ ?_ ?_
     ·exact ⟨.bool false, by simp only [putSel, Bool.false_eq_true, if_false], fun _ => below_drew1 HB6.out, fun h_ => absurd h_ (by decide), fun h_ => absurd h_ (by decide)⟩
     ·skip
      clear HB6
      refine steps_cons ?_ ?_
      ·rintro b a w' ⟨v7, ha, Q_HB6, Q_G7, Q_HZ6⟩ hb_ hon hoff
       refine ⟨_, rfl, fun K hK => ?_⟩
       have e4 : a.tmps[4]? = some ((.pointer (some ⟨S, 0, none⟩))) := by rw [ha]; exact (putSel_off rfl).trans rfl
       replace ha := Aside0.mk ha
       have HB6 := Aside0.mk (Q_HB6 (hoff 10 (by kernel_rfl)))
       refine value_ (w1 := w') (v := (.pointer (some ⟨S, 0, none⟩))) (by rfl) rfl ?_ ?_
       ·go_simp
        (try simp only [i64_w])
        try (first | rfl | assumption)
       refine hK.out _ _ ⟨v7, (by rw [ha.out]; exact putSel_upk 0 hb_ rfl rfl rfl), Q_HB6, Q_G7, fun h0_ => absurd ((hoff 10 (by kernel_rfl)).symm.trans h0_) (by decide)⟩
      refine steps_cons ?_ ?_
      ·rintro b a w' ⟨v7, ha, Q_HB6, Q_G7, Q_HZ6⟩ hb_ hon hoff
       refine ⟨_, rfl, fun K hK => ?_⟩
       have e4 : a.tmps[4]? = some ((.pointer (some ⟨S, 0, none⟩))) := by rw [ha]; exact (putSel_off rfl).trans rfl
       replace ha := Aside0.mk ha
       have HB6 := Aside0.mk (Q_HB6 (hoff 10 (by kernel_rfl)))
       refine value_ (w1 := w') (v := (.pointer (some ⟨S, 0, none⟩))) (by rfl) rfl ?_ ?_
       ·go_simp
        (try simp only [i64_w])
        try (first | rfl | assumption)
       refine hK.out _ _ ⟨v7, (by rw [ha.out]; exact putSel_upk 1 hb_ rfl rfl rfl), Q_HB6, fun h0_ => absurd ((hoff 7 (by kernel_rfl)).symm.trans h0_) (by decide), fun h0_ => absurd ((hoff 10 (by kernel_rfl)).symm.trans h0_) (by decide)⟩
      refine steps_cons ?_ ?_
      ·rintro b a w' ⟨v7, ha, Q_HB6, Q_G7, Q_HZ6⟩ hb_ hon hoff
       refine ⟨_, rfl, fun K hK => ?_⟩
       have e46 : a.tmps[46]? = some ((.pointer (some ⟨S, 0, none⟩))) := by rw [ha]; exact putSel_on (e := (1, 46, (.pointer (some ⟨S, 0, none⟩)))) 1 rfl rfl (hon 1 (by kernel_rfl)) rfl
       replace ha := Aside0.mk ha
       have HB6 := Aside0.mk (Q_HB6 (hoff 10 (by kernel_rfl)))
       refine value_ (w1 := w') (v := (.pointer (some ⟨S, 0, none⟩))) (by rfl) rfl ?_ ?_
       ·go_simp
        (try simp only [i64_w])
        try (first | rfl | assumption)
       refine hK.out _ _ ⟨v7, (by rw [ha.out]; exact putSel_upk 2 hb_ rfl rfl rfl), Q_HB6, fun h0_ => absurd ((hoff 7 (by kernel_rfl)).symm.trans h0_) (by decide), fun h0_ => absurd ((hoff 10 (by kernel_rfl)).symm.trans h0_) (by decide)⟩
      refine steps_cons ?_ ?_
      ·rintro b a w' ⟨v7, ha, Q_HB6, Q_G7, Q_HZ6⟩ hb_ hon hoff
       refine ⟨_, rfl, fun K hK => ?_⟩
       have e47 : a.tmps[47]? = some ((.pointer (some ⟨S, 0, none⟩))) := by rw [ha]; exact putSel_on (e := (2, 47, (.pointer (some ⟨S, 0, none⟩)))) 2 rfl rfl (hon 2 (by kernel_rfl)) rfl
       replace ha := Aside0.mk ha
       have HB6 := Aside0.mk (Q_HB6 (hoff 10 (by kernel_rfl)))
       refine value_ (w1 := w') (v := (.pointer (some ⟨S, 0, none⟩))) (by rfl) rfl ?_ ?_
       ·go_simp
        (try simp only [i64_w])
        try (first | rfl | assumption)
       refine hK.out _ _ ⟨v7, (by rw [ha.out]; exact putSel_upk 3 hb_ rfl rfl rfl), Q_HB6, fun h0_ => absurd ((hoff 7 (by kernel_rfl)).symm.trans h0_) (by decide), fun h0_ => absurd ((hoff 10 (by kernel_rfl)).symm.trans h0_) (by decide)⟩
      refine steps_cons ?_ ?_
      ·rintro b a w' ⟨v7, ha, Q_HB6, Q_G7, Q_HZ6⟩ hb_ hon hoff
       refine ⟨_, rfl, fun K hK => ?_⟩
       have e48 : a.tmps[48]? = some ((.pointer (some ⟨S, 0, none⟩))) := by rw [ha]; exact putSel_on (e := (3, 48, (.pointer (some ⟨S, 0, none⟩)))) 3 rfl rfl (hon 3 (by kernel_rfl)) rfl
       replace ha := Aside0.mk ha
       have HB6 := Aside0.mk (Q_HB6 (hoff 10 (by kernel_rfl)))
       obtain ⟨x1_, q_⟩ := HAL6.out _ HB6.out; have x3_ := q_.cell.1
       refine value_ (w1 := w') (v := (.slice A5 ys.length c5)) (by rfl) rfl ?_ ?_
       ·go_simp
        (try simp only [i64_w])
        try (first | rfl | assumption)
       refine hK.out _ _ ⟨v7, (by rw [ha.out]; exact putSel_upk 4 hb_ rfl rfl rfl), Q_HB6, fun h0_ => absurd ((hoff 7 (by kernel_rfl)).symm.trans h0_) (by decide), fun h0_ => absurd ((hoff 10 (by kernel_rfl)).symm.trans h0_) (by decide)⟩
      refine steps_cons ?_ ?_
      ·rintro b a w' ⟨v7, ha, Q_HB6, Q_G7, Q_HZ6⟩ hb_ hon hoff
       refine ⟨_, rfl, fun K hK => ?_⟩
       have e1 : a.tmps[1]? = some ((.pointer (some ⟨B, 0, none⟩))) := by rw [ha]; exact (putSel_off rfl).trans rfl
       replace ha := Aside0.mk ha
       have HB6 := Aside0.mk (Q_HB6 (hoff 10 (by kernel_rfl)))
       refine value_ (w1 := w') (v := (.pointer (some ⟨B, 7, none⟩))) (by rfl) rfl ?_ ?_
       ·go_simp
        (try simp only [i64_w])
        try (first | rfl | assumption)
       refine hK.out _ _ ⟨v7, (by rw [ha.out]; exact putSel_upk 5 hb_ rfl rfl rfl), Q_HB6, fun h0_ => absurd ((hoff 7 (by kernel_rfl)).symm.trans h0_) (by decide), fun h0_ => absurd ((hoff 10 (by kernel_rfl)).symm.trans h0_) (by decide)⟩
      refine steps_cons ?_ ?_
      ·rintro b a w' ⟨v7, ha, Q_HB6, Q_G7, Q_HZ6⟩ hb_ hon hoff
       refine ⟨_, rfl, fun K hK => ?_⟩
       have e50 : a.tmps[50]? = some ((.pointer (some ⟨B, 7, none⟩))) := by rw [ha]; exact putSel_on (e := (5, 50, (.pointer (some ⟨B, 7, none⟩)))) 5 rfl rfl (hon 5 (by kernel_rfl)) rfl
       replace ha := Aside0.mk ha
       have HB6 := Aside0.mk (Q_HB6 (hoff 10 (by kernel_rfl)))
       obtain ⟨x1_, q_⟩ := HAL6.out _ HB6.out
       refine value_ (w1 := w') (v := (.string m.t)) (by rfl) rfl ?_ ?_
       ·go_simp
        (try simp only [i64_w])
        try (first | rfl | assumption)
       refine hK.out _ _ ⟨v7, (by rw [ha.out]; exact putSel_upk 6 hb_ rfl rfl rfl), Q_HB6, fun h0_ => absurd ((hoff 7 (by kernel_rfl)).symm.trans h0_) (by decide), fun h0_ => absurd ((hoff 10 (by kernel_rfl)).symm.trans h0_) (by decide)⟩
      refine steps_cons ?_ ?_
      ·rintro b a w' ⟨v7, ha, Q_HB6, Q_G7, Q_HZ6⟩ hb_ hon hoff
       refine ⟨_, rfl, fun K hK => ?_⟩
       have e49 : a.tmps[49]? = some ((.slice A5 ys.length c5)) := by rw [ha]; exact putSel_on (e := (4, 49, (.slice A5 ys.length c5))) 4 rfl rfl (hon 4 (by kernel_rfl)) rfl
       have e51 : a.tmps[51]? = some ((.string m.t)) := by rw [ha]; exact putSel_on (e := (6, 51, (.string m.t))) 6 rfl rfl (hon 6 (by kernel_rfl)) rfl
       replace ha := Aside0.mk ha
       have HB6 := Aside0.mk (Q_HB6 (hoff 10 (by kernel_rfl)))
       refine goes_ Try.func60 (by kernel_rfl) rfl #[.slice A5 ys.length c5, .string m.t] (by rfl) rfl rfl (by first | (simp only [List.map_toArray, List.map_cons, List.map_nil, Act.eval, Array.getD_eq_getD_getElem?, Option.getD_some, e49, e51]; done) | (simp only [List.map_toArray, List.map_cons, List.map_nil, Act.eval, Array.getD_eq_getD_getElem?, Option.getD_some, e49, e51]; rfl)) ?_
       refine (HPT.out _ HB6.out).mono ?_
       rintro e w1_ ⟨v7, rfl, hg, hb⟩
       refine ⟨_, rfl, ?_⟩
       refine hK.out _ _ ⟨v7, (by rw [ha.out]; exact putSel_upk 7 hb_ rfl rfl rfl), fun _ => below_step HB6.out hb, fun _ => hg.sl, fun h0_ => absurd ((hoff 10 (by kernel_rfl)).symm.trans h0_) (by decide)⟩
      refine steps_cons ?_ ?_
      ·rintro b a w' ⟨v7, ha, Q_HB6, Q_G7, Q_HZ6⟩ hb_ hon hoff
       refine ⟨_, rfl, fun K hK => ?_⟩
       have e45 : a.tmps[45]? = some ((.pointer (some ⟨S, 0, none⟩))) := by rw [ha]; exact putSel_on (e := (0, 45, (.pointer (some ⟨S, 0, none⟩)))) 0 rfl rfl (hon 0 (by kernel_rfl)) rfl
       replace ha := Aside0.mk ha
       have HB6 := Aside0.mk (Q_HB6 (hoff 10 (by kernel_rfl)))
       have G7 := Aside0.mk (Q_G7 (hon 7 (by kernel_rfl)))
       refine value_ (w1 := w') (v := (.pointer (some ⟨S, 0, none⟩))) (by rfl) rfl ?_ ?_
       ·go_simp
        (try simp only [i64_w])
        try (first | rfl | assumption)
       refine hK.out _ _ ⟨v7, (by rw [ha.out]; exact putSel_upk 8 hb_ rfl rfl rfl), Q_HB6, Q_G7, fun h0_ => absurd ((hoff 10 (by kernel_rfl)).symm.trans h0_) (by decide)⟩
      refine steps_cons ?_ ?_
      ·rintro b a w' ⟨v7, ha, Q_HB6, Q_G7, Q_HZ6⟩ hb_ hon hoff
       refine ⟨_, rfl, fun K hK => ?_⟩
       have e53 : a.tmps[53]? = some ((.pointer (some ⟨S, 0, none⟩))) := by rw [ha]; exact putSel_on (e := (8, 53, (.pointer (some ⟨S, 0, none⟩)))) 8 rfl rfl (hon 8 (by kernel_rfl)) rfl
       replace ha := Aside0.mk ha
       have HB6 := Aside0.mk (Q_HB6 (hoff 10 (by kernel_rfl)))
       have G7 := Aside0.mk (Q_G7 (hon 7 (by kernel_rfl)))
       refine value_ (w1 := w') (v := (.pointer (some ⟨S, 0, none⟩))) (by rfl) rfl ?_ ?_
       ·go_simp
        (try simp only [i64_w])
        try (first | rfl | assumption)
       refine hK.out _ _ ⟨v7, (by rw [ha.out]; exact putSel_upk 9 hb_ rfl rfl rfl), Q_HB6, Q_G7, fun h0_ => absurd ((hoff 10 (by kernel_rfl)).symm.trans h0_) (by decide)⟩
      refine steps_cons ?_ ?_
      ·rintro b a w' ⟨v7, ha, Q_HB6, Q_G7, Q_HZ6⟩ hb_ hon hoff
       refine ⟨_, rfl, fun K hK => ?_⟩
       have e54 : a.tmps[54]? = some ((.pointer (some ⟨S, 0, none⟩))) := by rw [ha]; exact putSel_on (e := (9, 54, (.pointer (some ⟨S, 0, none⟩)))) 9 rfl rfl (hon 9 (by kernel_rfl)) rfl
       have e52 : a.tmps[52]? = some (v7) := by rw [ha]; exact putSel_on (e := (7, 52, v7)) 7 rfl rfl (hon 7 (by kernel_rfl)) rfl
       replace ha := Aside0.mk ha
       have HB6 := Aside0.mk (Q_HB6 hb_)
       have G7 := Aside0.mk (Q_G7 (hon 7 (by kernel_rfl)))
       obtain ⟨A_, c_, hv_, _, _⟩ := G7.out
       have hq_ := (HAL6.out _ HB6.out).2
       obtain ⟨w1_, hw1_⟩ : ∃ w1_, w1_ = w'.setCell ⟨S, 0, none⟩ (.slice A_ (putTL ys (numsOf m.t)).length c_) := ⟨_, rfl⟩
       rw [hv_] at e52
       refine skip_ (w1 := w1_) (by rfl) rfl (by rw [hw1_]; obtain ⟨q0, f0⟩ := hq_.cell; go_simp) ?_
       refine hK.out _ _ ⟨v7, (by rw [ha.out]; exact putSel_none (v := undef) rfl), fun h0_ => absurd ((up_self b 10).symm.trans h0_) (by decide), fun _ => (by rw [hw1_]; exact Sl.but G7.out (But.setCell S 0 _ _) hq_.noByte), fun _ => ⟨by rw [hw1_]; exact (grown_of_below HB6.out (some S)).trans (But.setCell S 0 _ _), A_, c_, by rw [hw1_]; exact hq_.set (hv_ ▸ G7.out)⟩⟩
      exact steps_nil
     rintro b a wf hall ⟨v7, ha, Q_HB6, Q_G7, Q_HZ6⟩
     clear HB6
     have hb0_ := hall 0 (by kernel_rfl)
     have hb1_ := hall 1 (by kernel_rfl)
     have hb2_ := hall 2 (by kernel_rfl)
     have hb3_ := hall 3 (by kernel_rfl)
     have hb4_ := hall 4 (by kernel_rfl)
     have hb5_ := hall 5 (by kernel_rfl)
     have hb6_ := hall 6 (by kernel_rfl)
     have hb7_ := hall 7 (by kernel_rfl)
     have hb8_ := hall 8 (by kernel_rfl)
     have hb9_ := hall 9 (by kernel_rfl)
     have hb10_ := hall 10 (by kernel_rfl)
     subst ha
     simp only [putSel, hb0_, hb1_, hb2_, hb3_, hb4_, hb5_, hb6_, hb7_, hb8_, hb9_, hb10_, if_true, Act.put, List.setIfInBounds_toArray, List.set_cons_zero, List.set_cons_succ]
     clear Q_HB6
     have G7 := Aside0.mk (Q_G7 hb7_)
     clear Q_G7
     have HZ6 := Aside0.mk (Q_HZ6 hb10_)
     clear Q_HZ6
     clear hall hb0_ hb1_ hb2_ hb3_ hb4_ hb5_ hb6_ hb7_ hb8_ hb9_ hb10_
     have HZ7 := Aside0.mk (show Wz S (m.fieldB 6 ys) w3 wf from ⟨HBJ.out.trans HZ6.out.1, HZ6.out.2⟩)
     have HR7 := Aside0.mk (Kd.R_grown HRJ.out HZ6.out.1 (fun K hK e => by have := Option.some.inj e; omega))
     clear HZ6 G7 HPT HAL6
     go_wp2_with fail
     go_roundw
     case rel => exact ⟨j + 1, _, HLT.out, by go_num, HO2.out, HLE2.out, HZ7.out, HR7.out⟩
     case measure => simp [intOf]; have := HLT.out; omega
    ·have HN1 := Aside0.mk (notes_w S ys A5 c5 A8 c8 m.n wr HWJ.out HLJ.out.n HLJ.out.nc HNE8.out (by have h1 := HYB.out; omega) HSM.out.n)
     go_wp2_with fail
     refine HN1.out.mono ?_
     rintro e w7 ⟨⟨u7, rfl⟩, hb7, A7, c7, hw7⟩
     have HZ7 := Aside0.mk (show Wz S (m.fieldB 7 ys) w3 w7 from ⟨HBJ.out.trans hb7, A7, c7, hw7⟩)
     have HR7 := Aside0.mk (Kd.R_grown HRJ.out hb7 (fun K hK e => by have := Option.some.inj e; omega))
     clear hb7 hw7 x0 x1 x2 x3 x4 x5 y
     go_wp2_with fail
     go_roundw
     case rel => exact ⟨j + 1, _, HLT.out, by go_num, HO2.out, HLE2.out, HZ7.out, HR7.out⟩
     case measure => simp [intOf]; have := HLT.out; omega
   ·obtain rfl : j = fs.length := by omega
    have hlt' : ¬ ((fs.length : Int) < (fs.length : Int)) := by omega
    have HE := Aside0.mk (show ys = m.encL by have h := HO.out; rwa [List.drop_eq_nil_of_le (Nat.le_refl _)] at h)
    have x9 := HWJ.out.cell.1
    go_wp2_with fail
    go_ret2
    exact ⟨_, by rw [hgd]; rfl, by rw [hgd]; show Sl wr _ m.encL; rw [← HE.out]; exact HWJ.out.sl, HLW.out⟩
end Go.Proofs.Ytedfcjcnhgomoaa.MsgE
end
-- MERGED YtedfcjcnhgomoaaPvariorumref11Less
section
namespace Go.Proofs.Ytedfcjcnhgomoaa.P
open Go.RowKit Go.Proofs.YtedfcjcnhgomoaaW.PrintWords Go.Proofs.YtedfcjcnhgomoaaW.PrintLast Go.Proofs.YtedfcjcnhgomoaaW.PrintMore
attribute [local go_sem] max2_int min2_int max_two min_two max_three min_three max_four min_four   -- for this text's walks alone
set_option linter.unusedVariables false
set_option linter.unusedSimpArgs false
def variorumref11_Less.f (a0_0 : Int) (a0_1 : Int) (a0_2 : Int) (a1_0 : Int) (a1_1 : Int) (a1_2 : Int) : Option (Bool) := if a0_0 = a1_0 then (if a0_1 = a1_1 then (some (decide (a0_2 < a1_2))) else (some (decide (a0_1 < a1_1)))) else (some (decide (a0_0 < a1_0)))
end Go.Proofs.Ytedfcjcnhgomoaa.P
end
-- MERGED YtedfcjcnhgomoaaPvariorumref11Notes
section
namespace Go.Proofs.Ytedfcjcnhgomoaa.P
open Go.RowKit Go.Proofs.YtedfcjcnhgomoaaW.PrintWords Go.Proofs.YtedfcjcnhgomoaaW.PrintLast Go.Proofs.YtedfcjcnhgomoaaW.PrintMore
attribute [local go_sem] max2_int min2_int max_two min_two max_three min_three max_four min_four   -- for this text's walks alone
set_option linter.unusedVariables false
set_option linter.unusedSimpArgs false
def variorumref11_Notes.l0 : Nat → List (S104) → Int → Option (Bool)
 | 0, _, _ => none
 | k + 1, x0, x3 => if x3 < (x0.length : Int) then (if 0 ≤ x3 then (if ((rd_T104 x0 x3).f0.f0) < 0 then (some false) else (if ((rd_T104 x0 x3).f0.f0) > ((rd_T104 x0 x3).f0.f1) then (some false) else (if ((rd_T104 x0 x3).f0.f1) > 16777216 then (some false) else (if ((rd_T104 x0 x3).f1) < 0 then (some false) else (if ((rd_T104 x0 x3).f1) > 65536 then (some false) else (if x3 > 0 then (if 0 ≤ (wrap64 (x3 - 1)) then (if (wrap64 (x3 - 1)) < (x0.length : Int) then ((variorumref11_Less.f ((rd_T104 x0 (wrap64 (x3 - 1))).f0.f0) ((rd_T104 x0 (wrap64 (x3 - 1))).f0.f1) ((rd_T104 x0 (wrap64 (x3 - 1))).f1) ((rd_T104 x0 x3).f0.f0) ((rd_T104 x0 x3).f0.f1) ((rd_T104 x0 x3).f1)).bind fun t283 => (if t283 = true then (variorumref11_Notes.l0 k x0 (wrap64 (x3 + 1))) else (some false))) else (none)) else (none)) else (variorumref11_Notes.l0 k x0 (wrap64 (x3 + 1))))))))) else (none)) else (some true)
def variorumref11_Notes.f (k : Nat) (l0 : List (S104)) : Option (Bool) := if (l0.length : Int) > 4096 then (some false) else (variorumref11_Notes.l0 k l0 0)
end Go.Proofs.Ytedfcjcnhgomoaa.P
end
-- MERGED YtedfcjcnhgomoaaCarryRf
namespace Go.Proofs.Ytedfcjcnhgomoaa.CarryRf
end Go.Proofs.Ytedfcjcnhgomoaa.CarryRf
-- MERGED YtedfcjcnhgomoaaPvariorumref11Fields
section
namespace Go.Proofs.Ytedfcjcnhgomoaa.P
open Go.RowKit Go.Proofs.YtedfcjcnhgomoaaW.PrintWords Go.Proofs.YtedfcjcnhgomoaaW.PrintLast Go.Proofs.YtedfcjcnhgomoaaW.PrintMore
attribute [local go_sem] max2_int min2_int max_two min_two max_three min_three max_four min_four   -- for this text's walks alone
set_option linter.unusedVariables false
set_option linter.unusedSimpArgs false
def variorumref11_Fields.f (a0 : Int) : Option (ByteArray) := if a0 = 1 then (some (⟨#[99, 101, 114, 115]⟩ : ByteArray)) else (if a0 = 2 then (some (⟨#[99, 114, 115, 111]⟩ : ByteArray)) else (if a0 = 3 then (some (⟨#[114, 115]⟩ : ByteArray)) else (if a0 = 4 then (some (⟨#[114, 115, 116]⟩ : ByteArray)) else (if a0 = 5 then (some (⟨#[114, 110]⟩ : ByteArray)) else (if a0 = 6 then (some (⟨#[101]⟩ : ByteArray)) else (if a0 = 7 then (some (⟨#[100]⟩ : ByteArray)) else (some (⟨#[]⟩ : ByteArray))))))))
end Go.Proofs.Ytedfcjcnhgomoaa.P
end
-- MERGED YtedfcjcnhgomoaaPvariorumref11num
section
namespace Go.Proofs.Ytedfcjcnhgomoaa.P
open Go.RowKit Go.Proofs.YtedfcjcnhgomoaaW.PrintWords Go.Proofs.YtedfcjcnhgomoaaW.PrintLast Go.Proofs.YtedfcjcnhgomoaaW.PrintMore
attribute [local go_sem] max2_int min2_int max_two min_two max_three min_three max_four min_four   -- for this text's walks alone
set_option linter.unusedVariables false
set_option linter.unusedSimpArgs false
def variorumref11_num.f (a0_0 : Int) (a0_1 : Int) (a0_2 : Int) (a0_3 : Int) (a0_4 : Int) (a0_5 : Int) (l0_6 : List (S85)) (a0_7 : ByteArray) (l0_8 : List (S104)) (a1 : Int) : Option (Int × Int) := if a1 = 99 then (some (a0_1, 63)) else (if a1 = 101 then (some (a0_2, 4611686018427387904)) else (if a1 = 114 then (some (a0_3, 4611686018427387904)) else (if a1 = 115 then (some (a0_4, 4611686018427387904)) else (some (a0_5, 65536)))))
end Go.Proofs.Ytedfcjcnhgomoaa.P
end
-- MERGED YtedfcjcnhgomoaaPvariorumref11has
section
namespace Go.Proofs.Ytedfcjcnhgomoaa.P
open Go.RowKit Go.Proofs.YtedfcjcnhgomoaaW.PrintWords Go.Proofs.YtedfcjcnhgomoaaW.PrintLast Go.Proofs.YtedfcjcnhgomoaaW.PrintMore
attribute [local go_sem] max2_int min2_int max_two min_two max_three min_three max_four min_four   -- for this text's walks alone
set_option linter.unusedVariables false
set_option linter.unusedSimpArgs false
def variorumref11_has.l0 : Nat → ByteArray → Int → Int → Option (Bool)
 | 0, _, _, _ => none
 | k + 1, x0, x1, x5 => if x5 < (x0.size : Int) then (if 0 ≤ x5 then (if (bt x0 x5) = x1 then (some true) else (variorumref11_has.l0 k x0 x1 (wrap64 (x5 + 1)))) else (none)) else (some false)
def variorumref11_has.f (k : Nat) (a0 : ByteArray) (a1 : Int) : Option (Bool) := variorumref11_has.l0 k a0 a1 0
end Go.Proofs.Ytedfcjcnhgomoaa.P
end
-- MERGED YtedfcjcnhgomoaaPvariorumref11Good
section
namespace Go.Proofs.Ytedfcjcnhgomoaa.P
open Go.RowKit Go.Proofs.YtedfcjcnhgomoaaW.PrintWords Go.Proofs.YtedfcjcnhgomoaaW.PrintLast Go.Proofs.YtedfcjcnhgomoaaW.PrintMore
attribute [local go_sem] max2_int min2_int max_two min_two max_three min_three max_four min_four   -- for this text's walks alone
set_option linter.unusedVariables false
set_option linter.unusedSimpArgs false
mutual
def variorumref11_Good.j0 : Nat → ByteArray → Bool → Int → Int → Int → Int → Int → Int → List (S85) → ByteArray → List (S104) → Option (Bool)
 | 0, _, _, _, _, _, _, _, _, _, _, _ => none
 | k + 1, x3, x44, x285000, x285001, x285002, x285003, x285004, x285005, x285006, x285007, x285008 => if x44 = true then (some false) else (variorumref11_Good.l0 k x3 (⟨#[99, 101, 114, 115, 100]⟩ : ByteArray) 0 x285000 x285001 x285002 x285003 x285004 x285005 x285006 x285007 x285008)
def variorumref11_Good.l0 : Nat → ByteArray → ByteArray → Int → Int → Int → Int → Int → Int → Int → List (S85) → ByteArray → List (S104) → Option (Bool)
 | 0, _, _, _, _, _, _, _, _, _, _, _, _ => none
 | k + 1, x3, x4, x5, x285000, x285001, x285002, x285003, x285004, x285005, x285006, x285007, x285008 => if x5 < (x4.size : Int) then (if 0 ≤ x5 then ((variorumref11_num.f x285000 x285001 x285002 x285003 x285004 x285005 x285006 x285007 x285008 (bt x4 x5)).bind fun bt295 => ((variorumref11_has.f k x3 (bt x4 x5)).bind fun t297 => (if t297 = true then (if bt295.1 < 0 then (some false) else (if bt295.1 > bt295.2 then (some false) else (variorumref11_Good.l0 k x3 x4 (wrap64 (x5 + 1)) x285000 x285001 x285002 x285003 x285004 x285005 x285006 x285007 x285008))) else (if bt295.1 < 0 then (some false) else (if bt295.1 > 0 then (some false) else (variorumref11_Good.l0 k x3 x4 (wrap64 (x5 + 1)) x285000 x285001 x285002 x285003 x285004 x285005 x285006 x285007 x285008)))))) else (none)) else ((variorumref06_Good.f x285006).bind fun t293 => (if t293 = true then (if (x285007.size : Int) ≤ 16777216 then ((variorumref11_Notes.f k x285008).bind fun t294 => (some t294)) else (some false)) else (some false)))
end
def variorumref11_Good.f (k : Nat) (a0_0 : Int) (a0_1 : Int) (a0_2 : Int) (a0_3 : Int) (a0_4 : Int) (a0_5 : Int) (l0_6 : List (S85)) (a0_7 : ByteArray) (l0_8 : List (S104)) : Option (Bool) := (variorumref11_Fields.f a0_0).bind fun t285 => (if t285.toList = ([] : List UInt8) then (variorumref11_Good.j0 k t285 true a0_0 a0_1 a0_2 a0_3 a0_4 a0_5 l0_6 a0_7 l0_8) else ((variorumref11_has.f k t285 111).bind fun t286 => (if t286 = true then ((variorumref11_has.f k t285 116).bind fun t287 => (if t287 = true then ((variorumref11_has.f k t285 110).bind fun t288 => (if t288 = true then (variorumref11_Good.j0 k t285 false a0_0 a0_1 a0_2 a0_3 a0_4 a0_5 l0_6 a0_7 l0_8) else (variorumref11_Good.j0 k t285 (decide ((l0_8.length : Int) > 0)) a0_0 a0_1 a0_2 a0_3 a0_4 a0_5 l0_6 a0_7 l0_8))) else (if a0_7.toList = ([] : List UInt8) then ((variorumref11_has.f k t285 110).bind fun t289 => (if t289 = true then (variorumref11_Good.j0 k t285 false a0_0 a0_1 a0_2 a0_3 a0_4 a0_5 l0_6 a0_7 l0_8) else (variorumref11_Good.j0 k t285 (decide ((l0_8.length : Int) > 0)) a0_0 a0_1 a0_2 a0_3 a0_4 a0_5 l0_6 a0_7 l0_8))) else (variorumref11_Good.j0 k t285 true a0_0 a0_1 a0_2 a0_3 a0_4 a0_5 l0_6 a0_7 l0_8)))) else (if (l0_6.length : Int) > 0 then (variorumref11_Good.j0 k t285 true a0_0 a0_1 a0_2 a0_3 a0_4 a0_5 l0_6 a0_7 l0_8) else ((variorumref11_has.f k t285 116).bind fun t290 => (if t290 = true then ((variorumref11_has.f k t285 110).bind fun t291 => (if t291 = true then (variorumref11_Good.j0 k t285 false a0_0 a0_1 a0_2 a0_3 a0_4 a0_5 l0_6 a0_7 l0_8) else (variorumref11_Good.j0 k t285 (decide ((l0_8.length : Int) > 0)) a0_0 a0_1 a0_2 a0_3 a0_4 a0_5 l0_6 a0_7 l0_8))) else (if a0_7.toList = ([] : List UInt8) then ((variorumref11_has.f k t285 110).bind fun t292 => (if t292 = true then (variorumref11_Good.j0 k t285 false a0_0 a0_1 a0_2 a0_3 a0_4 a0_5 l0_6 a0_7 l0_8) else (variorumref11_Good.j0 k t285 (decide ((l0_8.length : Int) > 0)) a0_0 a0_1 a0_2 a0_3 a0_4 a0_5 l0_6 a0_7 l0_8))) else (variorumref11_Good.j0 k t285 true a0_0 a0_1 a0_2 a0_3 a0_4 a0_5 l0_6 a0_7 l0_8))))))))
end Go.Proofs.Ytedfcjcnhgomoaa.P
end
-- MERGED YtedfcjcnhgomoaaMsgR
section
namespace Go.Proofs.Ytedfcjcnhgomoaa.MsgR
open Go.RowKit Go.Proofs.Ytedfcjcnhgomoaa.EditK Go.Proofs.Ytedfcjcnhgomoaa.P Go.Proofs.YtedfcjcnhgomoaaW.PrintWords Go.Proofs.YtedfcjcnhgomoaaW.PrintLast Go.Proofs.YtedfcjcnhgomoaaW.PrintMore Go.Proofs.Ytedfcjcnhgomoaa.Own Go.Proofs.Ytedfcjcnhgomoaa.NoteN Go.Proofs.Ytedfcjcnhgomoaa.MsgA Go.Proofs.Ytedfcjcnhgomoaa.MsgD Go.Proofs.Ytedfcjcnhgomoaa.MsgE
set_option linter.unusedSimpArgs false
set_option linter.unusedVariables false
def numOk (h : Bool) (n q : Int) : Bool := decide (0 ≤ n) && decide (n ≤ if h then q else 0)
def hasF (l : List Int) (f : Int) : Bool := decide (f ∈ l)
def tailB (m : Ms) : Bool := EditL.good m.o && (decide ((m.t.size : Int) ≤ 16777216) && fineL m.n)
def numsB (m : Ms) (l : List Int) : Bool := numOk (hasF l 0) m.c 63 && (numOk (hasF l 1) m.e 4611686018427387904 && (numOk (hasF l 2) m.r 4611686018427387904 && (numOk (hasF l 3) m.s 4611686018427387904 && numOk (hasF l 4) m.d 65536)))
def restB (m : Ms) (l : List Int) : Bool := (hasF l 5 || decide (m.o.length = 0)) && ((hasF l 6 || decide (m.t.size = 0)) && (hasF l 7 || decide (m.n.length = 0)))
def refGood (m : Ms) : Bool := !(fieldsL m.k).isEmpty && (restB m (fieldsL m.k) && (numsB m (fieldsL m.k) && tailB m))
theorem run_cons (go gn : Bool) (f : Int) (l : List Int) (a x : Mg) : ((MsgD.run go gn (f :: l) a).map (lastOk x)).getD false = (a.ok go gn f.toNat && ((MsgD.run go gn l (a.strip f.toNat)).map (lastOk x)).getD false) := by
 simp only [MsgD.run]
 cases a.ok go gn f.toNat <;> rfl
theorem run_nil (go gn : Bool) (a x : Mg) : ((MsgD.run go gn [] a).map (lastOk x)).getD false = lastOk x a := rfl
theorem tl0 {s : ByteArray} : (s.toList == (⟨#[]⟩ : ByteArray).toList) = decide (s.size = 0) := by
 by_cases h : s.size = 0
 ·rw [decide_eq_true h, EditL.eq_E h]
  exact beq_self_eq_true _
 ·rw [decide_eq_false h, beq_eq_false_iff_ne]
  intro e
  apply h
  rw [ByteArray.toList_eq, ByteArray.toList_eq] at e
  have := congrArg List.length e
  simpa using this
theorem tail_o {m : Ms} (h : m.o.length = 0) : EditL.good m.o = true := by rw [List.eq_nil_of_length_eq_zero h]; rfl
theorem tail_n {m : Ms} (h : m.n.length = 0) : fineL m.n = true := by rw [List.eq_nil_of_length_eq_zero h]; rfl
theorem good_ref (m : Ms) : m.good = refGood m := by
 have ho := @tail_o m
 have hn := @tail_n m
 unfold Ms.good goodM refGood restB numsB tailB numOk hasF
 show ((MsgD.run _ _ (fieldsL m.k) _).map _).getD false = _
 unfold fieldsL
 obtain ⟨go, hgo⟩ : ∃ go, go = EditL.good m.o := ⟨_, rfl⟩
 obtain ⟨gn, hgn⟩ : ∃ gn, gn = fineL m.n := ⟨_, rfl⟩
 rw [← hgo] at ho ⊢
 rw [← hgn] at hn ⊢
 have ho2 : m.o = [] → go = true := fun h => ho (by rw [h]; rfl)
 have hn2 : m.n = [] → gn = true := fun h => hn (by rw [h]; rfl)
 have htl : (m.t.toList = []) ↔ m.t = ByteArray.empty := by
  constructor
  ·intro h
   rw [ByteArray.toList_eq] at h
   exact EditL.eq_E (s := m.t) (by simpa using congrArg List.length h)
  ·intro h
   rw [h, ByteArray.toList_eq]; rfl
 have hts : m.t = ByteArray.empty → (m.t.size : Int) ≤ 16777216 := fun h => by rw [h]; decide
 clear ho hn hgo hgn
 by_cases k1 : m.k = 1
 ·rw [if_pos k1, Bool.eq_iff_iff]
  simp [run_cons, run_nil, lastOk, MsgC.Mg.same, MsgC.Mg.nums, kindM, nil0, Mg.ok, Mg.get, Mg.strip, most, Ms.mg, fieldsL, k1, tl0, htl]
  generalize (m.o = []) = po at *
  generalize (m.n = []) = pn at *
  generalize (m.t = ByteArray.empty) = pt at *
  constructor
  ·intro h; simp_all; (try omega)
  ·intro h; simp_all; (try omega)
 by_cases k2 : m.k = 2
 ·rw [if_neg k1, if_pos k2, Bool.eq_iff_iff]
  simp [run_cons, run_nil, lastOk, MsgC.Mg.same, MsgC.Mg.nums, kindM, nil0, Mg.ok, Mg.get, Mg.strip, most, Ms.mg, fieldsL, k2, tl0, htl]
  generalize (m.o = []) = po at *
  generalize (m.n = []) = pn at *
  generalize (m.t = ByteArray.empty) = pt at *
  constructor
  ·intro h; simp_all; (try omega)
  ·intro h; simp_all; (try omega)
 by_cases k3 : m.k = 3
 ·rw [if_neg k1, if_neg k2, if_pos k3, Bool.eq_iff_iff]
  simp [run_cons, run_nil, lastOk, MsgC.Mg.same, MsgC.Mg.nums, kindM, nil0, Mg.ok, Mg.get, Mg.strip, most, Ms.mg, fieldsL, k3, tl0, htl]
  generalize (m.o = []) = po at *
  generalize (m.n = []) = pn at *
  generalize (m.t = ByteArray.empty) = pt at *
  constructor
  ·intro h; simp_all; (try omega)
  ·intro h; simp_all; (try omega)
 by_cases k4 : m.k = 4
 ·rw [if_neg k1, if_neg k2, if_neg k3, if_pos k4, Bool.eq_iff_iff]
  simp [run_cons, run_nil, lastOk, MsgC.Mg.same, MsgC.Mg.nums, kindM, nil0, Mg.ok, Mg.get, Mg.strip, most, Ms.mg, fieldsL, k4, tl0, htl]
  generalize (m.o = []) = po at *
  generalize (m.n = []) = pn at *
  generalize (m.t = ByteArray.empty) = pt at *
  constructor
  ·intro h; simp_all; (try omega)
  ·intro h; simp_all; (try omega)
 by_cases k5 : m.k = 5
 ·rw [if_neg k1, if_neg k2, if_neg k3, if_neg k4, if_pos k5, Bool.eq_iff_iff]
  simp [run_cons, run_nil, lastOk, MsgC.Mg.same, MsgC.Mg.nums, kindM, nil0, Mg.ok, Mg.get, Mg.strip, most, Ms.mg, fieldsL, k5, tl0, htl]
  generalize (m.o = []) = po at *
  generalize (m.n = []) = pn at *
  generalize (m.t = ByteArray.empty) = pt at *
  constructor
  ·intro h; simp_all; (try omega)
  ·intro h; simp_all; (try omega)
 by_cases k6 : m.k = 6
 ·rw [if_neg k1, if_neg k2, if_neg k3, if_neg k4, if_neg k5, if_pos k6, Bool.eq_iff_iff]
  simp [run_cons, run_nil, lastOk, MsgC.Mg.same, MsgC.Mg.nums, kindM, nil0, Mg.ok, Mg.get, Mg.strip, most, Ms.mg, fieldsL, k6, tl0, htl]
  generalize (m.o = []) = po at *
  generalize (m.n = []) = pn at *
  generalize (m.t = ByteArray.empty) = pt at *
  constructor
  ·intro h; simp_all; (try omega)
  ·intro h; simp_all; (try omega)
 by_cases k7 : m.k = 7
 ·rw [if_neg k1, if_neg k2, if_neg k3, if_neg k4, if_neg k5, if_neg k6, if_pos k7, Bool.eq_iff_iff]
  simp [run_cons, run_nil, lastOk, MsgC.Mg.same, MsgC.Mg.nums, kindM, nil0, Mg.ok, Mg.get, Mg.strip, most, Ms.mg, fieldsL, k7, tl0, htl]
  generalize (m.o = []) = po at *
  generalize (m.n = []) = pn at *
  generalize (m.t = ByteArray.empty) = pt at *
  constructor
  ·intro h; simp_all; (try omega)
  ·intro h; simp_all; (try omega)
 rw [if_neg k1, if_neg k2, if_neg k3, if_neg k4, if_neg k5, if_neg k6, if_neg k7]
 simp [run_nil, lastOk, fieldsL, Ms.mg, k1, k2, k3, k4, k5, k6, k7]
end Go.Proofs.Ytedfcjcnhgomoaa.MsgR
end
-- MERGED YtedfcjcnhgomoaaPvariorumref01Put
section
namespace Go.Proofs.Ytedfcjcnhgomoaa.P
open Go.RowKit Go.Proofs.YtedfcjcnhgomoaaW.PrintWords Go.Proofs.YtedfcjcnhgomoaaW.PrintLast Go.Proofs.YtedfcjcnhgomoaaW.PrintMore
attribute [local go_sem] max2_int min2_int max_two min_two max_three min_three max_four min_four   -- for this text's walks alone
set_option linter.unusedVariables false
set_option linter.unusedSimpArgs false
mutual
def variorumref01_Put.j0 : Nat → Int → List Int → Bool → Option (List Int)
 | 0, _, _, _ => none
 | k + 1, x1, x5, x14 => if x14 = true then (some x5) else (variorumref01_Put.l0 k x1 x5)
def variorumref01_Put.l0 : Nat → Int → List Int → Option (List Int)
 | 0, _, _ => none
 | k + 1, x1, x5 => if x1 ≥ 128 then (if x5.length < 140737488355328 then (variorumref01_Put.l0 k (wrap64 (Int.tdiv x1 128)) (x5 ++ [(wrap64 ((Int.tmod x1 128) + 128)) % 256])) else (none)) else (if x5.length < 140737488355328 then (some (x5 ++ [(x1) % 256])) else (none))
end
def variorumref01_Put.f (k : Nat) (l0 : List Int) (a1 : Int) : Option (List Int) := (some (([] : List Int) : List Int)).bind fun y110 => (if y110.length + l0.length < 140737488355328 then ((some (y110 ++ l0 : List Int)).bind fun y113 => (if a1 < 0 then (variorumref01_Put.j0 k a1 y113 true) else (variorumref01_Put.j0 k a1 y113 (decide (a1 > 4611686018427387904))))) else (none))
theorem variorumref01_Put.mono_l : ∀ k, (∀ y0 y1 y2, LeO (variorumref01_Put.j0 k y0 y1 y2) (variorumref01_Put.j0 (k + 1) y0 y1 y2)) ∧ (∀ y0 y1, LeO (variorumref01_Put.l0 k y0 y1) (variorumref01_Put.l0 (k + 1) y0 y1))
 | 0 => ⟨fun _ _ _ r h => by simp [variorumref01_Put.j0] at h, fun _ _ r h => by simp [variorumref01_Put.l0] at h⟩
 | k + 1 => by
  obtain ⟨ih0, ih1⟩ := variorumref01_Put.mono_l k
  refine ⟨?_, ?_⟩
  ·intro y0 y1 y2
   unfold variorumref01_Put.j0
   repeat' first | (with_reducible exact ih1 _ _) | (with_reducible exact LeO.refl _) | (with_reducible refine LeO.ite ?_ ?_)
  ·intro y0 y1
   unfold variorumref01_Put.l0
   repeat' first | (with_reducible exact ih1 _ _) | (with_reducible exact LeO.refl _) | (with_reducible refine LeO.ite ?_ ?_)
theorem variorumref01_Put.mono : ∀ a0 a1 k, LeO (variorumref01_Put.f k a0 a1) (variorumref01_Put.f (k + 1) a0 a1) := by
 intro a0 a1 k
 obtain ⟨ih0, ih1⟩ := variorumref01_Put.mono_l k
 unfold variorumref01_Put.f
 repeat' first | (with_reducible exact ih0 _ _ _) | (with_reducible exact LeO.refl _) | (with_reducible refine LeO.ite ?_ ?_) | (with_reducible refine LeO.bind ?_ (fun _ => ?_))
end Go.Proofs.Ytedfcjcnhgomoaa.P
end
-- MERGED YtedfcjcnhgomoaaPvariorumref01PutText
section
namespace Go.Proofs.Ytedfcjcnhgomoaa.P
open Go.RowKit Go.Proofs.YtedfcjcnhgomoaaW.PrintWords Go.Proofs.YtedfcjcnhgomoaaW.PrintLast Go.Proofs.YtedfcjcnhgomoaaW.PrintMore
attribute [local go_sem] max2_int min2_int max_two min_two max_three min_three max_four min_four   -- for this text's walks alone
set_option linter.unusedVariables false
set_option linter.unusedSimpArgs false
def variorumref01_PutText.f (k : Nat) (l0 : List Int) (a1 : ByteArray) : Option (List Int) := (variorumref01_Put.f k l0 (a1.size : Int)).bind fun t122 => (if t122.length + a1.size < 140737488355328 then (some (t122 ++ bytesOf a1)) else (none))
theorem variorumref01_PutText.mono : ∀ a0 a1 k, LeO (variorumref01_PutText.f k a0 a1) (variorumref01_PutText.f (k + 1) a0 a1) := by
 intro a0 a1 k
 unfold variorumref01_PutText.f
 repeat' first | (with_reducible exact variorumref01_Put.mono _ _ _) | (with_reducible exact LeO.refl _) | (with_reducible refine LeO.bind ?_ (fun _ => ?_))
end Go.Proofs.Ytedfcjcnhgomoaa.P
end
-- MERGED YtedfcjcnhgomoaaPvariorumref01PutSigned
section
namespace Go.Proofs.Ytedfcjcnhgomoaa.P
open Go.RowKit Go.Proofs.YtedfcjcnhgomoaaW.PrintWords Go.Proofs.YtedfcjcnhgomoaaW.PrintLast Go.Proofs.YtedfcjcnhgomoaaW.PrintMore
attribute [local go_sem] max2_int min2_int max_two min_two max_three min_three max_four min_four   -- for this text's walks alone
set_option linter.unusedVariables false
set_option linter.unusedSimpArgs false
def variorumref01_PutSigned.j0 : Nat → List Int → Int → Bool → Option (List Int)
 | 0, _, _, _ => none
 | k + 1, x0, x1, x10 => if x10 = true then ((some (([] : List Int) : List Int)).bind fun y298 => (if y298.length + x0.length < 140737488355328 then (some (y298 ++ x0)) else (none))) else (if x1 < 0 then ((variorumref01_Put.f k x0 (wrap64 ((wrap64 (2 * (wrap64 (-x1)))) - 1))).bind fun t304 => (some t304)) else ((variorumref01_Put.f k x0 (wrap64 (2 * x1))).bind fun t307 => (some t307)))
def variorumref01_PutSigned.f (k : Nat) (l0 : List Int) (a1 : Int) : Option (List Int) := if a1 < (-2305843009213693952) then (variorumref01_PutSigned.j0 k l0 a1 true) else (variorumref01_PutSigned.j0 k l0 a1 (decide (a1 > 2305843009213693952)))
theorem variorumref01_PutSigned.mono_l : ∀ k, (∀ y0 y1 y2, LeO (variorumref01_PutSigned.j0 k y0 y1 y2) (variorumref01_PutSigned.j0 (k + 1) y0 y1 y2))
 | 0 => fun _ _ _ r h => by simp [variorumref01_PutSigned.j0] at h
 | k + 1 => by
  have ih0 := variorumref01_PutSigned.mono_l k
  ·intro y0 y1 y2
   unfold variorumref01_PutSigned.j0
   repeat' first | (with_reducible exact variorumref01_Put.mono _ _ _) | (with_reducible exact LeO.refl _) | (with_reducible refine LeO.ite ?_ ?_) | (with_reducible refine LeO.bind ?_ (fun _ => ?_))
theorem variorumref01_PutSigned.mono : ∀ a0 a1 k, LeO (variorumref01_PutSigned.f k a0 a1) (variorumref01_PutSigned.f (k + 1) a0 a1) := by
 intro a0 a1 k
 have ih0 := variorumref01_PutSigned.mono_l k
 unfold variorumref01_PutSigned.f
 repeat' first | (with_reducible exact ih0 _ _ _) | (with_reducible refine LeO.ite ?_ ?_)
end Go.Proofs.Ytedfcjcnhgomoaa.P
end
-- MERGED YtedfcjcnhgomoaaPvariorumref01Num
section
namespace Go.Proofs.Ytedfcjcnhgomoaa.P
open Go.RowKit Go.Proofs.YtedfcjcnhgomoaaW.PrintWords Go.Proofs.YtedfcjcnhgomoaaW.PrintLast Go.Proofs.YtedfcjcnhgomoaaW.PrintMore
attribute [local go_sem] max2_int min2_int max_two min_two max_three min_three max_four min_four   -- for this text's walks alone
set_option linter.unusedVariables false
set_option linter.unusedSimpArgs false
mutual
def variorumref01_Num.l0 : Nat → List Int → Int → Int → Int → Option (Int × Int)
 | 0, _, _, _, _ => none
 | k + 1, x0, x4, x5, x6 => if x6 < (x0.length : Int) then (variorumref01_Num.j1 k x0 x4 x5 x6 (decide (x6 < 9))) else (variorumref01_Num.j1 k x0 x4 x5 x6 false)
def variorumref01_Num.j1 : Nat → List Int → Int → Int → Int → Bool → Option (Int × Int)
 | 0, _, _, _, _, _ => none
 | k + 1, x0, x4, x5, x6, x15 => if x15 = true then (if 0 ≤ x6 then (if x6 < (x0.length : Int) then (if (Int.tmod (wrap64 (rd x0 x6)) 128) > 0 then (if x5 = 0 then (none) else (variorumref01_Num.j2 k x0 x4 x5 x6 (Int.tmod (wrap64 (rd x0 x6)) 128) (decide ((Int.tmod (wrap64 (rd x0 x6)) 128) > (wrap64 (Int.tdiv (wrap64 (4611686018427387904 - x4)) x5)))))) else (variorumref01_Num.j2 k x0 x4 x5 x6 (Int.tmod (wrap64 (rd x0 x6)) 128) false)) else (none)) else (none)) else (some (0, 0))
def variorumref01_Num.j2 : Nat → List Int → Int → Int → Int → Int → Bool → Option (Int × Int)
 | 0, _, _, _, _, _, _ => none
 | k + 1, x0, x4, x5, x6, x7, x33 => if x33 = true then (some (0, 0)) else (if 0 ≤ x6 then (if x6 < (x0.length : Int) then (if (rd x0 x6) < 128 then (if x7 = 0 then (if x6 > 0 then (some (0, 0)) else (some (wrap64 (x4 + (wrap64 (x7 * x5))), wrap64 (x6 + 1)))) else (some (wrap64 (x4 + (wrap64 (x7 * x5))), wrap64 (x6 + 1)))) else (variorumref01_Num.l0 k x0 (wrap64 (x4 + (wrap64 (x7 * x5)))) (wrap64 (x5 * 128)) (wrap64 (x6 + 1)))) else (none)) else (none))
end
def variorumref01_Num.f (k : Nat) (l0 : List Int) : Option (Int × Int) := variorumref01_Num.l0 k l0 0 1 0
end Go.Proofs.Ytedfcjcnhgomoaa.P
end
-- MERGED YtedfcjcnhgomoaaPvariorumref01Signed
section
namespace Go.Proofs.Ytedfcjcnhgomoaa.P
open Go.RowKit Go.Proofs.YtedfcjcnhgomoaaW.PrintWords Go.Proofs.YtedfcjcnhgomoaaW.PrintLast Go.Proofs.YtedfcjcnhgomoaaW.PrintMore
attribute [local go_sem] max2_int min2_int max_two min_two max_three min_three max_four min_four   -- for this text's walks alone
set_option linter.unusedVariables false
set_option linter.unusedSimpArgs false
def variorumref01_Signed.f (k : Nat) (l0 : List Int) : Option (Int × Int) := (variorumref01_Num.f k l0).bind fun bt423 => (if (Int.tmod bt423.1 2) = 1 then (some (wrap64 (-(wrap64 (Int.tdiv (wrap64 (bt423.1 + 1)) 2))), bt423.2)) else (some (wrap64 (Int.tdiv bt423.1 2), bt423.2)))
end Go.Proofs.Ytedfcjcnhgomoaa.P
end
-- MERGED YtedfcjcnhgomoaaVaryRef
namespace Go.Proofs.Ytedfcjcnhgomoaa.VaryRef
end Go.Proofs.Ytedfcjcnhgomoaa.VaryRef
-- MERGED YtedfcjcnhgomoaaPvariorumref11Encode
section
namespace Go.Proofs.Ytedfcjcnhgomoaa.P
open Go.RowKit Go.Proofs.YtedfcjcnhgomoaaW.PrintWords Go.Proofs.YtedfcjcnhgomoaaW.PrintLast Go.Proofs.YtedfcjcnhgomoaaW.PrintMore
attribute [local go_sem] max2_int min2_int max_two min_two max_three min_three max_four min_four   -- for this text's walks alone
set_option linter.unusedVariables false
set_option linter.unusedSimpArgs false
mutual
def variorumref11_Encode.l0 : Nat → List Int → ByteArray → Int → Int → Int → Int → Int → Int → Int → List (S85) → ByteArray → List (S104) → Option (List Int × Int)
 | 0, _, _, _, _, _, _, _, _, _, _, _, _ => none
 | k + 1, x4, x5, x6, x311000, x311001, x311002, x311003, x311004, x311005, x311006, x311007, x311008 => if x6 < (x5.size : Int) then (if 0 ≤ x6 then (if (bt x5 x6) = 111 then ((variorumref01_Put.f k x4 (x311006.length : Int)).bind fun t316 => (variorumref11_Encode.l1 k t316 x5 x6 0 x311000 x311001 x311002 x311003 x311004 x311005 x311006 x311007 x311008)) else (if (bt x5 x6) = 116 then ((variorumref01_PutText.f k x4 x311007).bind fun t327 => (variorumref11_Encode.l0 k t327 x5 (wrap64 (x6 + 1)) x311000 x311001 x311002 x311003 x311004 x311005 x311006 x311007 x311008)) else (if (bt x5 x6) = 110 then ((variorumref01_Put.f k x4 (x311008.length : Int)).bind fun t330 => (variorumref11_Encode.l2 k t330 x5 x6 0 0 x311000 x311001 x311002 x311003 x311004 x311005 x311006 x311007 x311008)) else ((variorumref11_num.f x311000 x311001 x311002 x311003 x311004 x311005 x311006 x311007 x311008 (bt x5 x6)).bind fun bt344 => ((variorumref01_Put.f k x4 bt344.1).bind fun t346 => (variorumref11_Encode.l0 k t346 x5 (wrap64 (x6 + 1)) x311000 x311001 x311002 x311003 x311004 x311005 x311006 x311007 x311008)))))) else (none)) else (some (x4, 0))
def variorumref11_Encode.l1 : Nat → List Int → ByteArray → Int → Int → Int → Int → Int → Int → Int → Int → List (S85) → ByteArray → List (S104) → Option (List Int × Int)
 | 0, _, _, _, _, _, _, _, _, _, _, _, _, _ => none
 | k + 1, x4, x5, x6, x7, x311000, x311001, x311002, x311003, x311004, x311005, x311006, x311007, x311008 => if x7 < (x311006.length : Int) then (if 0 ≤ x7 then ((variorumref01_PutSigned.f k x4 (wrap64 (((rd_T85 x311006 x7).f0) - ((rd_T85 x311006 x7).f2)))).bind fun t321 => (if ((rd_T85 x311006 x7).f1).toList = ([] : List UInt8) then (variorumref11_Encode.l1 k t321 x5 x6 (wrap64 (x7 + 1)) x311000 x311001 x311002 x311003 x311004 x311005 x311006 x311007 x311008) else ((variorumref01_PutText.f k t321 ((rd_T85 x311006 x7).f1)).bind fun t324 => (variorumref11_Encode.l1 k t324 x5 x6 (wrap64 (x7 + 1)) x311000 x311001 x311002 x311003 x311004 x311005 x311006 x311007 x311008)))) else (none)) else (variorumref11_Encode.l0 k x4 x5 (wrap64 (x6 + 1)) x311000 x311001 x311002 x311003 x311004 x311005 x311006 x311007 x311008)
def variorumref11_Encode.l2 : Nat → List Int → ByteArray → Int → Int → Int → Int → Int → Int → Int → Int → Int → List (S85) → ByteArray → List (S104) → Option (List Int × Int)
 | 0, _, _, _, _, _, _, _, _, _, _, _, _, _, _ => none
 | k + 1, x4, x5, x6, x9, x10, x311000, x311001, x311002, x311003, x311004, x311005, x311006, x311007, x311008 => if x10 < (x311008.length : Int) then (if 0 ≤ x10 then ((variorumref01_Put.f k x4 (wrap64 (((rd_T104 x311008 x10).f0.f0) - x9))).bind fun t335 => ((variorumref01_Put.f k t335 (wrap64 (((rd_T104 x311008 x10).f0.f1) - ((rd_T104 x311008 x10).f0.f0)))).bind fun t338 => ((variorumref01_Put.f k t338 ((rd_T104 x311008 x10).f1)).bind fun t341 => (variorumref11_Encode.l2 k t341 x5 x6 ((rd_T104 x311008 x10).f0.f0) (wrap64 (x10 + 1)) x311000 x311001 x311002 x311003 x311004 x311005 x311006 x311007 x311008)))) else (none)) else (variorumref11_Encode.l0 k x4 x5 (wrap64 (x6 + 1)) x311000 x311001 x311002 x311003 x311004 x311005 x311006 x311007 x311008)
end
def variorumref11_Encode.f (k : Nat) (a0_0 : Int) (a0_1 : Int) (a0_2 : Int) (a0_3 : Int) (a0_4 : Int) (a0_5 : Int) (l0_6 : List (S85)) (a0_7 : ByteArray) (l0_8 : List (S104)) : Option (List Int × Int) := (variorumref11_Good.f k a0_0 a0_1 a0_2 a0_3 a0_4 a0_5 l0_6 a0_7 l0_8).bind fun t311 => (if t311 = true then ((variorumref01_Put.f k ([] : List Int) a0_0).bind fun t312 => ((variorumref11_Fields.f a0_0).bind fun t315 => (variorumref11_Encode.l0 k t312 t315 0 a0_0 a0_1 a0_2 a0_3 a0_4 a0_5 l0_6 a0_7 l0_8))) else (some (([] : List Int), 2)))
theorem variorumref11_Encode.mono_l : ∀ k, (∀ y0 y1 y2 y3 y4 y5 y6 y7 y8 y9 y10 y11, LeO (variorumref11_Encode.l0 k y0 y1 y2 y3 y4 y5 y6 y7 y8 y9 y10 y11) (variorumref11_Encode.l0 (k + 1) y0 y1 y2 y3 y4 y5 y6 y7 y8 y9 y10 y11)) ∧ (∀ y0 y1 y2 y3 y4 y5 y6 y7 y8 y9 y10 y11 y12, LeO (variorumref11_Encode.l1 k y0 y1 y2 y3 y4 y5 y6 y7 y8 y9 y10 y11 y12) (variorumref11_Encode.l1 (k + 1) y0 y1 y2 y3 y4 y5 y6 y7 y8 y9 y10 y11 y12)) ∧ (∀ y0 y1 y2 y3 y4 y5 y6 y7 y8 y9 y10 y11 y12 y13, LeO (variorumref11_Encode.l2 k y0 y1 y2 y3 y4 y5 y6 y7 y8 y9 y10 y11 y12 y13) (variorumref11_Encode.l2 (k + 1) y0 y1 y2 y3 y4 y5 y6 y7 y8 y9 y10 y11 y12 y13))
 | 0 => ⟨fun _ _ _ _ _ _ _ _ _ _ _ _ r h => by simp [variorumref11_Encode.l0] at h, fun _ _ _ _ _ _ _ _ _ _ _ _ _ r h => by simp [variorumref11_Encode.l1] at h, fun _ _ _ _ _ _ _ _ _ _ _ _ _ _ r h => by simp [variorumref11_Encode.l2] at h⟩
 | k + 1 => by
  obtain ⟨ih0, ih1, ih2⟩ := variorumref11_Encode.mono_l k
  refine ⟨?_, ?_, ?_⟩
  ·intro y0 y1 y2 y3 y4 y5 y6 y7 y8 y9 y10 y11
   unfold variorumref11_Encode.l0
   repeat' first | (with_reducible exact ih0 _ _ _ _ _ _ _ _ _ _ _ _) | (with_reducible exact ih1 _ _ _ _ _ _ _ _ _ _ _ _ _) | (with_reducible exact ih2 _ _ _ _ _ _ _ _ _ _ _ _ _ _) | (with_reducible exact variorumref01_Put.mono _ _ _) | (with_reducible exact variorumref01_PutText.mono _ _ _) | (with_reducible exact LeO.refl _) | (with_reducible refine LeO.ite ?_ ?_) | (with_reducible refine LeO.bind ?_ (fun _ => ?_))
  ·intro y0 y1 y2 y3 y4 y5 y6 y7 y8 y9 y10 y11 y12
   unfold variorumref11_Encode.l1
   repeat' first | (with_reducible exact ih0 _ _ _ _ _ _ _ _ _ _ _ _) | (with_reducible exact ih1 _ _ _ _ _ _ _ _ _ _ _ _ _) | (with_reducible exact variorumref01_PutSigned.mono _ _ _) | (with_reducible exact variorumref01_PutText.mono _ _ _) | (with_reducible exact LeO.refl _) | (with_reducible refine LeO.ite ?_ ?_) | (with_reducible refine LeO.bind ?_ (fun _ => ?_))
  ·intro y0 y1 y2 y3 y4 y5 y6 y7 y8 y9 y10 y11 y12 y13
   unfold variorumref11_Encode.l2
   repeat' first | (with_reducible exact ih0 _ _ _ _ _ _ _ _ _ _ _ _) | (with_reducible exact ih2 _ _ _ _ _ _ _ _ _ _ _ _ _ _) | (with_reducible exact variorumref01_Put.mono _ _ _) | (with_reducible exact LeO.refl _) | (with_reducible refine LeO.ite ?_ ?_) | (with_reducible refine LeO.bind ?_ (fun _ => ?_))
end Go.Proofs.Ytedfcjcnhgomoaa.P
end
-- MERGED YtedfcjcnhgomoaaMsgQ
section
namespace Go.Proofs.Ytedfcjcnhgomoaa.MsgQ
open Go.RowKit Go.Proofs.Ytedfcjcnhgomoaa.EditK Go.Proofs.Ytedfcjcnhgomoaa.P Go.Proofs.YtedfcjcnhgomoaaW.PrintWords Go.Proofs.YtedfcjcnhgomoaaW.PrintLast Go.Proofs.YtedfcjcnhgomoaaW.PrintMore Go.Proofs.Ytedfcjcnhgomoaa.Own Go.Proofs.Ytedfcjcnhgomoaa.Vy Go.Proofs.Ytedfcjcnhgomoaa.NoteN Go.Proofs.Ytedfcjcnhgomoaa.MsgA Go.Proofs.Ytedfcjcnhgomoaa.MsgD Go.Proofs.Ytedfcjcnhgomoaa.MsgW Go.Proofs.Ytedfcjcnhgomoaa.MsgE Go.Proofs.Ytedfcjcnhgomoaa.MsgR
set_option linter.unusedSimpArgs false
set_option linter.unusedVariables false
abbrev E0 (m : Ms) (k : Nat) (b : List Int) (F : ByteArray) (i : Int) : Option (List Int × Int) := variorumref11_Encode.l0 k b F i m.k m.c m.e m.r m.s m.d m.o m.t m.n
theorem up (m : Ms) {k k' : Nat} (hk : k ≤ k') {b : List Int} {F : ByteArray} {i : Int} {r : List Int × Int} (h : E0 m k b F i = some r) : E0 m k' b F i = some r :=
 at_rounds (g := fun k => E0 m k b F i) (fun k => (variorumref11_Encode.mono_l k).1 _ _ _ _ _ _ _ _ _ _ _ _) hk h
end Go.Proofs.Ytedfcjcnhgomoaa.MsgQ
end
-- MERGED YtedfcjcnhgomoaaMsgLives
section
namespace Go.Proofs.Ytedfcjcnhgomoaa.MsgLives
open Go.RowKit Go.Proofs.Ytedfcjcnhgomoaa.P Go.Proofs.YtedfcjcnhgomoaaW.PrintWords Go.Proofs.YtedfcjcnhgomoaaW.PrintLast Go.Proofs.YtedfcjcnhgomoaaW.PrintMore Go.Proofs.Ytedfcjcnhgomoaa.Own Go.Proofs.Ytedfcjcnhgomoaa.Vy Go.Proofs.Ytedfcjcnhgomoaa.NoteN Go.Proofs.Ytedfcjcnhgomoaa.MsgA Go.Proofs.Ytedfcjcnhgomoaa.MsgD Go.Proofs.Ytedfcjcnhgomoaa.MsgW Go.Proofs.Ytedfcjcnhgomoaa.MsgE Go.Proofs.Ytedfcjcnhgomoaa.MsgR
set_option linter.unusedSimpArgs false
set_option linter.unusedVariables false
def m1 : Ms := ⟨3, 0, 0, 5, 2, 0, [], ⟨#[]⟩, []⟩
def o2 : List EditL.Rn := [⟨2, ⟨#[]⟩, 0⟩, ⟨0, ⟨#[120]⟩, 0⟩]
def m2 : Ms := ⟨2, 1, 0, 0, 1, 0, o2, ⟨#[]⟩, []⟩
theorem good_1 : m1.good = true := by rw [good_ref]; kernel_rfl
theorem good_2 : m2.good = true := by rw [good_ref]; kernel_rfl
theorem put_s (l : List Int) (n : Nat) (h : n < 128) : putL l (n : Int) = l ++ [(n : Int)] := by
 have hM : M = 4611686018427387904 := rfl
 rw [putL_good (by omega), enc_lt h]
theorem enc_1 : m1.encL = [3, 5, 2] := by
 show putL (putL (putL [] ((3 : Nat) : Int)) ((5 : Nat) : Int)) ((2 : Nat) : Int) = _
 rw [put_s _ 3 (by decide), put_s _ 5 (by decide), put_s _ 2 (by decide)]; rfl
theorem enc_2 : m2.encL = [2, 1, 0, 1, 2, 4, 0, 1, 120] := by
 show opR o2 (putL (putL (putL (putL (putL [] ((2 : Nat) : Int)) ((1 : Nat) : Int)) ((0 : Nat) : Int)) ((1 : Nat) : Int)) ((2 : Nat) : Int)) = _
 rw [put_s _ 2 (by decide), put_s _ 1 (by decide), put_s _ 0 (by decide), put_s _ 1 (by decide), put_s _ 2 (by decide)]
 have s1 : ∀ X, opStep X ⟨2, ⟨#[]⟩, 0⟩ = putL X ((4 : Nat) : Int) := fun X => by
  unfold opStep
  rw [if_pos (by rfl), EditK.w64 (x := (2 : Int) - 0) (by decide) (by decide)]
  unfold putSL
  rw [if_neg (by decide)]; rfl
 have s2 : ∀ X, opStep X ⟨0, ⟨#[120]⟩, 0⟩ = putL (putL X ((0 : Nat) : Int)) ((1 : Nat) : Int) ++ numsOf ⟨#[120]⟩ := fun X => by
  unfold opStep
  rw [if_neg (by decide), EditK.w64 (x := (0 : Int) - 0) (by decide) (by decide)]
  unfold putSL
  rw [if_neg (by decide)]; rfl
 show opStep (opStep _ ⟨2, ⟨#[]⟩, 0⟩) ⟨0, ⟨#[120]⟩, 0⟩ = _
 rw [s1, s2, put_s _ 4 (by decide), put_s _ 0 (by decide), put_s _ 1 (by decide)]; rfl
theorem small_1 : Small m1 := ⟨by decide, by decide, by decide, by decide⟩
theorem small_2 : Small m2 := ⟨by decide, by decide, by decide, by decide⟩
theorem addr0 (b i : Nat) : ((⟨b, 0, none⟩ : Addr).add i) = ⟨b, i, none⟩ := by simp [Addr.add]; exact fun h => h.symm
theorem lit_r2 (w : World) (x y : EditL.Rn) : Kd.C k85 (w.alloc (.cells #[.int .i64 x.f0, .string x.f1, .int .i64 x.f2, .int .i64 y.f0, .string y.f1, .int .i64 y.f2] 85)) (some ⟨w.heap.size, 0, none⟩) ([x, y] : List EditL.Rn).length [x, y] := by
 refine ⟨rfl, by simp, fun _ => ⟨_, rfl, fun j p hj => ?_⟩⟩
 rcases j with _ | _ | j
 ·obtain rfl : x = p := by simpa using hj
  refine ⟨_, rfl, k85_mk _ x, fun i u hu => ?_⟩
  rw [show (0 * k85.sz + i) = i by omega, addr0, cell_of_row _ _ i _ _ _ (Own.heap_new w _)]
  rcases i with _ | _ | _ | i
  ·simpa using hu
  ·simpa using hu
  ·simpa using hu
  ·simp at hu
 ·obtain rfl : y = p := by simpa using hj
  refine ⟨_, rfl, k85_mk _ y, fun i u hu => ?_⟩
  rw [show ((0 + 1) * k85.sz + i) = 3 + i by show (0 + 1) * 3 + i = _; omega, addr0, cell_of_row _ _ (3 + i) _ _ _ (Own.heap_new w _)]
  rcases i with _ | _ | _ | i
  ·simpa using hu
  ·simpa using hu
  ·simpa using hu
  ·simp at hu
 ·simp at hj
set_option maxHeartbeats 8000000 in
set_option maxRecDepth 100000 in
theorem lives_c (w : World) : Calls Try.prog 20 #[] w fun e w' => e = .returned (.bool true) ∧ Below w.heap.size w w' := by
 have HE1 := Aside0.mk (encode_c m1 none 0 none 0 w ⟨Kd.C_nil _ _, Nat.le_refl _, Kd.C_nil _ _, Nat.le_refl _⟩ small_1)
 unfold EncPost at HE1
 rw [good_1, enc_1] at HE1
 go_enter Try.func20, Try.ntmps20
 go_wp2_with fail
 refine HE1.out.mono ?_
 rintro e w1 ⟨v1, rfl, hs1, hb1⟩
 simp only [if_true] at hs1
 obtain ⟨A1, c1, rfl, hc1, hC1⟩ := hs1
 have hs1 : Sl w1 (.slice A1 ([3, 5, 2] : List Int).length c1) [3, 5, 2] := ⟨A1, c1, rfl, hc1, hC1⟩
 have HS1 := Aside0.mk hs1
 have HB1 := Aside0.mk hb1
 have HB2 := Aside0.mk (below_alloc (Below.refl w1.heap.size w1) (.cells #[.int .i64 2, .string ⟨#[]⟩, .int .i64 0, .int .i64 0, .string ⟨#[120]⟩, .int .i64 0] 85))
 have HE2 := Aside0.mk (encode_c m2 (some ⟨w1.heap.size, 0, none⟩) 2 none 0 _ ⟨lit_r2 w1 ⟨2, ⟨#[]⟩, 0⟩ ⟨0, ⟨#[120]⟩, 0⟩, by decide, Kd.C_nil _ _, Nat.le_refl _⟩ small_2)
 unfold EncPost at HE2
 rw [good_2, enc_2] at HE2
 clear hs1 hb1 hC1 hc1 HE1
 go_wp2_with fail
 refine HE2.out.mono ?_
 rintro e w2 ⟨v2, rfl, hs2, hb2⟩
 simp only [if_true] at hs2
 obtain ⟨A2, c2, rfl, hc2, hC2⟩ := hs2
 have hs2 : Sl w2 (.slice A2 ([2, 1, 0, 1, 2, 4, 0, 1, 120] : List Int).length c2) [2, 1, 0, 1, 2, 4, 0, 1, 120] := ⟨A2, c2, rfl, hc2, hC2⟩
 have HX2 := Aside0.mk (HB2.out.trans (hb2.mono HB2.out.size))
 have HBF := Aside0.mk (below_step HB1.out HX2.out)
 have l3 : Sl (w2.alloc (.cells #[.int .u8 3, .int .u8 5, .int .u8 2] 5)) (.slice (some ⟨w2.heap.size, 0, none⟩) ([3, 5, 2] : List Int).length ([3, 5, 2] : List Int).length) [3, 5, 2] := Sl.lit rfl (by decide)
 obtain ⟨w3, hw3⟩ : ∃ w3, w3 = w2.alloc (.cells #[.int .u8 3, .int .u8 5, .int .u8 2] 5) := ⟨_, rfl⟩
 rw [← hw3] at l3
 have l9 : Sl (w3.alloc (.cells #[.int .u8 2, .int .u8 1, .int .u8 0, .int .u8 1, .int .u8 2, .int .u8 4, .int .u8 0, .int .u8 1, .int .u8 120] 5)) (.slice (some ⟨w3.heap.size, 0, none⟩) ([2, 1, 0, 1, 2, 4, 0, 1, 120] : List Int).length ([2, 1, 0, 1, 2, 4, 0, 1, 120] : List Int).length) [2, 1, 0, 1, 2, 4, 0, 1, 120] := Sl.lit rfl (by decide)
 have q1 : (convert 25 9 (.slice A1 3 c1)).run Try.prog w2 = .ok (.string (strOfNums [3, 5, 2])) w2 := Sl.string (P := Try.prog) Try.underlying25 Try.underlying5 Try.underlying9 (HS1.out.below HX2.out)
 have q2 : (convert 25 9 (.slice (some ⟨w2.heap.size, 0, none⟩) 3 3)).run Try.prog w3 = .ok (.string (strOfNums [3, 5, 2])) w3 := Sl.string (P := Try.prog) Try.underlying25 Try.underlying5 Try.underlying9 l3
 have q3 : (convert 25 9 (.slice A2 9 c2)).run Try.prog w3 = .ok (.string (strOfNums [2, 1, 0, 1, 2, 4, 0, 1, 120])) w3 := Sl.string (P := Try.prog) Try.underlying25 Try.underlying5 Try.underlying9 (hs2.below (show Below w2.heap.size w2 w3 by rw [hw3]; exact below_alloc (Below.refl _ _) _))
 have q4 : (convert 25 9 (.slice (some ⟨w3.heap.size, 0, none⟩) 9 9)).run Try.prog (w3.alloc (.cells #[.int .u8 2, .int .u8 1, .int .u8 0, .int .u8 1, .int .u8 2, .int .u8 4, .int .u8 0, .int .u8 1, .int .u8 120] 5)) = .ok (.string (strOfNums [2, 1, 0, 1, 2, 4, 0, 1, 120])) (w3.alloc (.cells #[.int .u8 2, .int .u8 1, .int .u8 0, .int .u8 1, .int .u8 2, .int .u8 4, .int .u8 0, .int .u8 1, .int .u8 120] 5)) := Sl.string (P := Try.prog) Try.underlying25 Try.underlying5 Try.underlying9 l9
 have HW3 := Aside0.mk hw3
 have HB5 := Aside0.mk (below_alloc (show Below w.heap.size w w3 by rw [hw3]; exact below_alloc HBF.out _) (.cells #[.int .u8 2, .int .u8 1, .int .u8 0, .int .u8 1, .int .u8 2, .int .u8 4, .int .u8 0, .int .u8 1, .int .u8 120] 5))
 clear hw3 hs2 hb2 hC2 hc2 HE2 l3 l9
 go_wp2_with (first | rw [← HW3.out])
 go_ret
 exact ⟨rfl, HB5.out⟩
end Go.Proofs.Ytedfcjcnhgomoaa.MsgLives
end
-- MERGED YtedfcjcnhgomoaaPPart3
section
namespace Go.Proofs.Ytedfcjcnhgomoaa.P
open Go.RowKit Go.Proofs.YtedfcjcnhgomoaaW.PrintWords Go.Proofs.YtedfcjcnhgomoaaW.PrintLast Go.Proofs.YtedfcjcnhgomoaaW.PrintMore
attribute [local go_sem] max2_int min2_int max_two min_two max_three min_three max_four min_four   -- for this text's walks alone
set_option linter.unusedVariables false
set_option linter.unusedSimpArgs false
theorem eqA102 (d : Nat) (w : World) (x0 y0 : Int) (x1 y1 : Int) :
  (Op.equalIn (d + 2) 102 (.agg #[.int .i64 x0, .int .i64 x1]) (.agg #[.int .i64 y0, .int .i64 y1])).run Try.prog w = .ok (x0 == y0 && (x1 == y1)) w := by
 refine eqA_of Try.underlying102 (by kernel_rfl) ?_
 refine eqf_cons (by rfl) (by go_simp; rfl) (by go_simp; rfl) (by go_simp) ?_
 exact eqf_last (by rfl) (by go_simp; rfl) (by go_simp; rfl) (by go_simp)
theorem eqA104 (d : Nat) (w : World) (x0 y0 : Int) (x1 y1 : Int) (x2 y2 : Int) :
  (Op.equalIn (d + 3) 104 (.agg #[.int .i64 x0, .int .i64 x1, .int .i64 x2]) (.agg #[.int .i64 y0, .int .i64 y1, .int .i64 y2])).run Try.prog w = .ok ((x0 == y0 && (x1 == y1)) && (x2 == y2)) w := by
 refine eqA_of Try.underlying104 (by kernel_rfl) ?_
 refine eqf_cons (by rfl) (by go_simp) (by go_simp) (eqA102 (d + 0) w _ _ _ _) ?_
 exact eqf_last (by rfl) (by go_simp; rfl) (by go_simp; rfl) (by go_simp)
end Go.Proofs.Ytedfcjcnhgomoaa.P
end

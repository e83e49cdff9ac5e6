-- Written by wip/myprint.py of this session, over the kit's print.py: a Lean function for each Go function, and the proof that the code comes to it.
import Derived.Test.YtgefpgbofhcmdaaPBase
import Derived.Test.YtgefpgbofhcmdaaVaryLives
import Derived.Test.YtgefpgbofhcmdaaVaryRef
namespace Go.Proofs.Ytgefpgbofhcmdaa.P
open Go.RowKit Go.Proofs.YtgefpgbofhcmdaaW.PrintWords Go.Proofs.YtgefpgbofhcmdaaW.PrintLast Go.Proofs.YtgefpgbofhcmdaaW.PrintMore
attribute [local go_sem] max2_int min2_int max_two min_two max_three min_three max_four min_four   -- for this text's walks alone
set_option linter.unusedVariables false
set_option linter.unusedSimpArgs false

/-! ### variorumlaw01_VaryReads: function 11 -/
-- NEEDS Derived.Test.YtgefpgbofhcmdaaVaryLives
-- NEEDS Derived.Test.YtgefpgbofhcmdaaVaryRef
set_option maxHeartbeats 8000000 in
set_option maxRecDepth 100000 in
theorem variorumlaw01_VaryReads.good (A0 : Option Addr) (c0 : Nat) (l0 : List Int) (A1 : Option Addr) (c1 : Nat) (l1 : List Int) (w : World) (h0 : Own.Sl w (.slice A0 l0.length c0) l0) (h1 : Own.Sl w (.slice A1 l1.length c1) l1) (hok0 : Byt.Ok l0) (hok1 : Byt.Ok l1) (hlen0 : l0.length ≤ 4000) (hlen1 : l1.length ≤ 200) :
    Calls Try.prog 11 #[.slice A0 l0.length c0, .slice A1 l1.length c1] w fun e w' => e = .returned (.bool true) ∧ Below w.heap.size w w' := by
  have H0 := Aside0.mk h0
  have H1 := Aside0.mk h1
  have HO0 := Aside0.mk hok0
  have HO1 := Aside0.mk hok1
  have HL0 := Aside0.mk hlen0
  have g1 : decide ((4000 : Int) < (l0.length : Int)) = false := by simp; omega
  have g2 : decide ((200 : Int) < (l1.length : Int)) = false := by simp; omega
  have g3 : (l0.length : Int) ≤ 4000 := by omega
  have g4 : (l1.length : Int) ≤ 200 := by omega
  clear h0 h1 hok0 hok1 hlen0 hlen1
  go_enter Try.func11, Try.ntmps11
  go_wp2_with fail
  refine (VaryR.nRead _ _ l0 H0.out (by have := HL0.out; omega)).mono ?_
  rintro e w1 ⟨rfl, r1, b1, s1⟩
  have R1 := Aside0.mk r1
  have HB1 := Aside0.mk b1
  have HK1 := Aside0.mk (H1.out.below b1)
  obtain ⟨g, hg⟩ : ∃ g, g = w.heap.size := ⟨_, rfl⟩
  have HG := Aside0.mk (show w.heap.size ≤ g by omega)
  rw [← hg] at R1 ⊢
  clear r1 b1 s1 H0 H1 hg
  go_wp2_with fail
  go_loopw [6, 7, 31] (fun av bv iv wr => ∃ (a : Nat) (bd : Bool) (j : Nat), av = .int .i64 (a : Int) ∧ bv = .bool bd ∧ iv = .int .i64 (j : Int) ∧ a ≤ l0.length ∧ j ≤ l1.length ∧ VaryR.Rd g wr (.slice A0 l0.length c0) l0 a bd ∧ Own.Sl wr (.slice A1 l1.length c1) l1 ∧ Own.Sl wr (.slice A0 l0.length c0) l0 ∧ Below w.heap.size w wr) (fun _ _ iv _ => l1.length - (intOf iv).toNat)
  case atStart => exact ⟨0, false, 0, rfl, rfl, rfl, Nat.zero_le _, Nat.zero_le _, R1.out, HK1.out, by obtain ⟨_, h, _⟩ := R1.out; exact h.sl, HB1.out⟩
  case round =>
    clear R1 HB1 HK1
    obtain ⟨a, bd, j, rfl, rfl, rfl, ha, hj, hr, hk, hl, hb⟩ := hrel
    have HR := Aside0.mk hr
    have HK := Aside0.mk hk
    have HLL := Aside0.mk hl
    have HB := Aside0.mk hb
    clear hr hk hl hb
    have ha2 : (a : Int) ≤ (l0.length : Int) := by omega
    by_cases hlt : j < l1.length
    · obtain ⟨x, hx⟩ : ∃ x, l1[j]? = some x := ⟨_, List.getElem?_eq_getElem hlt⟩
      obtain ⟨hx0, hx1⟩ := HO1.out x (List.mem_of_getElem? hx)
      have hkk := HK.out
      obtain ⟨_, _, hC1⟩ := hkk.toC
      obtain ⟨ad, hA, _⟩ := hC1.2.2 (by omega)
      subst hA
      have hcell : wr.cell? (ad.add j) = some (.int .u8 x) := Own.C_cells hC1 ad rfl j _ (by simp [nums, hx])
      obtain ⟨u, hcut, hu⟩ := VaryR.slice_from (P := Try.prog) 22 5 Try.underlying22 info5 HLL.out (a : Int) (by omega) (by omega)
      rw [Int.toNat_natCast] at hu
      have HU := Aside0.mk hu
      have HD := Aside0.mk (Byt.ok_drop HO0.out a)
      have HDL := Aside0.mk (show (l0.drop a).length ≤ 140737488354000 by rw [List.length_drop]; have := HL0.out; omega)
      clear hx hkk hC1 hu
      by_cases hm : x % 3 = 0
      · obtain ⟨y, hy⟩ : ∃ y, y = (Vy.numL (l0.drop a)).1 := ⟨_, rfl⟩
        have HY := Aside0.mk hy
        obtain ⟨k, hkk⟩ : ∃ k, k = (Vy.numL (l0.drop a)).2 := ⟨_, rfl⟩
        clear hy
        cases bd with
        | true =>
          have HKK := Aside0.mk hkk
          clear hkk
          go_wp2_with fail
          refine (VaryRef.nNum u (l0.drop a) _ HU.out HD.out).mono ?_
          rintro e w2 ⟨rfl, n2, rfl⟩
          have HR2 := Aside0.mk (HR.out.below (pw_below_drewN (Below.refl _ _) n2))
          have HK2 := Aside0.mk (HK.out.drewN n2)
          have HL2 := Aside0.mk (HLL.out.drewN n2)
          have HB2 := Aside0.mk (pw_below_drewN HB.out n2)
          clear HR HK HLL HB HU hcell
          obtain ⟨w3, hw3⟩ : ∃ w3, w3 = wr.drewN n2 := ⟨_, rfl⟩
          rw [← hw3] at HR2 HK2 HL2 HB2 ⊢
          clear hw3
          rw [← HY.out, ← HKK.out]
          go_wp2_with fail
          refine (VaryR.nNum_bad g _ _ l0 a HR2.out HO0.out).mono ?_
          rintro e w4 ⟨rfl, r4, b4⟩
          have HR4 := Aside0.mk r4
          have HK4 := Aside0.mk (VaryR.Sl.but HK2.out b4 HR2.out.noByte)
          have HL4 := Aside0.mk (VaryR.Sl.but HL2.out b4 HR2.out.noByte)
          have HB4 := Aside0.mk (VaryR.But.step b4 HB2.out HG.out (Nat.le_refl _))
          clear r4 b4 HR2 HK2 HL2 HB2
          go_wp2_with fail
          refine (VaryR.nBad g _ _ l0 a true HR4.out).mono ?_
          rintro e w5 ⟨rfl, rfl⟩
          go_wp2_with fail
          refine (VaryR.nLeft g _ _ l0 a true HR4.out).mono ?_
          rintro e w5 ⟨rfl, n5, rfl⟩
          rw [show VaryR.leftL l0 a true = 0 from rfl]
          have HR5 := Aside0.mk (HR4.out.below (pw_below_drewN (Below.refl _ _) n5))
          have HK5 := Aside0.mk (HK4.out.drewN n5)
          have HL5 := Aside0.mk (HL4.out.drewN n5)
          have HB5 := Aside0.mk (pw_below_drewN HB4.out n5)
          clear HR4 HK4 HL4 HB4
          obtain ⟨w7, hw7⟩ : ∃ w7, w7 = w5.drewN n5 := ⟨_, rfl⟩
          rw [← hw7] at HR5 HK5 HL5 HB5 ⊢
          clear hw7
          go_wp2_with fail
          refine (VaryR.nDone g _ _ l0 a true HR5.out).mono ?_
          rintro e w6 ⟨rfl, n6, rfl⟩
          go_wp2_with fail
          go_roundw
          case rel => exact ⟨a, true, j + 1, rfl, rfl, by go_num, by omega, by omega, HR5.out.below (pw_below_drewN (Below.refl _ _) n6), HK5.out.drewN n6, HL5.out.drewN n6, pw_below_drewN HB5.out n6⟩
          case measure => simp [intOf]; omega
        | false =>
          by_cases hk0 : k = 0
          · have HKK := Aside0.mk (hkk.symm.trans hk0)
            clear hkk hk0 k
            go_wp2_with fail
            refine (VaryRef.nNum u (l0.drop a) _ HU.out HD.out).mono ?_
            rintro e w2 ⟨rfl, n2, rfl⟩
            have HR2 := Aside0.mk (HR.out.below (pw_below_drewN (Below.refl _ _) n2))
            have HK2 := Aside0.mk (HK.out.drewN n2)
            have HL2 := Aside0.mk (HLL.out.drewN n2)
            have HB2 := Aside0.mk (pw_below_drewN HB.out n2)
            clear HR HK HLL HB HU hcell
            obtain ⟨w3, hw3⟩ : ∃ w3, w3 = wr.drewN n2 := ⟨_, rfl⟩
            rw [← hw3] at HR2 HK2 HL2 HB2 ⊢
            clear hw3
            rw [← HY.out, HKK.out]
            go_wp2_with fail
            refine (VaryR.nNum_no g _ _ l0 a HR2.out HO0.out HKK.out).mono ?_
            rintro e w4 ⟨rfl, r4, b4⟩
            have HR4 := Aside0.mk r4
            have HK4 := Aside0.mk (VaryR.Sl.but HK2.out b4 HR2.out.noByte)
            have HL4 := Aside0.mk (VaryR.Sl.but HL2.out b4 HR2.out.noByte)
            have HB4 := Aside0.mk (VaryR.But.step b4 HB2.out HG.out (Nat.le_refl _))
            clear r4 b4 HR2 HK2 HL2 HB2
            go_wp2_with fail
            refine (VaryR.nBad g _ _ l0 a true HR4.out).mono ?_
            rintro e w5 ⟨rfl, rfl⟩
            go_wp2_with fail
            refine (VaryR.nLeft g _ _ l0 a true HR4.out).mono ?_
            rintro e w5 ⟨rfl, n5, rfl⟩
            rw [show VaryR.leftL l0 a true = 0 from rfl]
            have HR5 := Aside0.mk (HR4.out.below (pw_below_drewN (Below.refl _ _) n5))
            have HK5 := Aside0.mk (HK4.out.drewN n5)
            have HL5 := Aside0.mk (HL4.out.drewN n5)
            have HB5 := Aside0.mk (pw_below_drewN HB4.out n5)
            clear HR4 HK4 HL4 HB4
            obtain ⟨w7, hw7⟩ : ∃ w7, w7 = w5.drewN n5 := ⟨_, rfl⟩
            rw [← hw7] at HR5 HK5 HL5 HB5 ⊢
            clear hw7
            go_wp2_with fail
            refine (VaryR.nDone g _ _ l0 a true HR5.out).mono ?_
            rintro e w6 ⟨rfl, n6, rfl⟩
            go_wp2_with fail
            go_roundw
            case rel => exact ⟨a, true, j + 1, rfl, rfl, by go_num, by omega, by omega, HR5.out.below (pw_below_drewN (Below.refl _ _) n6), HK5.out.drewN n6, HL5.out.drewN n6, pw_below_drewN HB5.out n6⟩
            case measure => simp [intOf]; omega
          · have hk1 : ((k : Int) == 0) = false := by simp; omega
            have HK0 := Aside0.mk hk0
            have HKK := Aside0.mk hkk
            have HX := Aside0.mk (show Vy.numL (l0.drop a) = (y, k) from Prod.ext HY.out.symm hkk.symm)
            have hkl : k ≤ l0.length - a := by
              rw [hkk, ← List.length_drop]
              exact Vy.numL_le HD.out
            have hka : (a : Int) + (k : Int) ≤ (l0.length : Int) := by omega
            obtain ⟨a2, ha2'⟩ : ∃ a2, a2 = a + k := ⟨_, rfl⟩
            have HA2 := Aside0.mk ha2'.symm
            have HS := Aside0.mk (show (a : Int) + (k : Int) = (a2 : Int) by omega)
            have ha3 : (a2 : Int) ≤ (l0.length : Int) := by omega
            obtain ⟨q, hq⟩ : ∃ q, l0.length - a2 = q := ⟨_, rfl⟩
            have HQ := Aside0.mk (show (l0.length : Int) - (a2 : Int) = (q : Int) by omega)
            have HQL := Aside0.mk hq
            clear hk0 hkk hkl ha2' hq
            go_wp2_with fail
            refine (VaryRef.nNum u (l0.drop a) _ HU.out HD.out).mono ?_
            rintro e w2 ⟨rfl, n2, rfl⟩
            have HR2 := Aside0.mk (HR.out.below (pw_below_drewN (Below.refl _ _) n2))
            have HK2 := Aside0.mk (HK.out.drewN n2)
            have HL2 := Aside0.mk (HLL.out.drewN n2)
            have HB2 := Aside0.mk (pw_below_drewN HB.out n2)
            clear HR HK HLL HB HU hcell
            obtain ⟨w3, hw3⟩ : ∃ w3, w3 = wr.drewN n2 := ⟨_, rfl⟩
            rw [← hw3] at HR2 HK2 HL2 HB2 ⊢
            clear hw3
            rw [← HY.out, ← HKK.out]
            go_wp2_with fail
            rw [HS.out]
            refine (VaryR.nNum_ok g _ _ l0 a _ k HR2.out HO0.out HX.out HK0.out).mono ?_
            rintro e w4 ⟨rfl, r4, b4⟩
            have HR4 := Aside0.mk (HA2.out ▸ r4)
            have HK4 := Aside0.mk (VaryR.Sl.but HK2.out b4 HR2.out.noByte)
            have HL4 := Aside0.mk (VaryR.Sl.but HL2.out b4 HR2.out.noByte)
            have HB4 := Aside0.mk (VaryR.But.step b4 HB2.out HG.out (Nat.le_refl _))
            clear r4 b4 HR2 HK2 HL2 HB2
            by_cases hq0 : q = 0
            · subst hq0
              go_wp2_with fail
              rw [HQ.out]
              refine (VaryR.nBad g _ _ l0 a2 false HR4.out).mono ?_
              rintro e w5 ⟨rfl, rfl⟩
              go_wp2_with fail
              refine (VaryR.nLeft g _ _ l0 a2 false HR4.out).mono ?_
              rintro e w5 ⟨rfl, n5, rfl⟩
              rw [show VaryR.leftL l0 a2 false = 0 from HQL.out]
              have HR5 := Aside0.mk (HR4.out.below (pw_below_drewN (Below.refl _ _) n5))
              have HK5 := Aside0.mk (HK4.out.drewN n5)
              have HL5 := Aside0.mk (HL4.out.drewN n5)
              have HB5 := Aside0.mk (pw_below_drewN HB4.out n5)
              clear HR4 HK4 HL4 HB4
              obtain ⟨w7, hw7⟩ : ∃ w7, w7 = w5.drewN n5 := ⟨_, rfl⟩
              rw [← hw7] at HR5 HK5 HL5 HB5 ⊢
              clear hw7
              go_wp2_with fail
              refine (VaryR.nDone g _ _ l0 a2 false HR5.out).mono ?_
              rintro e w6 ⟨rfl, n6, rfl⟩
              rw [show l0.length - a2 = 0 from HQL.out]
              go_wp2_with fail
              go_roundw
              case rel => exact ⟨a2, false, j + 1, rfl, rfl, by go_num, by omega, by omega, HR5.out.below (pw_below_drewN (Below.refl _ _) n6), HK5.out.drewN n6, HL5.out.drewN n6, pw_below_drewN HB5.out n6⟩
              case measure => simp [intOf]; omega
            · have hq1 : ((q : Int) == 0) = false := by simp; omega
              have HDN := Aside0.mk (show decide (l0.length - a2 = 0) = false by rw [decide_eq_false_iff_not, show l0.length - a2 = q from HQL.out]; exact hq0)
              clear hq0
              go_wp2_with fail
              rw [HQ.out]
              refine (VaryR.nBad g _ _ l0 a2 false HR4.out).mono ?_
              rintro e w5 ⟨rfl, rfl⟩
              go_wp2_with fail
              refine (VaryR.nLeft g _ _ l0 a2 false HR4.out).mono ?_
              rintro e w5 ⟨rfl, n5, rfl⟩
              rw [show VaryR.leftL l0 a2 false = q from HQL.out]
              have HR5 := Aside0.mk (HR4.out.below (pw_below_drewN (Below.refl _ _) n5))
              have HK5 := Aside0.mk (HK4.out.drewN n5)
              have HL5 := Aside0.mk (HL4.out.drewN n5)
              have HB5 := Aside0.mk (pw_below_drewN HB4.out n5)
              clear HR4 HK4 HL4 HB4
              obtain ⟨w7, hw7⟩ : ∃ w7, w7 = w5.drewN n5 := ⟨_, rfl⟩
              rw [← hw7] at HR5 HK5 HL5 HB5 ⊢
              clear hw7
              go_wp2_with fail
              refine (VaryR.nDone g _ _ l0 a2 false HR5.out).mono ?_
              rintro e w6 ⟨rfl, n6, rfl⟩
              rw [HDN.out]
              go_wp2_with fail
              go_roundw
              case rel => exact ⟨a2, false, j + 1, rfl, rfl, by go_num, by omega, by omega, HR5.out.below (pw_below_drewN (Below.refl _ _) n6), HK5.out.drewN n6, HL5.out.drewN n6, pw_below_drewN HB5.out n6⟩
              case measure => simp [intOf]; omega
      · by_cases hm' : x % 3 = 1
        · obtain ⟨y, hy⟩ : ∃ y, y = (Vy.sgnL (l0.drop a)).1 := ⟨_, rfl⟩
          have HY := Aside0.mk hy
          obtain ⟨k, hkk⟩ : ∃ k, k = (Vy.sgnL (l0.drop a)).2 := ⟨_, rfl⟩
          clear hy
          cases bd with
          | true =>
            have HKK := Aside0.mk hkk
            clear hkk
            go_wp2_with fail
            refine (VaryRef.nSigned u (l0.drop a) _ HU.out HD.out).mono ?_
            rintro e w2 ⟨rfl, n2, rfl⟩
            have HR2 := Aside0.mk (HR.out.below (pw_below_drewN (Below.refl _ _) n2))
            have HK2 := Aside0.mk (HK.out.drewN n2)
            have HL2 := Aside0.mk (HLL.out.drewN n2)
            have HB2 := Aside0.mk (pw_below_drewN HB.out n2)
            clear HR HK HLL HB HU hcell
            obtain ⟨w3, hw3⟩ : ∃ w3, w3 = wr.drewN n2 := ⟨_, rfl⟩
            rw [← hw3] at HR2 HK2 HL2 HB2 ⊢
            clear hw3
            rw [← HY.out, ← HKK.out]
            go_wp2_with fail
            refine (VaryR.nSigned_bad g _ _ l0 a HR2.out HO0.out).mono ?_
            rintro e w4 ⟨rfl, r4, b4⟩
            have HR4 := Aside0.mk r4
            have HK4 := Aside0.mk (VaryR.Sl.but HK2.out b4 HR2.out.noByte)
            have HL4 := Aside0.mk (VaryR.Sl.but HL2.out b4 HR2.out.noByte)
            have HB4 := Aside0.mk (VaryR.But.step b4 HB2.out HG.out (Nat.le_refl _))
            clear r4 b4 HR2 HK2 HL2 HB2
            go_wp2_with fail
            refine (VaryR.nBad g _ _ l0 a true HR4.out).mono ?_
            rintro e w5 ⟨rfl, rfl⟩
            go_wp2_with fail
            refine (VaryR.nLeft g _ _ l0 a true HR4.out).mono ?_
            rintro e w5 ⟨rfl, n5, rfl⟩
            rw [show VaryR.leftL l0 a true = 0 from rfl]
            have HR5 := Aside0.mk (HR4.out.below (pw_below_drewN (Below.refl _ _) n5))
            have HK5 := Aside0.mk (HK4.out.drewN n5)
            have HL5 := Aside0.mk (HL4.out.drewN n5)
            have HB5 := Aside0.mk (pw_below_drewN HB4.out n5)
            clear HR4 HK4 HL4 HB4
            obtain ⟨w7, hw7⟩ : ∃ w7, w7 = w5.drewN n5 := ⟨_, rfl⟩
            rw [← hw7] at HR5 HK5 HL5 HB5 ⊢
            clear hw7
            go_wp2_with fail
            refine (VaryR.nDone g _ _ l0 a true HR5.out).mono ?_
            rintro e w6 ⟨rfl, n6, rfl⟩
            go_wp2_with fail
            go_roundw
            case rel => exact ⟨a, true, j + 1, rfl, rfl, by go_num, by omega, by omega, HR5.out.below (pw_below_drewN (Below.refl _ _) n6), HK5.out.drewN n6, HL5.out.drewN n6, pw_below_drewN HB5.out n6⟩
            case measure => simp [intOf]; omega
          | false =>
            by_cases hk0 : k = 0
            · have HKK := Aside0.mk (hkk.symm.trans hk0)
              clear hkk hk0 k
              go_wp2_with fail
              refine (VaryRef.nSigned u (l0.drop a) _ HU.out HD.out).mono ?_
              rintro e w2 ⟨rfl, n2, rfl⟩
              have HR2 := Aside0.mk (HR.out.below (pw_below_drewN (Below.refl _ _) n2))
              have HK2 := Aside0.mk (HK.out.drewN n2)
              have HL2 := Aside0.mk (HLL.out.drewN n2)
              have HB2 := Aside0.mk (pw_below_drewN HB.out n2)
              clear HR HK HLL HB HU hcell
              obtain ⟨w3, hw3⟩ : ∃ w3, w3 = wr.drewN n2 := ⟨_, rfl⟩
              rw [← hw3] at HR2 HK2 HL2 HB2 ⊢
              clear hw3
              rw [← HY.out, HKK.out]
              go_wp2_with fail
              refine (VaryR.nSigned_no g _ _ l0 a HR2.out HO0.out HKK.out).mono ?_
              rintro e w4 ⟨rfl, r4, b4⟩
              have HR4 := Aside0.mk r4
              have HK4 := Aside0.mk (VaryR.Sl.but HK2.out b4 HR2.out.noByte)
              have HL4 := Aside0.mk (VaryR.Sl.but HL2.out b4 HR2.out.noByte)
              have HB4 := Aside0.mk (VaryR.But.step b4 HB2.out HG.out (Nat.le_refl _))
              clear r4 b4 HR2 HK2 HL2 HB2
              go_wp2_with fail
              refine (VaryR.nBad g _ _ l0 a true HR4.out).mono ?_
              rintro e w5 ⟨rfl, rfl⟩
              go_wp2_with fail
              refine (VaryR.nLeft g _ _ l0 a true HR4.out).mono ?_
              rintro e w5 ⟨rfl, n5, rfl⟩
              rw [show VaryR.leftL l0 a true = 0 from rfl]
              have HR5 := Aside0.mk (HR4.out.below (pw_below_drewN (Below.refl _ _) n5))
              have HK5 := Aside0.mk (HK4.out.drewN n5)
              have HL5 := Aside0.mk (HL4.out.drewN n5)
              have HB5 := Aside0.mk (pw_below_drewN HB4.out n5)
              clear HR4 HK4 HL4 HB4
              obtain ⟨w7, hw7⟩ : ∃ w7, w7 = w5.drewN n5 := ⟨_, rfl⟩
              rw [← hw7] at HR5 HK5 HL5 HB5 ⊢
              clear hw7
              go_wp2_with fail
              refine (VaryR.nDone g _ _ l0 a true HR5.out).mono ?_
              rintro e w6 ⟨rfl, n6, rfl⟩
              go_wp2_with fail
              go_roundw
              case rel => exact ⟨a, true, j + 1, rfl, rfl, by go_num, by omega, by omega, HR5.out.below (pw_below_drewN (Below.refl _ _) n6), HK5.out.drewN n6, HL5.out.drewN n6, pw_below_drewN HB5.out n6⟩
              case measure => simp [intOf]; omega
            · have hk1 : ((k : Int) == 0) = false := by simp; omega
              have HK0 := Aside0.mk hk0
              have HKK := Aside0.mk hkk
              have HX := Aside0.mk (show Vy.sgnL (l0.drop a) = (y, k) from Prod.ext HY.out.symm hkk.symm)
              have hkl : k ≤ l0.length - a := by
                rw [hkk, ← List.length_drop]
                exact Vy.numL_le HD.out
              have hka : (a : Int) + (k : Int) ≤ (l0.length : Int) := by omega
              obtain ⟨a2, ha2'⟩ : ∃ a2, a2 = a + k := ⟨_, rfl⟩
              have HA2 := Aside0.mk ha2'.symm
              have HS := Aside0.mk (show (a : Int) + (k : Int) = (a2 : Int) by omega)
              have ha3 : (a2 : Int) ≤ (l0.length : Int) := by omega
              obtain ⟨q, hq⟩ : ∃ q, l0.length - a2 = q := ⟨_, rfl⟩
              have HQ := Aside0.mk (show (l0.length : Int) - (a2 : Int) = (q : Int) by omega)
              have HQL := Aside0.mk hq
              clear hk0 hkk hkl ha2' hq
              go_wp2_with fail
              refine (VaryRef.nSigned u (l0.drop a) _ HU.out HD.out).mono ?_
              rintro e w2 ⟨rfl, n2, rfl⟩
              have HR2 := Aside0.mk (HR.out.below (pw_below_drewN (Below.refl _ _) n2))
              have HK2 := Aside0.mk (HK.out.drewN n2)
              have HL2 := Aside0.mk (HLL.out.drewN n2)
              have HB2 := Aside0.mk (pw_below_drewN HB.out n2)
              clear HR HK HLL HB HU hcell
              obtain ⟨w3, hw3⟩ : ∃ w3, w3 = wr.drewN n2 := ⟨_, rfl⟩
              rw [← hw3] at HR2 HK2 HL2 HB2 ⊢
              clear hw3
              rw [← HY.out, ← HKK.out]
              go_wp2_with fail
              rw [HS.out]
              refine (VaryR.nSigned_ok g _ _ l0 a _ k HR2.out HO0.out HX.out HK0.out).mono ?_
              rintro e w4 ⟨rfl, r4, b4⟩
              have HR4 := Aside0.mk (HA2.out ▸ r4)
              have HK4 := Aside0.mk (VaryR.Sl.but HK2.out b4 HR2.out.noByte)
              have HL4 := Aside0.mk (VaryR.Sl.but HL2.out b4 HR2.out.noByte)
              have HB4 := Aside0.mk (VaryR.But.step b4 HB2.out HG.out (Nat.le_refl _))
              clear r4 b4 HR2 HK2 HL2 HB2
              by_cases hq0 : q = 0
              · subst hq0
                go_wp2_with fail
                rw [HQ.out]
                refine (VaryR.nBad g _ _ l0 a2 false HR4.out).mono ?_
                rintro e w5 ⟨rfl, rfl⟩
                go_wp2_with fail
                refine (VaryR.nLeft g _ _ l0 a2 false HR4.out).mono ?_
                rintro e w5 ⟨rfl, n5, rfl⟩
                rw [show VaryR.leftL l0 a2 false = 0 from HQL.out]
                have HR5 := Aside0.mk (HR4.out.below (pw_below_drewN (Below.refl _ _) n5))
                have HK5 := Aside0.mk (HK4.out.drewN n5)
                have HL5 := Aside0.mk (HL4.out.drewN n5)
                have HB5 := Aside0.mk (pw_below_drewN HB4.out n5)
                clear HR4 HK4 HL4 HB4
                obtain ⟨w7, hw7⟩ : ∃ w7, w7 = w5.drewN n5 := ⟨_, rfl⟩
                rw [← hw7] at HR5 HK5 HL5 HB5 ⊢
                clear hw7
                go_wp2_with fail
                refine (VaryR.nDone g _ _ l0 a2 false HR5.out).mono ?_
                rintro e w6 ⟨rfl, n6, rfl⟩
                rw [show l0.length - a2 = 0 from HQL.out]
                go_wp2_with fail
                go_roundw
                case rel => exact ⟨a2, false, j + 1, rfl, rfl, by go_num, by omega, by omega, HR5.out.below (pw_below_drewN (Below.refl _ _) n6), HK5.out.drewN n6, HL5.out.drewN n6, pw_below_drewN HB5.out n6⟩
                case measure => simp [intOf]; omega
              · have hq1 : ((q : Int) == 0) = false := by simp; omega
                have HDN := Aside0.mk (show decide (l0.length - a2 = 0) = false by rw [decide_eq_false_iff_not, show l0.length - a2 = q from HQL.out]; exact hq0)
                clear hq0
                go_wp2_with fail
                rw [HQ.out]
                refine (VaryR.nBad g _ _ l0 a2 false HR4.out).mono ?_
                rintro e w5 ⟨rfl, rfl⟩
                go_wp2_with fail
                refine (VaryR.nLeft g _ _ l0 a2 false HR4.out).mono ?_
                rintro e w5 ⟨rfl, n5, rfl⟩
                rw [show VaryR.leftL l0 a2 false = q from HQL.out]
                have HR5 := Aside0.mk (HR4.out.below (pw_below_drewN (Below.refl _ _) n5))
                have HK5 := Aside0.mk (HK4.out.drewN n5)
                have HL5 := Aside0.mk (HL4.out.drewN n5)
                have HB5 := Aside0.mk (pw_below_drewN HB4.out n5)
                clear HR4 HK4 HL4 HB4
                obtain ⟨w7, hw7⟩ : ∃ w7, w7 = w5.drewN n5 := ⟨_, rfl⟩
                rw [← hw7] at HR5 HK5 HL5 HB5 ⊢
                clear hw7
                go_wp2_with fail
                refine (VaryR.nDone g _ _ l0 a2 false HR5.out).mono ?_
                rintro e w6 ⟨rfl, n6, rfl⟩
                rw [HDN.out]
                go_wp2_with fail
                go_roundw
                case rel => exact ⟨a2, false, j + 1, rfl, rfl, by go_num, by omega, by omega, HR5.out.below (pw_below_drewN (Below.refl _ _) n6), HK5.out.drewN n6, HL5.out.drewN n6, pw_below_drewN HB5.out n6⟩
                case measure => simp [intOf]; omega
        · have hm3 : x % 3 = 2 := by omega
          obtain ⟨y, hy⟩ : ∃ y, y = strOfNums (Vy.textL (l0.drop a)).1 := ⟨_, rfl⟩
          have HY := Aside0.mk hy
          obtain ⟨k, hkk⟩ : ∃ k, k = (Vy.textL (l0.drop a)).2 := ⟨_, rfl⟩
          clear hy
          cases bd with
          | true =>
            have HKK := Aside0.mk hkk
            clear hkk
            go_wp2_with fail
            refine (VaryRef.nText u (l0.drop a) _ HU.out HD.out HDL.out).mono ?_
            rintro e w2 ⟨rfl, n2, rfl⟩
            have HR2 := Aside0.mk (HR.out.below (pw_below_drewN (Below.refl _ _) n2))
            have HK2 := Aside0.mk (HK.out.drewN n2)
            have HL2 := Aside0.mk (HLL.out.drewN n2)
            have HB2 := Aside0.mk (pw_below_drewN HB.out n2)
            clear HR HK HLL HB HU hcell
            obtain ⟨w3, hw3⟩ : ∃ w3, w3 = wr.drewN n2 := ⟨_, rfl⟩
            rw [← hw3] at HR2 HK2 HL2 HB2 ⊢
            clear hw3
            rw [← HY.out, ← HKK.out]
            go_wp2_with fail
            refine (VaryR.nText_bad g _ _ l0 a HR2.out HO0.out).mono ?_
            rintro e w4 ⟨rfl, r4, b4⟩
            have HR4 := Aside0.mk r4
            have HK4 := Aside0.mk (VaryR.Sl.but HK2.out b4 HR2.out.noByte)
            have HL4 := Aside0.mk (VaryR.Sl.but HL2.out b4 HR2.out.noByte)
            have HB4 := Aside0.mk (VaryR.But.step b4 HB2.out HG.out (Nat.le_refl _))
            clear r4 b4 HR2 HK2 HL2 HB2
            go_wp2_with fail
            refine (VaryR.nBad g _ _ l0 a true HR4.out).mono ?_
            rintro e w5 ⟨rfl, rfl⟩
            go_wp2_with fail
            refine (VaryR.nLeft g _ _ l0 a true HR4.out).mono ?_
            rintro e w5 ⟨rfl, n5, rfl⟩
            rw [show VaryR.leftL l0 a true = 0 from rfl]
            have HR5 := Aside0.mk (HR4.out.below (pw_below_drewN (Below.refl _ _) n5))
            have HK5 := Aside0.mk (HK4.out.drewN n5)
            have HL5 := Aside0.mk (HL4.out.drewN n5)
            have HB5 := Aside0.mk (pw_below_drewN HB4.out n5)
            clear HR4 HK4 HL4 HB4
            obtain ⟨w7, hw7⟩ : ∃ w7, w7 = w5.drewN n5 := ⟨_, rfl⟩
            rw [← hw7] at HR5 HK5 HL5 HB5 ⊢
            clear hw7
            go_wp2_with fail
            refine (VaryR.nDone g _ _ l0 a true HR5.out).mono ?_
            rintro e w6 ⟨rfl, n6, rfl⟩
            go_wp2_with fail
            go_roundw
            case rel => exact ⟨a, true, j + 1, rfl, rfl, by go_num, by omega, by omega, HR5.out.below (pw_below_drewN (Below.refl _ _) n6), HK5.out.drewN n6, HL5.out.drewN n6, pw_below_drewN HB5.out n6⟩
            case measure => simp [intOf]; omega
          | false =>
            by_cases hk0 : k = 0
            · have HKK := Aside0.mk (hkk.symm.trans hk0)
              clear hkk hk0 k
              go_wp2_with fail
              refine (VaryRef.nText u (l0.drop a) _ HU.out HD.out HDL.out).mono ?_
              rintro e w2 ⟨rfl, n2, rfl⟩
              have HR2 := Aside0.mk (HR.out.below (pw_below_drewN (Below.refl _ _) n2))
              have HK2 := Aside0.mk (HK.out.drewN n2)
              have HL2 := Aside0.mk (HLL.out.drewN n2)
              have HB2 := Aside0.mk (pw_below_drewN HB.out n2)
              clear HR HK HLL HB HU hcell
              obtain ⟨w3, hw3⟩ : ∃ w3, w3 = wr.drewN n2 := ⟨_, rfl⟩
              rw [← hw3] at HR2 HK2 HL2 HB2 ⊢
              clear hw3
              rw [← HY.out, HKK.out]
              go_wp2_with fail
              refine (VaryR.nText_no g _ _ l0 a HR2.out HO0.out HKK.out).mono ?_
              rintro e w4 ⟨rfl, r4, b4⟩
              have HR4 := Aside0.mk r4
              have HK4 := Aside0.mk (VaryR.Sl.but HK2.out b4 HR2.out.noByte)
              have HL4 := Aside0.mk (VaryR.Sl.but HL2.out b4 HR2.out.noByte)
              have HB4 := Aside0.mk (VaryR.But.step b4 HB2.out HG.out (Nat.le_refl _))
              clear r4 b4 HR2 HK2 HL2 HB2
              go_wp2_with fail
              refine (VaryR.nBad g _ _ l0 a true HR4.out).mono ?_
              rintro e w5 ⟨rfl, rfl⟩
              go_wp2_with fail
              refine (VaryR.nLeft g _ _ l0 a true HR4.out).mono ?_
              rintro e w5 ⟨rfl, n5, rfl⟩
              rw [show VaryR.leftL l0 a true = 0 from rfl]
              have HR5 := Aside0.mk (HR4.out.below (pw_below_drewN (Below.refl _ _) n5))
              have HK5 := Aside0.mk (HK4.out.drewN n5)
              have HL5 := Aside0.mk (HL4.out.drewN n5)
              have HB5 := Aside0.mk (pw_below_drewN HB4.out n5)
              clear HR4 HK4 HL4 HB4
              obtain ⟨w7, hw7⟩ : ∃ w7, w7 = w5.drewN n5 := ⟨_, rfl⟩
              rw [← hw7] at HR5 HK5 HL5 HB5 ⊢
              clear hw7
              go_wp2_with fail
              refine (VaryR.nDone g _ _ l0 a true HR5.out).mono ?_
              rintro e w6 ⟨rfl, n6, rfl⟩
              go_wp2_with fail
              go_roundw
              case rel => exact ⟨a, true, j + 1, rfl, rfl, by go_num, by omega, by omega, HR5.out.below (pw_below_drewN (Below.refl _ _) n6), HK5.out.drewN n6, HL5.out.drewN n6, pw_below_drewN HB5.out n6⟩
              case measure => simp [intOf]; omega
            · have hk1 : ((k : Int) == 0) = false := by simp; omega
              have HK0 := Aside0.mk hk0
              have HKK := Aside0.mk hkk
              have HX := Aside0.mk (show Vy.textL (l0.drop a) = ((Vy.textL (l0.drop a)).1, k) from Prod.ext rfl hkk.symm)
              have hkl : k ≤ l0.length - a := by
                rw [hkk, ← List.length_drop]
                exact Vy.textL_le HD.out
              have hka : (a : Int) + (k : Int) ≤ (l0.length : Int) := by omega
              obtain ⟨a2, ha2'⟩ : ∃ a2, a2 = a + k := ⟨_, rfl⟩
              have HA2 := Aside0.mk ha2'.symm
              have HS := Aside0.mk (show (a : Int) + (k : Int) = (a2 : Int) by omega)
              have ha3 : (a2 : Int) ≤ (l0.length : Int) := by omega
              obtain ⟨q, hq⟩ : ∃ q, l0.length - a2 = q := ⟨_, rfl⟩
              have HQ := Aside0.mk (show (l0.length : Int) - (a2 : Int) = (q : Int) by omega)
              have HQL := Aside0.mk hq
              clear hk0 hkk hkl ha2' hq
              go_wp2_with fail
              refine (VaryRef.nText u (l0.drop a) _ HU.out HD.out HDL.out).mono ?_
              rintro e w2 ⟨rfl, n2, rfl⟩
              have HR2 := Aside0.mk (HR.out.below (pw_below_drewN (Below.refl _ _) n2))
              have HK2 := Aside0.mk (HK.out.drewN n2)
              have HL2 := Aside0.mk (HLL.out.drewN n2)
              have HB2 := Aside0.mk (pw_below_drewN HB.out n2)
              clear HR HK HLL HB HU hcell
              obtain ⟨w3, hw3⟩ : ∃ w3, w3 = wr.drewN n2 := ⟨_, rfl⟩
              rw [← hw3] at HR2 HK2 HL2 HB2 ⊢
              clear hw3
              rw [← HY.out, ← HKK.out]
              go_wp2_with fail
              rw [HS.out]
              refine (VaryR.nText_ok g _ _ l0 a _ k HR2.out HO0.out HX.out HK0.out).mono ?_
              rintro e w4 ⟨rfl, r4, b4⟩
              rw [← HY.out]
              have HR4 := Aside0.mk (HA2.out ▸ r4)
              have HK4 := Aside0.mk (VaryR.Sl.but HK2.out b4 HR2.out.noByte)
              have HL4 := Aside0.mk (VaryR.Sl.but HL2.out b4 HR2.out.noByte)
              have HB4 := Aside0.mk (VaryR.But.step b4 HB2.out HG.out (Nat.le_refl _))
              clear r4 b4 HR2 HK2 HL2 HB2
              by_cases hq0 : q = 0
              · subst hq0
                go_wp2_with fail
                rw [HQ.out]
                refine (VaryR.nBad g _ _ l0 a2 false HR4.out).mono ?_
                rintro e w5 ⟨rfl, rfl⟩
                go_wp2_with fail
                refine (VaryR.nLeft g _ _ l0 a2 false HR4.out).mono ?_
                rintro e w5 ⟨rfl, n5, rfl⟩
                rw [show VaryR.leftL l0 a2 false = 0 from HQL.out]
                have HR5 := Aside0.mk (HR4.out.below (pw_below_drewN (Below.refl _ _) n5))
                have HK5 := Aside0.mk (HK4.out.drewN n5)
                have HL5 := Aside0.mk (HL4.out.drewN n5)
                have HB5 := Aside0.mk (pw_below_drewN HB4.out n5)
                clear HR4 HK4 HL4 HB4
                obtain ⟨w7, hw7⟩ : ∃ w7, w7 = w5.drewN n5 := ⟨_, rfl⟩
                rw [← hw7] at HR5 HK5 HL5 HB5 ⊢
                clear hw7
                go_wp2_with fail
                refine (VaryR.nDone g _ _ l0 a2 false HR5.out).mono ?_
                rintro e w6 ⟨rfl, n6, rfl⟩
                rw [show l0.length - a2 = 0 from HQL.out]
                go_wp2_with fail
                go_roundw
                case rel => exact ⟨a2, false, j + 1, rfl, rfl, by go_num, by omega, by omega, HR5.out.below (pw_below_drewN (Below.refl _ _) n6), HK5.out.drewN n6, HL5.out.drewN n6, pw_below_drewN HB5.out n6⟩
                case measure => simp [intOf]; omega
              · have hq1 : ((q : Int) == 0) = false := by simp; omega
                have HDN := Aside0.mk (show decide (l0.length - a2 = 0) = false by rw [decide_eq_false_iff_not, show l0.length - a2 = q from HQL.out]; exact hq0)
                clear hq0
                go_wp2_with fail
                rw [HQ.out]
                refine (VaryR.nBad g _ _ l0 a2 false HR4.out).mono ?_
                rintro e w5 ⟨rfl, rfl⟩
                go_wp2_with fail
                refine (VaryR.nLeft g _ _ l0 a2 false HR4.out).mono ?_
                rintro e w5 ⟨rfl, n5, rfl⟩
                rw [show VaryR.leftL l0 a2 false = q from HQL.out]
                have HR5 := Aside0.mk (HR4.out.below (pw_below_drewN (Below.refl _ _) n5))
                have HK5 := Aside0.mk (HK4.out.drewN n5)
                have HL5 := Aside0.mk (HL4.out.drewN n5)
                have HB5 := Aside0.mk (pw_below_drewN HB4.out n5)
                clear HR4 HK4 HL4 HB4
                obtain ⟨w7, hw7⟩ : ∃ w7, w7 = w5.drewN n5 := ⟨_, rfl⟩
                rw [← hw7] at HR5 HK5 HL5 HB5 ⊢
                clear hw7
                go_wp2_with fail
                refine (VaryR.nDone g _ _ l0 a2 false HR5.out).mono ?_
                rintro e w6 ⟨rfl, n6, rfl⟩
                rw [HDN.out]
                go_wp2_with fail
                go_roundw
                case rel => exact ⟨a2, false, j + 1, rfl, rfl, by go_num, by omega, by omega, HR5.out.below (pw_below_drewN (Below.refl _ _) n6), HK5.out.drewN n6, HL5.out.drewN n6, pw_below_drewN HB5.out n6⟩
                case measure => simp [intOf]; omega
    · obtain rfl : j = l1.length := by omega
      go_wp2_with fail
      refine (VaryLives.lives_c _).mono ?_
      rintro e w1 ⟨rfl, hb⟩
      have HB1 := Aside0.mk (HB.out.trans (hb.mono HB.out.size))
      clear hb
      go_wp2_with fail
      go_ret
      exact ⟨rfl, HB1.out⟩
set_option maxHeartbeats 2000000 in
set_option maxRecDepth 100000 in
theorem variorumlaw01_VaryReads.holds (A0 : Option Addr) (c0 : Nat) (l0 : List Int) (A1 : Option Addr) (c1 : Nat) (l1 : List Int) (w : World) (hr0 : Kd.C (Kd.int .u8) w A0 l0.length l0) (hc0 : l0.length ≤ c0) (_ : l0.length * 1 ≤ 140737488351232) (w0 : ∀ x ∈ l0, (Lit.int .u8 x).wf = true)
    (hr1 : Kd.C (Kd.int .u8) w A1 l1.length l1) (hc1 : l1.length ≤ c1) (_ : l1.length * 1 ≤ 140737488351232) (w1 : ∀ x ∈ l1, (Lit.int .u8 x).wf = true) :
    Calls Try.prog 11 #[.slice A0 l0.length c0, .slice A1 l1.length c1] w fun e w' => e = .returned (.bool true) ∧ Below w.heap.size w w' := by
  by_cases h1 : (4000 : Int) < (l0.length : Int)
  · clear hr0 w0 hr1 w1
    go_enter Try.func11, Try.ntmps11
    go_wp2_with fail
    refine (VaryLives.lives_c _).mono ?_
    rintro e w1 ⟨rfl, hb⟩
    go_wp2_with fail
    go_ret
    exact ⟨rfl, hb⟩
  by_cases h2 : (200 : Int) < (l1.length : Int)
  · have g1 : decide ((4000 : Int) < (l0.length : Int)) = false := by simp; omega
    clear hr0 w0 hr1 w1
    go_enter Try.func11, Try.ntmps11
    go_wp2_with fail
    refine (VaryLives.lives_c _).mono ?_
    rintro e w1 ⟨rfl, hb⟩
    go_wp2_with fail
    go_ret
    exact ⟨rfl, hb⟩
  exact variorumlaw01_VaryReads.good A0 c0 l0 A1 c1 l1 w (Own.Sl.mk hr0 hc0) (Own.Sl.mk hr1 hc1) (Byt.ok_of_wf w0) (Byt.ok_of_wf w1) (by omega) (by omega)
def variorumlaw01_VaryReads.Pure : Prop := True
theorem variorumlaw01_VaryReads.walk (_ : variorumlaw01_VaryReads.Pure) (a0 : Option Addr) (len0 cap0 : Nat) (z0 : List Int) (a1 : Option Addr) (len1 cap1 : Nat) (z1 : List Int) (w : World) (w0 : (a0 = none ∧ len0 = 0 ∧ cap0 = 0 ∧ z0 = []) ∨ ∃ x, a0 = some x ∧ len0 ≤ cap0 ∧ cap0 ≤ maxLen ∧ z0.length = cap0 ∧ (∀ i, i < z0.length → w.cell? (x.add i) = some (.int .u8 (z0.getD i 0))) ∧ ∀ n ∈ z0, (Lit.int .u8 n).wf = true) (y0 : len0 * 1 ≤ 140737488351232) (w1 : (a1 = none ∧ len1 = 0 ∧ cap1 = 0 ∧ z1 = []) ∨ ∃ x, a1 = some x ∧ len1 ≤ cap1 ∧ cap1 ≤ maxLen ∧ z1.length = cap1 ∧ (∀ i, i < z1.length → w.cell? (x.add i) = some (.int .u8 (z1.getD i 0))) ∧ ∀ n ∈ z1, (Lit.int .u8 n).wf = true) (y1 : len1 * 1 ≤ 140737488351232) :
    Calls Try.prog 11 #[.slice a0 len0 cap0, .slice a1 len1 cap1] w fun e w' => e = .returned (.bool true) ∧ Below w.heap.size w w' := by
  obtain ⟨l0, rfl, hr0, hm0, hw0, hc0⟩ := ReadsInt.ofRowC w0
  obtain ⟨l1, rfl, hr1, hm1, hw1, hc1⟩ := ReadsInt.ofRowC w1
  exact variorumlaw01_VaryReads.holds _ _ l0 _ _ l1 w (Kd.C_of_reads (d := (0 : Int)) (h1 := fun _ => rfl) hr0) hc0 y0 hw0 (Kd.C_of_reads (d := (0 : Int)) (h1 := fun _ => rfl) hr1) hc1 y1 hw1

end Go.Proofs.Ytgefpgbofhcmdaa.P

import Derived.Test.YtedfcjcnhgomoaaRows
import Derived.Test.YtedfcjcnhgomoaaRG
import Derived.Test.YtedfcjcnhgomoaaWWords
import Derived.Deep.Slices
import Derived.ChangeArms
import Derived.OpenShut
import Derived.ShutString
import Derived.WalkKit
import Derived.ProofKit
import Derived.ChangeOld
import Derived.Below
import Derived.SizedLaws
import Derived.Test.YtedfcjcnhgomoaaWSized
-- MERGED YtedfcjcnhgomoaaWireFd
section
/- The law WireFeeds: bytes in pieces. -/
namespace Go.Proofs.Ytedfcjcnhgomoaa.WireFd
open Go.RowKit Go.Proofs.Ytedfcjcnhgomoaa.P Go.Proofs.YtedfcjcnhgomoaaW.PrintWords Go.Proofs.YtedfcjcnhgomoaaW.PrintLast Go.Proofs.YtedfcjcnhgomoaaW.PrintMore Go.Proofs.Ytedfcjcnhgomoaa.Own Go.Proofs.Ytedfcjcnhgomoaa.Vy Go.Proofs.Ytedfcjcnhgomoaa.FrameP Go.Proofs.Ytedfcjcnhgomoaa.FrameL Go.Proofs.Ytedfcjcnhgomoaa.VaryR Go.Proofs.Ytedfcjcnhgomoaa.FrameG Go.Proofs.Ytedfcjcnhgomoaa.WireP Go.Proofs.Ytedfcjcnhgomoaa.WireI Go.Proofs.Ytedfcjcnhgomoaa.WireF Go.Proofs.Ytedfcjcnhgomoaa.WireR Go.Proofs.Ytedfcjcnhgomoaa.WireS Go.Proofs.Ytedfcjcnhgomoaa.WireT Go.Proofs.Ytedfcjcnhgomoaa.WireU
set_option linter.unusedSimpArgs false
set_option linter.unusedVariables false

theorem to_of (z : Int) (n at_ : Nat) (h : at_ ≤ n) (hn : n ≤ 4000) : ∃ tt : Nat, wrap64 ((at_ : Int) + wrap64 ((IntKind.u64.wrap z).tmod ((n : Int) - (at_ : Int) + 1))) = (tt : Int) ∧ at_ ≤ tt ∧ tt ≤ n := by
  have hu : 0 ≤ IntKind.u64.wrap z ∧ IntKind.u64.wrap z ≤ 18446744073709551615 := by rw [IntKind.wrap_u64]; omega
  obtain ⟨u, hu2⟩ := Int.eq_ofNat_of_zero_le hu.1
  have e1 : (n : Int) - (at_ : Int) + 1 = ((n - at_ + 1 : Nat) : Int) := by omega
  have hlt : u % (n - at_ + 1) < n - at_ + 1 := Nat.mod_lt _ (by omega)
  refine ⟨at_ + u % (n - at_ + 1), ?_, by omega, by omega⟩
  rw [e1, hu2, Int.tmod_eq_emod_of_nonneg (by omega), show ((u : Int) % ((n - at_ + 1 : Nat) : Int)) = ((u % (n - at_ + 1) : Nat) : Int) from (Int.natCast_emod _ _).symm, Byt.wrap_in ((u % (n - at_ + 1) : Nat) : Int) (by omega), Byt.wrap_in _ (by omega)]
  omega
def WireFd.T17 : Bool × List (List Nat × List Nat) := (true, [([], []), ([], []), ([1], [1]), ([0, 2], [0, 2]), ([3], [3]), ([4, 3], [4]), ([5], [5]), ([6, 5, 5], [5, 6]), ([5], [5]), ([8, 5], [5, 8]), ([7, 9, 5], [5, 7, 9]), ([5, 10], [5, 10]), ([11, 7], [11]), ([12], [12]), ([13, 12, 12], [12, 13]), ([12], [12]), ([15, 12], [12, 15]), ([14, 16, 12], [12, 14, 16]), ([12, 17], [12, 17]), ([18, 14], [18]), ([19], [19]), ([20, 19, 19], [19, 20]), ([19], [19]), ([22, 19], [19, 22]), ([21, 23, 19], [19, 21, 23]), ([19, 24], [19, 24])])
def WireFd.B17 : List Nat := [0, 0, 2, 7, 15, 31, 63, 127, 63, 319, 1023, 2047, 4095, 8191, 16383, 8191, 40959, 131071, 262143, 524287, 1048575, 2097151, 1048575, 5242879, 16777215, 33554431]
theorem WireFd.tab17 : rtab .any (opsOf Try.f8 17) = WireFd.T17 := by kernel_rfl
theorem WireFd.bits17 : waitsOk WireFd.T17.2 WireFd.B17 = true := by kernel_rfl
set_option maxHeartbeats 16000000 in
set_option maxRecDepth 100000 in
theorem row (A : Option Addr) (c : Nat) (x : List Int) (A2 : Option Addr) (c2 : Nat) (y : List Int) (w : World) (hC : Kd.C (Kd.int .u8) w A x.length x) (hc : x.length ≤ c) (ok : x.length ≤ maxLen ∧ ∀ z ∈ x, (Lit.int .u8 z).wf = true) (_ : x.length * 1 ≤ 140737488351232)
    (hC2 : Kd.C (Kd.int .i64) w A2 y.length y) (hc2 : y.length ≤ c2) (ok2 : y.length ≤ maxLen ∧ ∀ z ∈ y, (Lit.int .i64 z).wf = true) (_ : y.length * 8 ≤ 140737488351232) :
    Calls Try.prog 8 #[.slice A x.length c, .slice A2 y.length c2] w fun e w' => e = .returned (.bool true) ∧ Below w.heap.size w w' := by
  by_cases h1 : (4000 : Int) < (x.length : Int)
  · clear hC hc ok hC2 hc2 ok2
    go_enter Try.func8, Try.ntmps8
    go_wp2_with fail
    refine (WireLives.lives_c _).mono ?_
    rintro e w1 ⟨rfl, hb⟩
    go_wp2_with fail
    go_ret
    exact ⟨rfl, hb⟩
  by_cases h2 : (50 : Int) < (y.length : Int)
  · clear hC hc ok hC2 hc2 ok2
    go_enter Try.func8, Try.ntmps8
    go_wp2_with fail
    refine (WireLives.lives_c _).mono ?_
    rintro e w1 ⟨rfl, hb⟩
    go_wp2_with fail
    go_ret
    exact ⟨rfl, hb⟩
  have HSL := Aside0.mk (Sl.mk hC hc)
  have HOK := Aside0.mk (show Byt.Ok x from Byt.ok_of_wf ok.2)
  have HCELL := Aside0.mk (show ∀ (W : World), Below w.heap.size w W → ∀ i, i < y.length → ∃ (b : Addr) (z : Int), A2 = some b ∧ W.cell? (b.add i) = some (.int .i64 z) from fun W hb i hi => by
    have hC2' := Kd.C_below hC2 hb
    obtain ⟨b, eb, _⟩ := hC2'.2.2 (by omega)
    exact ⟨b, y[i], eb, C_cells hC2' b eb i _ (by rw [nums, List.getElem?_map, List.getElem?_eq_getElem hi]; rfl)⟩)
  have HCC := Aside0.mk hc
  obtain ⟨n, hn⟩ : ∃ n, n = x.length := ⟨_, rfl⟩
  obtain ⟨m, hm⟩ : ∃ m, m = y.length := ⟨_, rfl⟩
  have HN := Aside0.mk hn
  have HM := Aside0.mk hm
  have HNL := Aside0.mk (show n ≤ 4000 by omega)
  have HML := Aside0.mk (show m ≤ 50 by omega)
  have hnl : (n : Int) ≤ 4000 := by omega
  have hml : (m : Int) ≤ 50 := by omega
  rw [← hn] at h1 ⊢
  rw [← hm] at h2 HCELL ⊢
  clear hC hc ok hC2 hc2 ok2 hn hm
  obtain ⟨S, hS⟩ : ∃ S, S = w.heap.size := ⟨_, rfl⟩
  go_enter Try.func8, Try.ntmps8
  go_wp2_with fail
  refine (new_c _).mono ?_
  rintro e w1 ⟨rfl, hw1⟩
  rw [← hS]
  have HST0 := Aside0.mk (show St S w [] (.slice none 0 0) w1 by
    refine ⟨⟨none, 0, ?_, by rw [WireLives.run_nil]; exact Sl.nil _, fun ad e => by cases e⟩, by rw [WireLives.run_nil]; exact World.ownsRow_nil _ _ _ _, by rw [hw1, hS]; exact below_alloc (Below.refl _ _) _, by rw [hw1, hS]; simp⟩
    rw [WireLives.run_nil, hw1, hS]; exact Own.heap_new _ _)
  have HSE := Aside0.mk hS
  clear hw1 hS
  go_wp2_with fail
  go_loopw [6, 7, 8] (fun av vv iv wr => ∃ (at_ i : Nat) (v : Value), at_ ≤ n ∧ i ≤ m + 1 ∧ av = .int .i64 (at_ : Int) ∧ iv = .int .i64 (i : Int) ∧ v = vv ∧ St S w (x.take at_) v wr) (fun _ _ iv _ => m + 1 - (intOf iv).toNat)
  case atStart => exact ⟨0, 0, _, by omega, by omega, rfl, rfl, rfl, HST0.out⟩
  case round =>
    obtain ⟨at_, i, v, hat, hi, rfl, rfl, rfl, hst⟩ := hrel
    have HST := Aside0.mk hst
    have HAT := Aside0.mk hat
    have HI := Aside0.mk hi
    clear HST0
    obtain ⟨Av, nv, cv, rfl⟩ : ∃ A n c, v = .slice A n c := by
      rcases hst.row.2 with ⟨rfl, _⟩ | ⟨g, cap, cur, rfl, _⟩
      · exact ⟨_, _, _, rfl⟩
      · exact ⟨_, _, _, rfl⟩
    by_cases hlt : i ≤ m
    · have hlt' : (i : Int) ≤ (m : Int) := by omega
      have HLT := Aside0.mk hlt
      have hat' : (at_ : Int) ≤ (n : Int) := by omega
      have hle : Below w.heap.size w wr := by rw [← HSE.out]; exact hst.lo
      have hsl := HSL.out.below hle
      rw [← HN.out] at hsl
      have HTAIL := Aside0.mk (show ∀ (tt : Nat), at_ ≤ tt → tt ≤ n → ∃ bt : List Int, bt = x.take tt ∧ (∃ u, (∀ W : World, (Instr.slice 25 (.slice A n c) (some (.int .i64 (at_ : Int))) (some (.int .i64 (tt : Int))) none).run Try.prog W = .ok u W) ∧ Calls Try.prog 29 #[.pointer (some ⟨S, 0, none⟩), u] wr fun e W' => ∃ o pre, e = .returned o ∧ (WireL.run bt).1 = (WireL.run (x.take at_)).1 ++ pre ∧ W'.ownsRow wr.heap.size 23 4 o pre.length (pkCells pre) ∧ Sm S (WireL.run bt) (.slice Av nv cv) W' ∧ W'.ownsRow (S + 1) 23 4 (.slice Av nv cv) (WireL.run (x.take at_)).1.length (pkCells (WireL.run (x.take at_)).1) ∧ Below S w W' ∧ S + 1 ≤ W'.heap.size) ∧ (∀ W : World, (Instr.slice 25 (.slice A n c) none (some (.int .i64 (tt : Int))) none).run Try.prog W = .ok (.slice A tt c) W) ∧ (∀ W : World, Below S w W → Calls Try.prog 30 #[.slice A tt c] W (FeedPost bt W)) ∧ bt.length ≤ 4000 from fun tt h1 h2 => by
        obtain ⟨i0, hi0, _, hsz, _⟩ := info_parts info5
        have hnx := HN.out
        have hn4 := HNL.out
        have hlx : (x.take tt).length = tt := by rw [List.length_take]; omega
        obtain ⟨u, hu, hsu⟩ := slice_mid (P := Try.prog) 25 5 Try.underlying25 info5 hsl (at_ : Int) (tt : Int) (by omega) (by omega) (by omega)
        rw [Int.toNat_natCast, Int.toNat_natCast] at hsu
        have hbt : x.take at_ ++ (x.take tt).drop at_ = x.take tt := by
          have := List.take_append_drop at_ (x.take tt)
          rwa [List.take_take, Nat.min_eq_left h1] at this
        refine ⟨x.take tt, rfl, ⟨u, hu, ?_⟩, ?_, ?_, by omega⟩
        · have hf := feed_step S w (x.take at_) ((x.take tt).drop at_) _ u wr HST.out hsu (Byt.ok_take HOK.out _) (Byt.ok_drop (Byt.ok_take HOK.out _) _) (by rw [← List.length_append, hbt]; omega)
          rwa [hbt] at hf
        · have := cut_to (P := Try.prog) 25 5 .i64 Try.underlying25 hi0 A n c (tt : Int) (by omega) (by omega) (by have := HCC.out; omega)
          rwa [Int.toNat_natCast] at this
        · intro W hW
          have hs := (HSL.out.below (by rw [← HSE.out]; exact hW)).take tt (by omega)
          exact feed_ref _ _ W hs (Byt.ok_take HOK.out _) (by omega))
      clear hsl
      refine Classical.byCases (p := i < m) (fun hq => ?yes) (fun hq => ?no)
      case' yes =>
        have hq' : (i : Int) < (m : Int) := by omega
        obtain ⟨b2, z, rfl, hz⟩ := HCELL.out wr hle i hq
        obtain ⟨tt, hto, hto1, hto2⟩ := to_of z n at_ hat HNL.out
        obtain ⟨bt, hbt, ⟨u, hu, hfeed⟩, hcut, href, hbl⟩ := HTAIL.out tt hto1 hto2
        have HTO := Aside0.mk (show tt ≤ n ∧ bt = x.take tt from ⟨hto2, hbt⟩)
        have HFEED := Aside0.mk hfeed
        have HREF := Aside0.mk href
        have HBL := Aside0.mk hbl
        have htol : (tt : Int) ≤ 4000 := by have := HNL.out; omega
        clear HTAIL hfeed href hbl hbt hst hat hi hle hto1 hto2 hq hlt
        go_wp2_with fail
      case' no =>
        have hq' : ¬ (i : Int) < (m : Int) := by omega
        obtain ⟨bt, hbt, ⟨u, hu, hfeed⟩, hcut, href, hbl⟩ := HTAIL.out n hat (Nat.le_refl _)
        have HTO := Aside0.mk (show n ≤ n ∧ bt = x.take n from ⟨Nat.le_refl _, hbt⟩)
        have HFEED := Aside0.mk hfeed
        have HREF := Aside0.mk href
        have HBL := Aside0.mk hbl
        clear HTAIL hfeed href hbl hbt hst hat hi hle hq hlt
        go_wp2_with fail
      all_goals
        refine HFEED.out.mono ?_
        rintro e w2 ⟨o, pre, rfl, heq, hown, hsm, hrow, hlo, hsz⟩
        obtain ⟨Ao, no, co, rfl⟩ : ∃ A n c, o = .slice A n c := by
          rcases hown.2 with ⟨rfl, _⟩ | ⟨g, cap, cur, rfl, _⟩
          · exact ⟨_, _, _, rfl⟩
          · exact ⟨_, _, _, rfl⟩
        have hcnt := run_count _ bt (Nat.le_refl _)
        have hbl := HBL.out
        have hlen : (WireL.run (x.take at_)).1.length + pre.length ≤ 1000000 := by rw [heq, List.length_append] at hcnt; omega
        have HEQ := Aside0.mk heq
        have HOWN := Aside0.mk hown
        have HSM := Aside0.mk hsm
        have HROW := Aside0.mk hrow
        have HLO := Aside0.mk hlo
        have HSZ := Aside0.mk hsz
        have HLEN := Aside0.mk hlen
        clear heq hown hsm hrow hlo hsz hlen hcnt hbl hu HFEED HST
        go_wp2_with (at_builtin; refine wpList_all rfl rfl rfl rfl HEQ.out HOWN.out HSM.out HROW.out HLO.out HSZ.out HLEN.out ?_)
        intro vn w3 hst3
        have HST3 := Aside0.mk hst3
        clear hst3 HEQ HOWN HSM HROW HLO HSZ HLEN
        go_wp2_with fail
        refine (HREF.out w3 HST3.out.lo).mono ?_
        rintro e w4 ⟨v4, rfl, hpk, hb4⟩
        unfold Sv
        have hcnt := run_count _ bt (Nat.le_refl _)
        have hbl := HBL.out
        have hcn : (WireL.run bt).1.length ≤ 1000000 := by omega
        obtain ⟨A4, n4, rfl⟩ := Pks.form hpk
        have hst4 := HST3.out.below hb4
        obtain ⟨w5, hw5⟩ : ∃ w5, w5 = w4.alloc (.cells #[.slice A4 (WireL.run bt).1.length n4, .int .i64 ((WireL.run bt).2.1.length : Int), .int .i64 ((WireL.run bt).2.2.1 : Int), .bool (WireL.run bt).2.2.2] 55) := ⟨_, rfl⟩
        have HW5 := Aside0.mk hw5
        have hb5 : Below w4.heap.size w4 w5 := by rw [hw5]; exact below_alloc (Below.refl _ _) _
        have hst5 := hst4.below hb5
        have hsto : Sto w4.heap.size (.slice A4 (WireL.run bt).1.length n4) ((WireL.run bt).2.1.length : Int) ((WireL.run bt).2.2.1 : Int) (WireL.run bt).2.2.2 w5 := by rw [hw5]; exact Own.heap_new _ _
        obtain ⟨Q, hQ⟩ : ∃ Q, Q = w4.heap.size := ⟨_, rfl⟩
        rw [← hQ] at hsto
        obtain ⟨pk, hpke⟩ : ∃ pk, pk = (WireL.run bt).1 := ⟨_, rfl⟩
        obtain ⟨wt, hwt⟩ : ∃ wt, wt = (WireL.run bt).2.1.length := ⟨_, rfl⟩
        obtain ⟨lo_, hlo_⟩ : ∃ lo_, lo_ = (WireL.run bt).2.2.1 := ⟨_, rfl⟩
        obtain ⟨bk, hbk⟩ : ∃ bk, bk = (WireL.run bt).2.2.2 := ⟨_, rfl⟩
        obtain ⟨A5, c5, hstrm, _, _⟩ := hst5.strm
        have hpk5 := hpk.below hb5
        have hown5 := Pks.of_own hst5.row
        rw [← hpke] at hsto hpk5 hown5 hcn
        rw [← hwt, ← hlo_, ← hbk] at hsto hstrm
        have HALL := Aside0.mk (show ∀ W, Below w5.heap.size w5 W → (W.cell? ⟨Q, 0, none⟩ = some (.slice A4 pk.length n4) ∧ W.cell? ⟨Q, 1, none⟩ = some (.int .i64 (wt : Int)) ∧ W.cell? ⟨Q, 2, none⟩ = some (.int .i64 (lo_ : Int)) ∧ W.cell? ⟨Q, 3, none⟩ = some (.bool bk)) from fun W hW => by
          obtain ⟨c0, c1, c2, c3, _⟩ := Sto.cells (w := W) ((hW.block _ (by rw [hw5, hQ]; simp)).trans hsto)
          exact ⟨c0, c1, c2, c3⟩)
        have HSAME := Aside0.mk (show ∀ W, Below w5.heap.size w5 W → Calls Try.prog 31 #[vn, .slice A4 pk.length n4] W fun e W' => e = .returned (.bool true) ∧ Below W.heap.size W W' from fun W hW => same_yes _ _ pk W (hown5.below hW) (hpk5.below hW) hcn)
        have HWAIT := Aside0.mk (show ∀ W, Below w5.heap.size w5 W → Calls Try.prog 32 #[.pointer (some ⟨S, 0, none⟩)] W fun e W' => e = .returned (.int .i64 (wt : Int)) ∧ Below W.heap.size W W' from fun W hW => (wait_c S _ _ _ _ _ _ W (hstrm.below hW)).mono fun e W' ⟨h1, h2⟩ => ⟨h1, by rw [h2]; exact Below.refl _ _⟩)
        have HLOST := Aside0.mk (show ∀ W, Below w5.heap.size w5 W → Calls Try.prog 33 #[.pointer (some ⟨S, 0, none⟩)] W fun e W' => e = .returned (.int .i64 (lo_ : Int)) ∧ Below W.heap.size W W' from fun W hW => (lost_c S _ _ _ _ W (hstrm.below hW)).mono fun e W' ⟨h1, h2⟩ => ⟨h1, by rw [h2]; exact Below.refl _ _⟩)
        have HBRK := Aside0.mk (show ∀ W, Below w5.heap.size w5 W → Calls Try.prog 34 #[.pointer (some ⟨S, 0, none⟩)] W fun e W' => e = .returned (.bool bk) ∧ Below W.heap.size W W' from fun W hW => (broken_c S _ _ _ _ W (hstrm.below hW)).mono fun e W' ⟨h1, h2⟩ => ⟨h1, by rw [h2]; exact Below.refl _ _⟩)
        have HST5 := Aside0.mk hst5
        have HPKE := Aside0.mk hpke
        clear hcut hpk hb4 hst4 hst5 hsto hstrm hpk5 hown5 hcnt hbl hcn hb5 hw5 HST3 HREF
        go_wp2_with fail
        rw [← HW5.out, ← hQ]
        clear HW5 hQ hpke hwt hlo_ hbk
        have HB := Aside0.mk (Below.refl w5.heap.size w5)
        refine start_ (n := 26) (S := fun w' => True) (ds := []) #[false, false, false, false, false, false, false, false, false, false, false, false, false, false, false, false, false, false, false, false, false, false, false, false, false, false] (by kernel_rfl) rfl rfl trivial (fun hHeld => ?_); refine with_tabW WireFd.tab17 WireFd.bits17 (fun HT_ HW_ => ?_)
        refine inv_at [0, 1, 2, 3, 4, 5, 6, 7, 8, 9, 10, 11, 12, 13, 14, 15, 16, 17, 18, 19, 20, 21, 22, 23, 24, 25] (fun a0_ b a w' => a = putSel a0_ b [(0, 63, vn), (1, 64, (.pointer (some ⟨Q, 0, none⟩))), (2, 65, (.slice A4 pk.length n4)), (3, 66, (.bool true)), (4, 67, (.bool false)), (5, 68, (.bool false)), (6, 69, (.pointer (some ⟨S, 0, none⟩))), (7, 70, (.int .i64 (wt : Int))), (8, 71, (.pointer (some ⟨Q, 1, none⟩))), (9, 72, (.int .i64 (wt : Int))), (10, 73, (.bool false)), (11, 74, (.bool false)), (12, 75, (.bool false)), (13, 76, (.pointer (some ⟨S, 0, none⟩))), (14, 77, (.int .i64 (lo_ : Int))), (15, 78, (.pointer (some ⟨Q, 2, none⟩))), (16, 79, (.int .i64 (lo_ : Int))), (17, 80, (.bool false)), (18, 81, (.bool false)), (19, 82, (.bool false)), (20, 83, (.pointer (some ⟨S, 0, none⟩))), (21, 84, (.bool bk)), (22, 85, (.pointer (some ⟨Q, 3, none⟩))), (23, 86, (.bool bk)), (24, 87, (.bool false)), (25, 88, (.bool false))] ∧ (Below w5.heap.size w5 w')) HT_.out HW_.out (by kernel_rfl) (by kernel_rfl) ?_ ?_ ?_
        · exact ⟨by simp only [putSel, Bool.false_eq_true, if_false], below_drew1 HB.out⟩
        · skip
          clear HB
          refine steps_cons ?_ ?_
          · rintro b a w' ⟨ha, Q_HB⟩ hb_ hon hoff
            refine ⟨_, rfl, fun K hK => ?_⟩
            have e7 : a.tmps[7]? = some (vn) := by rw [ha]; exact (putSel_off rfl).trans rfl
            replace ha := Aside0.mk ha
            have HB := Aside0.mk Q_HB
            refine value_ (w1 := w') (v := vn) (by rfl) rfl ?_ ?_
            · go_simp
              (try simp only [i64_w])
              try rfl
            refine hK.out _ _ ⟨(by rw [ha.out]; exact putSel_upk 0 hb_ rfl rfl rfl), Q_HB⟩
          refine steps_cons ?_ ?_
          · rintro b a w' ⟨ha, Q_HB⟩ hb_ hon hoff
            refine ⟨_, rfl, fun K hK => ?_⟩
            have e10 : a.tmps[10]? = some ((.pointer (some ⟨Q, 0, none⟩))) := by rw [ha]; exact (putSel_off rfl).trans rfl
            replace ha := Aside0.mk ha
            have HB := Aside0.mk Q_HB
            refine value_ (w1 := w') (v := (.pointer (some ⟨Q, 0, none⟩))) (by rfl) rfl ?_ ?_
            · go_simp
              (try simp only [i64_w])
              try rfl
            refine hK.out _ _ ⟨(by rw [ha.out]; exact putSel_upk 1 hb_ rfl rfl rfl), Q_HB⟩
          refine steps_cons ?_ ?_
          · rintro b a w' ⟨ha, Q_HB⟩ hb_ hon hoff
            refine ⟨_, rfl, fun K hK => ?_⟩
            have e64 : a.tmps[64]? = some ((.pointer (some ⟨Q, 0, none⟩))) := by rw [ha]; exact putSel_on (e := (1, 64, (.pointer (some ⟨Q, 0, none⟩)))) 1 rfl rfl (hon 1 (by kernel_rfl)) rfl
            replace ha := Aside0.mk ha
            have HB := Aside0.mk Q_HB
            obtain ⟨c0_, c1_, c2_, c3_⟩ := HALL.out _ HB.out
            refine value_ (w1 := w') (v := (.slice A4 pk.length n4)) (by rfl) rfl ?_ ?_
            · go_simp
              (try simp only [i64_w])
              try rfl
            refine hK.out _ _ ⟨(by rw [ha.out]; exact putSel_upk 2 hb_ rfl rfl rfl), Q_HB⟩
          refine steps_cons ?_ ?_
          · rintro b a w' ⟨ha, Q_HB⟩ hb_ hon hoff
            refine ⟨_, rfl, fun K hK => ?_⟩
            have e63 : a.tmps[63]? = some (vn) := by rw [ha]; exact putSel_on (e := (0, 63, vn)) 0 rfl rfl (hon 0 (by kernel_rfl)) rfl
            have e65 : a.tmps[65]? = some ((.slice A4 pk.length n4)) := by rw [ha]; exact putSel_on (e := (2, 65, (.slice A4 pk.length n4))) 2 rfl rfl (hon 2 (by kernel_rfl)) rfl
            replace ha := Aside0.mk ha
            have HB := Aside0.mk Q_HB
            refine goes_ Try.func31 (by kernel_rfl) rfl #[vn, .slice A4 pk.length n4] (by rfl) rfl rfl (by first | (simp only [List.map_toArray, List.map_cons, List.map_nil, Act.eval, Array.getD_eq_getD_getElem?, Option.getD_some, e63, e65]; done) | (simp only [List.map_toArray, List.map_cons, List.map_nil, Act.eval, Array.getD_eq_getD_getElem?, Option.getD_some, e63, e65]; rfl)) ?_
            refine (HSAME.out _ HB.out).mono ?_
            rintro e w1_ ⟨rfl, hb⟩
            refine ⟨_, rfl, ?_⟩
            refine hK.out _ _ ⟨(by rw [ha.out]; exact putSel_upk 3 hb_ rfl rfl rfl), below_step HB.out hb⟩
          refine steps_cons ?_ ?_
          · rintro b a w' ⟨ha, Q_HB⟩ hb_ hon hoff
            refine ⟨_, rfl, fun K hK => ?_⟩
            have e66 : a.tmps[66]? = some ((.bool true)) := by rw [ha]; exact putSel_on (e := (3, 66, (.bool true))) 3 rfl rfl (hon 3 (by kernel_rfl)) rfl
            replace ha := Aside0.mk ha
            have HB := Aside0.mk Q_HB
            refine value_ (w1 := w') (v := (.bool false)) (by rfl) rfl ?_ ?_
            · go_simp
              (try simp only [i64_w])
              try rfl
            refine hK.out _ _ ⟨(by rw [ha.out]; exact putSel_upk 4 hb_ rfl rfl rfl), Q_HB⟩
          refine steps_cons ?_ ?_
          · rintro b a w' ⟨ha, Q_HB⟩ hb_ hon hoff
            refine ⟨_, rfl, fun K hK => ?_⟩
            have e67 : a.tmps[67]? = some ((.bool false)) := by rw [ha]; exact putSel_on (e := (4, 67, (.bool false))) 4 rfl rfl (hon 4 (by kernel_rfl)) rfl
            replace ha := Aside0.mk ha
            have HB := Aside0.mk Q_HB
            refine value_ (w1 := w') (v := (.bool false)) (by rfl) rfl ?_ ?_
            · go_simp
              (try simp only [i64_w])
              try rfl
            refine hK.out _ _ ⟨(by rw [ha.out]; exact putSel_upk 5 hb_ rfl rfl rfl), Q_HB⟩
          refine steps_cons ?_ ?_
          · rintro b a w' ⟨ha, Q_HB⟩ hb_ hon hoff
            refine ⟨_, rfl, fun K hK => ?_⟩
            have e5 : a.tmps[5]? = some ((.pointer (some ⟨S, 0, none⟩))) := by rw [ha]; exact (putSel_off rfl).trans rfl
            have e68 : a.tmps[68]? = some ((.bool false)) := by rw [ha]; exact putSel_on (e := (5, 68, (.bool false))) 5 rfl rfl (hon 5 (by kernel_rfl)) rfl
            replace ha := Aside0.mk ha
            have HB := Aside0.mk Q_HB
            refine value_ (w1 := w') (v := (.pointer (some ⟨S, 0, none⟩))) (wanted_on rfl rfl rfl (e68.trans (by first | rfl | (simp [*]; done)))) rfl ?_ ?_
            · go_simp
              (try simp only [i64_w])
              try rfl
            refine hK.out _ _ ⟨(by rw [ha.out]; exact putSel_upk 6 hb_ rfl rfl rfl), Q_HB⟩
          refine steps_cons ?_ ?_
          · rintro b a w' ⟨ha, Q_HB⟩ hb_ hon hoff
            refine ⟨_, rfl, fun K hK => ?_⟩
            have e69 : a.tmps[69]? = some ((.pointer (some ⟨S, 0, none⟩))) := by rw [ha]; exact putSel_on (e := (6, 69, (.pointer (some ⟨S, 0, none⟩)))) 6 rfl rfl (hon 6 (by kernel_rfl)) rfl
            have e68 : a.tmps[68]? = some ((.bool false)) := by rw [ha]; exact putSel_on (e := (5, 68, (.bool false))) 5 rfl rfl (hon 5 (by kernel_rfl)) rfl
            replace ha := Aside0.mk ha
            have HB := Aside0.mk Q_HB
            refine goes_ Try.func32 (by kernel_rfl) rfl #[.pointer (some ⟨S, 0, none⟩)] (wanted_on rfl rfl rfl (e68.trans (by first | rfl | (simp [*]; done)))) rfl rfl (by first | (simp only [List.map_toArray, List.map_cons, List.map_nil, Act.eval, Array.getD_eq_getD_getElem?, Option.getD_some, e69, e68]; done) | (simp only [List.map_toArray, List.map_cons, List.map_nil, Act.eval, Array.getD_eq_getD_getElem?, Option.getD_some, e69, e68]; rfl)) ?_
            refine (HWAIT.out _ HB.out).mono ?_
            rintro e w1_ ⟨rfl, hb⟩
            refine ⟨_, rfl, ?_⟩
            refine hK.out _ _ ⟨(by rw [ha.out]; exact putSel_upk 7 hb_ rfl rfl rfl), below_step HB.out hb⟩
          refine steps_cons ?_ ?_
          · rintro b a w' ⟨ha, Q_HB⟩ hb_ hon hoff
            refine ⟨_, rfl, fun K hK => ?_⟩
            have e10 : a.tmps[10]? = some ((.pointer (some ⟨Q, 0, none⟩))) := by rw [ha]; exact (putSel_off rfl).trans rfl
            have e68 : a.tmps[68]? = some ((.bool false)) := by rw [ha]; exact putSel_on (e := (5, 68, (.bool false))) 5 rfl rfl (hon 5 (by kernel_rfl)) rfl
            replace ha := Aside0.mk ha
            have HB := Aside0.mk Q_HB
            refine value_ (w1 := w') (v := (.pointer (some ⟨Q, 1, none⟩))) (wanted_on rfl rfl rfl (e68.trans (by first | rfl | (simp [*]; done)))) rfl ?_ ?_
            · go_simp
              (try simp only [i64_w])
              try rfl
            refine hK.out _ _ ⟨(by rw [ha.out]; exact putSel_upk 8 hb_ rfl rfl rfl), Q_HB⟩
          refine steps_cons ?_ ?_
          · rintro b a w' ⟨ha, Q_HB⟩ hb_ hon hoff
            refine ⟨_, rfl, fun K hK => ?_⟩
            have e71 : a.tmps[71]? = some ((.pointer (some ⟨Q, 1, none⟩))) := by rw [ha]; exact putSel_on (e := (8, 71, (.pointer (some ⟨Q, 1, none⟩)))) 8 rfl rfl (hon 8 (by kernel_rfl)) rfl
            have e68 : a.tmps[68]? = some ((.bool false)) := by rw [ha]; exact putSel_on (e := (5, 68, (.bool false))) 5 rfl rfl (hon 5 (by kernel_rfl)) rfl
            replace ha := Aside0.mk ha
            have HB := Aside0.mk Q_HB
            obtain ⟨c0_, c1_, c2_, c3_⟩ := HALL.out _ HB.out
            refine value_ (w1 := w') (v := (.int .i64 (wt : Int))) (wanted_on rfl rfl rfl (e68.trans (by first | rfl | (simp [*]; done)))) rfl ?_ ?_
            · go_simp
              (try simp only [i64_w])
              try rfl
            refine hK.out _ _ ⟨(by rw [ha.out]; exact putSel_upk 9 hb_ rfl rfl rfl), Q_HB⟩
          refine steps_cons ?_ ?_
          · rintro b a w' ⟨ha, Q_HB⟩ hb_ hon hoff
            refine ⟨_, rfl, fun K hK => ?_⟩
            have e70 : a.tmps[70]? = some ((.int .i64 (wt : Int))) := by rw [ha]; exact putSel_on (e := (7, 70, (.int .i64 (wt : Int)))) 7 rfl rfl (hon 7 (by kernel_rfl)) rfl
            have e72 : a.tmps[72]? = some ((.int .i64 (wt : Int))) := by rw [ha]; exact putSel_on (e := (9, 72, (.int .i64 (wt : Int)))) 9 rfl rfl (hon 9 (by kernel_rfl)) rfl
            have e68 : a.tmps[68]? = some ((.bool false)) := by rw [ha]; exact putSel_on (e := (5, 68, (.bool false))) 5 rfl rfl (hon 5 (by kernel_rfl)) rfl
            replace ha := Aside0.mk ha
            have HB := Aside0.mk Q_HB
            refine value_ (w1 := w') (v := (.bool false)) (wanted_on rfl rfl rfl (e68.trans (by first | rfl | (simp [*]; done)))) rfl ?_ ?_
            · go_simp
              (try simp only [i64_w])
              try rfl
            refine hK.out _ _ ⟨(by rw [ha.out]; exact putSel_upk 10 hb_ rfl rfl rfl), Q_HB⟩
          refine steps_cons ?_ ?_
          · rintro b a w' ⟨ha, Q_HB⟩ hb_ hon hoff
            refine ⟨_, rfl, fun K hK => ?_⟩
            have e68 : a.tmps[68]? = some ((.bool false)) := by rw [ha]; exact putSel_on (e := (5, 68, (.bool false))) 5 rfl rfl (hon 5 (by kernel_rfl)) rfl
            have e73 : a.tmps[73]? = some ((.bool false)) := by rw [ha]; exact putSel_on (e := (10, 73, (.bool false))) 10 rfl rfl (hon 10 (by kernel_rfl)) rfl
            replace ha := Aside0.mk ha
            have HB := Aside0.mk Q_HB
            refine value_ (w1 := w') (v := (.bool false)) (by rfl) rfl ?_ ?_
            · go_simp
              (try simp only [i64_w])
              try rfl
            refine hK.out _ _ ⟨(by rw [ha.out]; exact putSel_upk 11 hb_ rfl rfl rfl), Q_HB⟩
          refine steps_cons ?_ ?_
          · rintro b a w' ⟨ha, Q_HB⟩ hb_ hon hoff
            refine ⟨_, rfl, fun K hK => ?_⟩
            have e74 : a.tmps[74]? = some ((.bool false)) := by rw [ha]; exact putSel_on (e := (11, 74, (.bool false))) 11 rfl rfl (hon 11 (by kernel_rfl)) rfl
            replace ha := Aside0.mk ha
            have HB := Aside0.mk Q_HB
            refine value_ (w1 := w') (v := (.bool false)) (by rfl) rfl ?_ ?_
            · go_simp
              (try simp only [i64_w])
              try rfl
            refine hK.out _ _ ⟨(by rw [ha.out]; exact putSel_upk 12 hb_ rfl rfl rfl), Q_HB⟩
          refine steps_cons ?_ ?_
          · rintro b a w' ⟨ha, Q_HB⟩ hb_ hon hoff
            refine ⟨_, rfl, fun K hK => ?_⟩
            have e5 : a.tmps[5]? = some ((.pointer (some ⟨S, 0, none⟩))) := by rw [ha]; exact (putSel_off rfl).trans rfl
            have e75 : a.tmps[75]? = some ((.bool false)) := by rw [ha]; exact putSel_on (e := (12, 75, (.bool false))) 12 rfl rfl (hon 12 (by kernel_rfl)) rfl
            replace ha := Aside0.mk ha
            have HB := Aside0.mk Q_HB
            refine value_ (w1 := w') (v := (.pointer (some ⟨S, 0, none⟩))) (wanted_on rfl rfl rfl (e75.trans (by first | rfl | (simp [*]; done)))) rfl ?_ ?_
            · go_simp
              (try simp only [i64_w])
              try rfl
            refine hK.out _ _ ⟨(by rw [ha.out]; exact putSel_upk 13 hb_ rfl rfl rfl), Q_HB⟩
          refine steps_cons ?_ ?_
          · rintro b a w' ⟨ha, Q_HB⟩ hb_ hon hoff
            refine ⟨_, rfl, fun K hK => ?_⟩
            have e76 : a.tmps[76]? = some ((.pointer (some ⟨S, 0, none⟩))) := by rw [ha]; exact putSel_on (e := (13, 76, (.pointer (some ⟨S, 0, none⟩)))) 13 rfl rfl (hon 13 (by kernel_rfl)) rfl
            have e75 : a.tmps[75]? = some ((.bool false)) := by rw [ha]; exact putSel_on (e := (12, 75, (.bool false))) 12 rfl rfl (hon 12 (by kernel_rfl)) rfl
            replace ha := Aside0.mk ha
            have HB := Aside0.mk Q_HB
            refine goes_ Try.func33 (by kernel_rfl) rfl #[.pointer (some ⟨S, 0, none⟩)] (wanted_on rfl rfl rfl (e75.trans (by first | rfl | (simp [*]; done)))) rfl rfl (by first | (simp only [List.map_toArray, List.map_cons, List.map_nil, Act.eval, Array.getD_eq_getD_getElem?, Option.getD_some, e76, e75]; done) | (simp only [List.map_toArray, List.map_cons, List.map_nil, Act.eval, Array.getD_eq_getD_getElem?, Option.getD_some, e76, e75]; rfl)) ?_
            refine (HLOST.out _ HB.out).mono ?_
            rintro e w1_ ⟨rfl, hb⟩
            refine ⟨_, rfl, ?_⟩
            refine hK.out _ _ ⟨(by rw [ha.out]; exact putSel_upk 14 hb_ rfl rfl rfl), below_step HB.out hb⟩
          refine steps_cons ?_ ?_
          · rintro b a w' ⟨ha, Q_HB⟩ hb_ hon hoff
            refine ⟨_, rfl, fun K hK => ?_⟩
            have e10 : a.tmps[10]? = some ((.pointer (some ⟨Q, 0, none⟩))) := by rw [ha]; exact (putSel_off rfl).trans rfl
            have e75 : a.tmps[75]? = some ((.bool false)) := by rw [ha]; exact putSel_on (e := (12, 75, (.bool false))) 12 rfl rfl (hon 12 (by kernel_rfl)) rfl
            replace ha := Aside0.mk ha
            have HB := Aside0.mk Q_HB
            refine value_ (w1 := w') (v := (.pointer (some ⟨Q, 2, none⟩))) (wanted_on rfl rfl rfl (e75.trans (by first | rfl | (simp [*]; done)))) rfl ?_ ?_
            · go_simp
              (try simp only [i64_w])
              try rfl
            refine hK.out _ _ ⟨(by rw [ha.out]; exact putSel_upk 15 hb_ rfl rfl rfl), Q_HB⟩
          refine steps_cons ?_ ?_
          · rintro b a w' ⟨ha, Q_HB⟩ hb_ hon hoff
            refine ⟨_, rfl, fun K hK => ?_⟩
            have e78 : a.tmps[78]? = some ((.pointer (some ⟨Q, 2, none⟩))) := by rw [ha]; exact putSel_on (e := (15, 78, (.pointer (some ⟨Q, 2, none⟩)))) 15 rfl rfl (hon 15 (by kernel_rfl)) rfl
            have e75 : a.tmps[75]? = some ((.bool false)) := by rw [ha]; exact putSel_on (e := (12, 75, (.bool false))) 12 rfl rfl (hon 12 (by kernel_rfl)) rfl
            replace ha := Aside0.mk ha
            have HB := Aside0.mk Q_HB
            obtain ⟨c0_, c1_, c2_, c3_⟩ := HALL.out _ HB.out
            refine value_ (w1 := w') (v := (.int .i64 (lo_ : Int))) (wanted_on rfl rfl rfl (e75.trans (by first | rfl | (simp [*]; done)))) rfl ?_ ?_
            · go_simp
              (try simp only [i64_w])
              try rfl
            refine hK.out _ _ ⟨(by rw [ha.out]; exact putSel_upk 16 hb_ rfl rfl rfl), Q_HB⟩
          refine steps_cons ?_ ?_
          · rintro b a w' ⟨ha, Q_HB⟩ hb_ hon hoff
            refine ⟨_, rfl, fun K hK => ?_⟩
            have e77 : a.tmps[77]? = some ((.int .i64 (lo_ : Int))) := by rw [ha]; exact putSel_on (e := (14, 77, (.int .i64 (lo_ : Int)))) 14 rfl rfl (hon 14 (by kernel_rfl)) rfl
            have e79 : a.tmps[79]? = some ((.int .i64 (lo_ : Int))) := by rw [ha]; exact putSel_on (e := (16, 79, (.int .i64 (lo_ : Int)))) 16 rfl rfl (hon 16 (by kernel_rfl)) rfl
            have e75 : a.tmps[75]? = some ((.bool false)) := by rw [ha]; exact putSel_on (e := (12, 75, (.bool false))) 12 rfl rfl (hon 12 (by kernel_rfl)) rfl
            replace ha := Aside0.mk ha
            have HB := Aside0.mk Q_HB
            refine value_ (w1 := w') (v := (.bool false)) (wanted_on rfl rfl rfl (e75.trans (by first | rfl | (simp [*]; done)))) rfl ?_ ?_
            · go_simp
              (try simp only [i64_w])
              try rfl
            refine hK.out _ _ ⟨(by rw [ha.out]; exact putSel_upk 17 hb_ rfl rfl rfl), Q_HB⟩
          refine steps_cons ?_ ?_
          · rintro b a w' ⟨ha, Q_HB⟩ hb_ hon hoff
            refine ⟨_, rfl, fun K hK => ?_⟩
            have e75 : a.tmps[75]? = some ((.bool false)) := by rw [ha]; exact putSel_on (e := (12, 75, (.bool false))) 12 rfl rfl (hon 12 (by kernel_rfl)) rfl
            have e80 : a.tmps[80]? = some ((.bool false)) := by rw [ha]; exact putSel_on (e := (17, 80, (.bool false))) 17 rfl rfl (hon 17 (by kernel_rfl)) rfl
            replace ha := Aside0.mk ha
            have HB := Aside0.mk Q_HB
            refine value_ (w1 := w') (v := (.bool false)) (by rfl) rfl ?_ ?_
            · go_simp
              (try simp only [i64_w])
              try rfl
            refine hK.out _ _ ⟨(by rw [ha.out]; exact putSel_upk 18 hb_ rfl rfl rfl), Q_HB⟩
          refine steps_cons ?_ ?_
          · rintro b a w' ⟨ha, Q_HB⟩ hb_ hon hoff
            refine ⟨_, rfl, fun K hK => ?_⟩
            have e81 : a.tmps[81]? = some ((.bool false)) := by rw [ha]; exact putSel_on (e := (18, 81, (.bool false))) 18 rfl rfl (hon 18 (by kernel_rfl)) rfl
            replace ha := Aside0.mk ha
            have HB := Aside0.mk Q_HB
            refine value_ (w1 := w') (v := (.bool false)) (by rfl) rfl ?_ ?_
            · go_simp
              (try simp only [i64_w])
              try rfl
            refine hK.out _ _ ⟨(by rw [ha.out]; exact putSel_upk 19 hb_ rfl rfl rfl), Q_HB⟩
          refine steps_cons ?_ ?_
          · rintro b a w' ⟨ha, Q_HB⟩ hb_ hon hoff
            refine ⟨_, rfl, fun K hK => ?_⟩
            have e5 : a.tmps[5]? = some ((.pointer (some ⟨S, 0, none⟩))) := by rw [ha]; exact (putSel_off rfl).trans rfl
            have e82 : a.tmps[82]? = some ((.bool false)) := by rw [ha]; exact putSel_on (e := (19, 82, (.bool false))) 19 rfl rfl (hon 19 (by kernel_rfl)) rfl
            replace ha := Aside0.mk ha
            have HB := Aside0.mk Q_HB
            refine value_ (w1 := w') (v := (.pointer (some ⟨S, 0, none⟩))) (wanted_on rfl rfl rfl (e82.trans (by first | rfl | (simp [*]; done)))) rfl ?_ ?_
            · go_simp
              (try simp only [i64_w])
              try rfl
            refine hK.out _ _ ⟨(by rw [ha.out]; exact putSel_upk 20 hb_ rfl rfl rfl), Q_HB⟩
          refine steps_cons ?_ ?_
          · rintro b a w' ⟨ha, Q_HB⟩ hb_ hon hoff
            refine ⟨_, rfl, fun K hK => ?_⟩
            have e83 : a.tmps[83]? = some ((.pointer (some ⟨S, 0, none⟩))) := by rw [ha]; exact putSel_on (e := (20, 83, (.pointer (some ⟨S, 0, none⟩)))) 20 rfl rfl (hon 20 (by kernel_rfl)) rfl
            have e82 : a.tmps[82]? = some ((.bool false)) := by rw [ha]; exact putSel_on (e := (19, 82, (.bool false))) 19 rfl rfl (hon 19 (by kernel_rfl)) rfl
            replace ha := Aside0.mk ha
            have HB := Aside0.mk Q_HB
            refine goes_ Try.func34 (by kernel_rfl) rfl #[.pointer (some ⟨S, 0, none⟩)] (wanted_on rfl rfl rfl (e82.trans (by first | rfl | (simp [*]; done)))) rfl rfl (by first | (simp only [List.map_toArray, List.map_cons, List.map_nil, Act.eval, Array.getD_eq_getD_getElem?, Option.getD_some, e83, e82]; done) | (simp only [List.map_toArray, List.map_cons, List.map_nil, Act.eval, Array.getD_eq_getD_getElem?, Option.getD_some, e83, e82]; rfl)) ?_
            refine (HBRK.out _ HB.out).mono ?_
            rintro e w1_ ⟨rfl, hb⟩
            refine ⟨_, rfl, ?_⟩
            refine hK.out _ _ ⟨(by rw [ha.out]; exact putSel_upk 21 hb_ rfl rfl rfl), below_step HB.out hb⟩
          refine steps_cons ?_ ?_
          · rintro b a w' ⟨ha, Q_HB⟩ hb_ hon hoff
            refine ⟨_, rfl, fun K hK => ?_⟩
            have e10 : a.tmps[10]? = some ((.pointer (some ⟨Q, 0, none⟩))) := by rw [ha]; exact (putSel_off rfl).trans rfl
            have e82 : a.tmps[82]? = some ((.bool false)) := by rw [ha]; exact putSel_on (e := (19, 82, (.bool false))) 19 rfl rfl (hon 19 (by kernel_rfl)) rfl
            replace ha := Aside0.mk ha
            have HB := Aside0.mk Q_HB
            refine value_ (w1 := w') (v := (.pointer (some ⟨Q, 3, none⟩))) (wanted_on rfl rfl rfl (e82.trans (by first | rfl | (simp [*]; done)))) rfl ?_ ?_
            · go_simp
              (try simp only [i64_w])
              try rfl
            refine hK.out _ _ ⟨(by rw [ha.out]; exact putSel_upk 22 hb_ rfl rfl rfl), Q_HB⟩
          refine steps_cons ?_ ?_
          · rintro b a w' ⟨ha, Q_HB⟩ hb_ hon hoff
            refine ⟨_, rfl, fun K hK => ?_⟩
            have e85 : a.tmps[85]? = some ((.pointer (some ⟨Q, 3, none⟩))) := by rw [ha]; exact putSel_on (e := (22, 85, (.pointer (some ⟨Q, 3, none⟩)))) 22 rfl rfl (hon 22 (by kernel_rfl)) rfl
            have e82 : a.tmps[82]? = some ((.bool false)) := by rw [ha]; exact putSel_on (e := (19, 82, (.bool false))) 19 rfl rfl (hon 19 (by kernel_rfl)) rfl
            replace ha := Aside0.mk ha
            have HB := Aside0.mk Q_HB
            obtain ⟨c0_, c1_, c2_, c3_⟩ := HALL.out _ HB.out
            refine value_ (w1 := w') (v := (.bool bk)) (wanted_on rfl rfl rfl (e82.trans (by first | rfl | (simp [*]; done)))) rfl ?_ ?_
            · go_simp
              (try simp only [i64_w])
              try rfl
            refine hK.out _ _ ⟨(by rw [ha.out]; exact putSel_upk 23 hb_ rfl rfl rfl), Q_HB⟩
          refine steps_cons ?_ ?_
          · rintro b a w' ⟨ha, Q_HB⟩ hb_ hon hoff
            refine ⟨_, rfl, fun K hK => ?_⟩
            have e84 : a.tmps[84]? = some ((.bool bk)) := by rw [ha]; exact putSel_on (e := (21, 84, (.bool bk))) 21 rfl rfl (hon 21 (by kernel_rfl)) rfl
            have e86 : a.tmps[86]? = some ((.bool bk)) := by rw [ha]; exact putSel_on (e := (23, 86, (.bool bk))) 23 rfl rfl (hon 23 (by kernel_rfl)) rfl
            have e82 : a.tmps[82]? = some ((.bool false)) := by rw [ha]; exact putSel_on (e := (19, 82, (.bool false))) 19 rfl rfl (hon 19 (by kernel_rfl)) rfl
            replace ha := Aside0.mk ha
            have HB := Aside0.mk Q_HB
            refine value_ (w1 := w') (v := (.bool false)) (wanted_on rfl rfl rfl (e82.trans (by first | rfl | (simp [*]; done)))) rfl ?_ ?_
            · go_simp
              (try simp only [i64_w])
              try rfl
            refine hK.out _ _ ⟨(by rw [ha.out]; exact putSel_upk 24 hb_ rfl rfl rfl), Q_HB⟩
          refine steps_cons ?_ ?_
          · rintro b a w' ⟨ha, Q_HB⟩ hb_ hon hoff
            refine ⟨_, rfl, fun K hK => ?_⟩
            have e82 : a.tmps[82]? = some ((.bool false)) := by rw [ha]; exact putSel_on (e := (19, 82, (.bool false))) 19 rfl rfl (hon 19 (by kernel_rfl)) rfl
            have e87 : a.tmps[87]? = some ((.bool false)) := by rw [ha]; exact putSel_on (e := (24, 87, (.bool false))) 24 rfl rfl (hon 24 (by kernel_rfl)) rfl
            replace ha := Aside0.mk ha
            have HB := Aside0.mk Q_HB
            refine value_ (w1 := w') (v := (.bool false)) (by rfl) rfl ?_ ?_
            · go_simp
              (try simp only [i64_w])
              try rfl
            refine hK.out _ _ ⟨(by rw [ha.out]; exact putSel_upk 25 hb_ rfl rfl rfl), Q_HB⟩
          exact steps_nil
        rintro b a we hall ⟨ha, Q_HB⟩
        clear HB
        have hb0_ := hall 0 (by kernel_rfl)
        have hb1_ := hall 1 (by kernel_rfl)
        have hb2_ := hall 2 (by kernel_rfl)
        have hb3_ := hall 3 (by kernel_rfl)
        have hb4_ := hall 4 (by kernel_rfl)
        have hb5_ := hall 5 (by kernel_rfl)
        have hb6_ := hall 6 (by kernel_rfl)
        have hb7_ := hall 7 (by kernel_rfl)
        have hb8_ := hall 8 (by kernel_rfl)
        have hb9_ := hall 9 (by kernel_rfl)
        have hb10_ := hall 10 (by kernel_rfl)
        have hb11_ := hall 11 (by kernel_rfl)
        have hb12_ := hall 12 (by kernel_rfl)
        have hb13_ := hall 13 (by kernel_rfl)
        have hb14_ := hall 14 (by kernel_rfl)
        have hb15_ := hall 15 (by kernel_rfl)
        have hb16_ := hall 16 (by kernel_rfl)
        have hb17_ := hall 17 (by kernel_rfl)
        have hb18_ := hall 18 (by kernel_rfl)
        have hb19_ := hall 19 (by kernel_rfl)
        have hb20_ := hall 20 (by kernel_rfl)
        have hb21_ := hall 21 (by kernel_rfl)
        have hb22_ := hall 22 (by kernel_rfl)
        have hb23_ := hall 23 (by kernel_rfl)
        have hb24_ := hall 24 (by kernel_rfl)
        have hb25_ := hall 25 (by kernel_rfl)
        subst ha
        simp only [putSel, hb0_, hb1_, hb2_, hb3_, hb4_, hb5_, hb6_, hb7_, hb8_, hb9_, hb10_, hb11_, hb12_, hb13_, hb14_, hb15_, hb16_, hb17_, hb18_, hb19_, hb20_, hb21_, hb22_, hb23_, hb24_, hb25_, if_true, Act.put, List.setIfInBounds_toArray, List.set_cons_zero, List.set_cons_succ]
        have HB := Aside0.mk Q_HB
        clear Q_HB
        clear hall hb0_ hb1_ hb2_ hb3_ hb4_ hb5_ hb6_ hb7_ hb8_ hb9_ hb10_ hb11_ hb12_ hb13_ hb14_ hb15_ hb16_ hb17_ hb18_ hb19_ hb20_ hb21_ hb22_ hb23_ hb24_ hb25_
        go_wp2_with fail
        go_roundw
        case rel => exact ⟨_, i + 1, vn, HTO.out.1, by have := HLT.out; omega, rfl, by go_num, rfl, by rw [← HTO.out.2]; exact HST5.out.below HB.out⟩
        case measure => (have := HLT.out; simp [intOf]; omega)
    · have hlt' : ¬ (i : Int) ≤ (m : Int) := by omega
      go_wp2_with fail
      refine (WireLives.lives_c _).mono ?_
      rintro e w2 ⟨rfl, hb⟩
      have HLO := Aside0.mk (show Below S w w2 from HST.out.lo.trans (hb.mono (by have := HST.out.size; omega)))
      rw [HSE.out] at HLO
      clear hb hst
      go_wp2_with fail
      go_ret
      exact ⟨rfl, HLO.out⟩
end Go.Proofs.Ytedfcjcnhgomoaa.WireFd
end
-- MERGED YtedfcjcnhgomoaaOpens
section
/- Arguments of any shape, opened: what a datum's cells read as, by the kind of its type. -/
namespace Go.Proofs.Ytedfcjcnhgomoaa.Opens
open Go.ChangeShapes Go.WideShapes Go.Deep Go.RowKit Go.Proofs.YtedfcjcnhgomoaaW.PrintWords

/-- What is read as a datum of type t has cells of the kind d, and what they say is right. -/
def Opens {α : Type} (P : Program) (t : TypeId) (d : Kd α) (ok : α → Prop) : Prop :=
  P.cellsOf t = d.sz ∧ ∀ (H : Type) (enc : TypeId × Value → H) (w : World) (base : Nat) (sp : Nat → Bool) (held : Bool) (fuel : Nat) (cs : List Value) (x : DataW H × List MemPlace),
    DataW.trod enc P w base sp held fuel t cs = some x → ∃ a : α, d.K w a cs ∧ ok a
theorem list_of {α : Type} (Q : Nat → α → Prop) : ∀ len : Nat, (∀ i, i < len → ∃ x, Q i x) → ∃ l : List α, l.length = len ∧ ∀ i x, l[i]? = some x → Q i x
  | 0, _ => ⟨[], rfl, fun i x hx => by simp at hx⟩
  | k + 1, each => by
    obtain ⟨l, hl, hf⟩ := list_of Q k (fun i hi => each i (by omega))
    obtain ⟨x, h1⟩ := each k (by omega)
    refine ⟨l ++ [x], by simp [hl], fun i y hy => ?_⟩
    by_cases hik : i < l.length
    · rw [List.getElem?_append_left hik] at hy
      exact hf i y hy
    · rw [List.getElem?_append_right (by omega)] at hy
      have hi0 : i - l.length = 0 := by
        rcases Nat.eq_zero_or_pos (i - l.length) with h | h
        · exact h
        · rw [List.getElem?_eq_none (by simp; omega)] at hy; cases hy
      rw [hi0] at hy
      obtain rfl : x = y := by simpa using hy
      obtain rfl : i = k := by omega
      exact h1
section
variable {P : Program} {t e : TypeId} {α β γ δ : Type}
theorem int_ {k : IntKind} (ht : P.underlying t = some (.int k)) (hc : P.cellsOf t = 1) : Opens P t (Kd.int k) (fun n => (Lit.int k n).wf = true) :=
  ⟨hc, fun _ _ _ _ _ _ _ _ _ h => by
    obtain ⟨n, rfl, _, hw⟩ := DataW.trod_int ht h
    exact ⟨n, rfl, hw⟩⟩
theorem string_ (ht : P.underlying t = some .string) (hc : P.cellsOf t = 1) : Opens P t Kd.string (fun s => s.size ≤ maxLen) :=
  ⟨hc, fun _ _ _ _ _ _ _ _ _ h => by
    obtain ⟨n, rfl, _, hw⟩ := DataW.trod_string ht h
    exact ⟨n, rfl, hw⟩⟩
theorem bool_ (ht : P.underlying t = some .bool) (hc : P.cellsOf t = 1) : Opens P t Kd.bool (fun _ => True) :=
  ⟨hc, fun _ _ _ _ _ _ _ _ _ h => by
    obtain ⟨n, rfl, _⟩ := DataW.trod_bool ht h
    exact ⟨n, rfl, trivial⟩⟩
theorem slice_ {d : Kd α} {ok : α → Prop} (ht : P.underlying t = some (.slice e)) (hc : P.cellsOf t = 1) (he : Opens P e d ok) : Opens P t (Kd.slice e d) (fun l => l.length ≤ maxLen ∧ ∀ x ∈ l, ok x) := by
  refine ⟨hc, fun H enc w base sp held fuel cs x h => ?_⟩
  rcases open_slice ht h with ⟨rfl, _⟩ | ⟨a, len, cap, m, n, D, Pl, rfl, hb, hl, hm, hmm, _, hi⟩
  · refine ⟨[], ⟨none, 0, rfl, Nat.le_refl _, rfl, Nat.zero_le _, fun h => absurd h (by simp)⟩, Nat.zero_le _, fun _ h => by cases h⟩
  · have hlm : len ≤ m := by rw [hmm]; split <;> omega
    have each : ∀ i, i < len → ∃ (x : α) (cs' : List Value), w.cells? base (a.add (i * P.cellsOf e)) (P.cellsOf e) = some cs' ∧ d.K w x cs' ∧ ok x := by
      intro i hlt
      obtain ⟨cs', h1, h2⟩ := hi i (by omega)
      obtain ⟨x, h3, h4⟩ := he.2 H enc w base sp held n cs' _ h2
      exact ⟨x, cs', h1, h3, h4⟩
    have hex := list_of (fun i x => ∃ cs' : List Value, w.cells? base (a.add (i * P.cellsOf e)) (P.cellsOf e) = some cs' ∧ d.K w x cs' ∧ ok x) len each
    obtain ⟨l, hll, hf⟩ := hex
    subst hll
    refine ⟨l, ⟨some a, cap, rfl, hl, rfl, ?_, fun _ => ⟨a, rfl, fun j p hj => ?_⟩⟩, by omega, fun x hx => ?_⟩
    · unfold maxLen at hm; omega
    · obtain ⟨cs', h1, h2, _⟩ := hf j p hj
      obtain ⟨_, h3, h4⟩ := World.cells?_some h1
      refine ⟨cs', d.K_len h2, h2, fun i u hu => ?_⟩
      have hil : i < P.cellsOf e := by
        have := (List.getElem?_eq_some_iff.1 hu).1
        omega
      rw [← Go.Deep.add_add, ← he.1, h4 i hil, hu]
    · obtain ⟨i, hi⟩ := List.getElem?_of_mem hx
      obtain ⟨_, _, _, h⟩ := hf i x hi
      exact h
theorem struct2_ {d0 : Kd α} {d1 : Kd β} {ok0 : α → Prop} {ok1 : β → Prop} {f0 f1 : Field} (ht : P.underlying t = some (.struct #[f0, f1])) (hc : P.cellsOf t = d0.sz + d1.sz) (h0 : Opens P f0.type d0 ok0) (h1 : Opens P f1.type d1 ok1) (o0 : f0.offset = 0) (o1 : f1.offset = d0.sz) :
    Opens P t (Kd.pair d0 d1) (fun x => ok0 x.1 ∧ ok1 x.2) := by
  refine ⟨hc, fun H enc w base sp held fuel cs x h => ?_⟩
  obtain ⟨ys, n, _, _, hl, hyl, hf⟩ := DataW.trod_struct ht h
  have g0 := hf 0 f0 rfl
  have g1 := hf 1 f1 rfl
  simp only [List.size_toArray, List.length_cons, List.length_nil] at hyl
  rw [List.getElem?_eq_getElem (by omega)] at g0 g1
  obtain ⟨a, ka, oa⟩ := h0.2 _ _ _ _ _ _ _ _ _ g0
  obtain ⟨b, kb, ob⟩ := h1.2 _ _ _ _ _ _ _ _ _ g1
  refine ⟨(a, b), ⟨_, _, ?_, ka, kb⟩, oa, ob⟩
  rw [o0, o1, h0.1, h1.1, List.drop_zero]
  rw [hc] at hl
  have e1 : (cs.drop d0.sz).take d1.sz = cs.drop d0.sz := List.take_of_length_le (by rw [List.length_drop]; omega)
  rw [e1, List.take_append_drop]
theorem struct3_ {d0 : Kd α} {d1 : Kd β} {d2 : Kd γ} {ok0 : α → Prop} {ok1 : β → Prop} {ok2 : γ → Prop} {f0 f1 f2 : Field} (ht : P.underlying t = some (.struct #[f0, f1, f2])) (hc : P.cellsOf t = d0.sz + (d1.sz + d2.sz)) (h0 : Opens P f0.type d0 ok0) (h1 : Opens P f1.type d1 ok1) (h2 : Opens P f2.type d2 ok2)
    (o0 : f0.offset = 0) (o1 : f1.offset = d0.sz) (o2 : f2.offset = d0.sz + d1.sz) : Opens P t (Kd.pair d0 (Kd.pair d1 d2)) (fun x => ok0 x.1 ∧ ok1 x.2.1 ∧ ok2 x.2.2) := by
  refine ⟨hc, fun H enc w base sp held fuel cs x h => ?_⟩
  obtain ⟨ys, n, _, _, hl, hyl, hf⟩ := DataW.trod_struct ht h
  have g0 := hf 0 f0 rfl
  have g1 := hf 1 f1 rfl
  have g2 := hf 2 f2 rfl
  simp only [List.size_toArray, List.length_cons, List.length_nil] at hyl
  rw [List.getElem?_eq_getElem (by omega)] at g0 g1 g2
  obtain ⟨a, ka, oa⟩ := h0.2 _ _ _ _ _ _ _ _ _ g0
  obtain ⟨b, kb, ob⟩ := h1.2 _ _ _ _ _ _ _ _ _ g1
  obtain ⟨c, kc, oc⟩ := h2.2 _ _ _ _ _ _ _ _ _ g2
  refine ⟨(a, b, c), ⟨_, _, ?_, ka, _, _, rfl, kb, kc⟩, oa, ob, oc⟩
  rw [o0, o1, o2, h0.1, h1.1, h2.1, List.drop_zero]
  rw [hc] at hl
  have e1 : (cs.drop (d0.sz + d1.sz)).take d2.sz = cs.drop (d0.sz + d1.sz) := List.take_of_length_le (by rw [List.length_drop]; omega)
  rw [e1, ← List.drop_drop, List.take_append_drop, List.take_append_drop]
theorem struct4_ {d0 : Kd α} {d1 : Kd β} {d2 : Kd γ} {d3 : Kd δ} {ok0 : α → Prop} {ok1 : β → Prop} {ok2 : γ → Prop} {ok3 : δ → Prop} {f0 f1 f2 f3 : Field} (ht : P.underlying t = some (.struct #[f0, f1, f2, f3])) (hc : P.cellsOf t = d0.sz + (d1.sz + (d2.sz + d3.sz)))
    (h0 : Opens P f0.type d0 ok0) (h1 : Opens P f1.type d1 ok1) (h2 : Opens P f2.type d2 ok2) (h3 : Opens P f3.type d3 ok3) (o0 : f0.offset = 0) (o1 : f1.offset = d0.sz) (o2 : f2.offset = d0.sz + d1.sz) (o3 : f3.offset = d0.sz + d1.sz + d2.sz) :
    Opens P t (Kd.pair d0 (Kd.pair d1 (Kd.pair d2 d3))) (fun x => ok0 x.1 ∧ ok1 x.2.1 ∧ ok2 x.2.2.1 ∧ ok3 x.2.2.2) := by
  refine ⟨hc, fun H enc w base sp held fuel cs x h => ?_⟩
  obtain ⟨ys, n, _, _, hl, hyl, hf⟩ := DataW.trod_struct ht h
  have g0 := hf 0 f0 rfl
  have g1 := hf 1 f1 rfl
  have g2 := hf 2 f2 rfl
  have g3 := hf 3 f3 rfl
  simp only [List.size_toArray, List.length_cons, List.length_nil] at hyl
  rw [List.getElem?_eq_getElem (by omega)] at g0 g1 g2 g3
  obtain ⟨a, ka, oa⟩ := h0.2 _ _ _ _ _ _ _ _ _ g0
  obtain ⟨b, kb, ob⟩ := h1.2 _ _ _ _ _ _ _ _ _ g1
  obtain ⟨c, kc, oc⟩ := h2.2 _ _ _ _ _ _ _ _ _ g2
  obtain ⟨q, kq, oq⟩ := h3.2 _ _ _ _ _ _ _ _ _ g3
  refine ⟨(a, b, c, q), ⟨_, _, ?_, ka, _, _, rfl, kb, _, _, rfl, kc, kq⟩, oa, ob, oc, oq⟩
  rw [o0, o1, o2, o3, h0.1, h1.1, h2.1, h3.1, List.drop_zero]
  rw [hc] at hl
  have e1 : (cs.drop (d0.sz + d1.sz + d2.sz)).take d3.sz = cs.drop (d0.sz + d1.sz + d2.sz) := List.take_of_length_le (by rw [List.length_drop]; omega)
  rw [e1, ← List.drop_drop (i := d2.sz), List.take_append_drop, ← List.drop_drop, List.take_append_drop, List.take_append_drop]
/-- A parameter of such a type. -/
theorem arg_ {d : Kd α} {ok : α → Prop} (ho : Opens P t d ok) {H : Type} {enc : TypeId × Value → H} {w : World} {base : Nat} {sp : Nat → Bool} {held : Bool} {v : Value} {x : DataW H} {ps : List MemPlace} (h : DataW.Trod enc P w base sp held t v x ps) : ∃ a : α, d.K w a v.cells.toList ∧ ok a := by
  obtain ⟨fuel, hf⟩ := h
  exact ho.2 _ _ _ _ _ _ _ _ _ hf
end
theorem slice_shape {α : Type} {e : Nat} {d : Kd α} {w : World} {a : Option Addr} {n c : Nat} {l : List α} (h : (Kd.slice e d).K w l (Value.slice a n c).cells.toList) : n = l.length ∧ l.length ≤ c ∧ Kd.C d w a l.length l := by
  obtain ⟨A, c', e1, hc, hC⟩ := h
  simp only [Value.cells, List.cons.injEq, Value.slice.injEq] at e1
  obtain ⟨⟨rfl, rfl, rfl⟩, _⟩ := e1
  exact ⟨rfl, hc, hC⟩
end Go.Proofs.Ytedfcjcnhgomoaa.Opens
end
-- MERGED YtedfcjcnhgomoaaLawWireFeeds
section
/- Any bytes, in whatever pieces they come, are told as the packets that the document says, in order; how many wait, how many frames were lost, and whether all is broken, is as it says at each moment. -/
namespace Go.Proofs.Ytedfcjcnhgomoaa.wireFeeds
open Go.ChangeShapes Go.WideShapes Go.ChangeAt Go.RowKit Go.Proofs.YtedfcjcnhgomoaaW.PrintWords
open Go.ChangeMaps (open_string shut_string)
set_option linter.unusedVariables false
theorem own : ownKnob Try.prog.godebug = none := by kernel_rfl
theorem laidOut : laidOutB Try.prog = true := by kernel_rfl
theorem o5 : Opens.Opens Try.prog 5 (Kd.int .u8) (fun n => (Lit.int .u8 n).wf = true) := Opens.int_ (t := 5) Try.underlying5 (by kernel_rfl)
theorem o25 : Opens.Opens Try.prog 25 (Kd.slice 5 (Kd.int .u8)) (fun l => l.length ≤ maxLen ∧ ∀ x ∈ l, (fun n => (Lit.int .u8 n).wf = true) x) := Opens.slice_ (t := 25) (e := 5) Try.underlying25 (by kernel_rfl) o5
theorem o3 : Opens.Opens Try.prog 3 (Kd.int .i64) (fun n => (Lit.int .i64 n).wf = true) := Opens.int_ (t := 3) Try.underlying3 (by kernel_rfl)
theorem o49 : Opens.Opens Try.prog 49 (Kd.slice 3 (Kd.int .i64)) (fun l => l.length ≤ maxLen ∧ ∀ x ∈ l, (fun n => (Lit.int .i64 n).wf = true) x) := Opens.slice_ (t := 49) (e := 3) Try.underlying49 (by kernel_rfl) o3
set_option maxRecDepth 100000 in
theorem lifted (os : Os) (started : os.Started) (H : Type) (enc : TypeId × Value → H) :
    ReturnsInHanded {} Try.checked os 8 .any (Rows.wireFeedsSpec.pre6 enc Try.prog Try.f8 Rows.wireFeedsRow.domain false) (Rows.wireFeedsSpec.post enc Try.prog Try.f8 false true false false) := by
  refine returnsInHanded_of_change_sized (C := Try.checked) own started (by kernel_rfl) Try.func8
    (ChangeSpec.witness6 (enc := enc) (C := Try.checked) false ⟨#[], #[(.slice none 0 0), (.slice none 0 0)], []⟩ 8 (by kernel_rfl) (by kernel_rfl) (by kernel_rfl) (by kernel_rfl)) ?_
  intro W base args ds gs before hval0 hW hcnd hsz0 _
  have hsz : (DataW.weightsEach Try.prog (Try.f8.params.toList ++ Rows.wireFeedsSpec.plain.varTypes Try.prog) (ds ++ gs)).all (· ≤ reachBytes) = true := hsz0
  have hval : ∀ (j : Nat) t v, Try.f8.params[j]? = some t → args[j]? = some v → Value.okWide Try.prog W .any base t v := hval0
  have hW' := hW
  obtain ⟨p, q, hA0, hV, rfl, hfz, hnd⟩ := hW
  have hA : DataW.TrodAll enc Try.prog W 0 (fun _ => true) true Try.f8.params.toList args.toList ds p := hA0
  rw [Try.params8] at hA hval hsz
  obtain ⟨v0, vs0, d0, ds0, p0, q0, hargs, rfl, rfl, h0, r0⟩ := trodAll_cons hA
  obtain ⟨v1, vs1, d1, ds1, p1, q1, rfl, rfl, rfl, h1, r1⟩ := trodAll_cons r0
  obtain ⟨rfl, rfl, rfl⟩ := trodAll_nil r1
  obtain rfl : args = #[v0, v1] := by cases args; simp_all
  obtain ⟨rfl, rfl⟩ := trodVars_none hV
  obtain ⟨a0, len0, cap0, rfl⟩ := okWide_slice Try.underlying25 (hval 0 25 v0 rfl rfl)
  have k0 := h0
  have lt0 : ∀ x ∈ p0, x.block < W.heap.size := by obtain ⟨m, hm⟩ := k0; exact DataW.trod_lt m _ _ _ hm
  obtain ⟨x0, hK0, ok0⟩ := Opens.arg_ o25 h0
  obtain ⟨rfl, hc0, hC0⟩ := Opens.slice_shape hK0
  have y0 : x0.length * 1 ≤ 140737488351232 := Go.Proofs.YtedfcjcnhgomoaaW.PrintWords.sized_ints hsz (j := 0) (t := 25) rfl rfl Try.underlying25 Try.underlying5 (by kernel_rfl) (by kernel_rfl) k0
  obtain ⟨a1, len1, cap1, rfl⟩ := okWide_slice Try.underlying49 (hval 1 49 v1 rfl rfl)
  have k1 := h1
  have lt1 : ∀ x ∈ p1, x.block < W.heap.size := by obtain ⟨m, hm⟩ := k1; exact DataW.trod_lt m _ _ _ hm
  obtain ⟨x1, hK1, ok1⟩ := Opens.arg_ o49 h1
  obtain ⟨rfl, hc1, hC1⟩ := Opens.slice_shape hK1
  have y1 : x1.length * 8 ≤ 140737488351232 := Go.Proofs.YtedfcjcnhgomoaaW.PrintWords.sized_ints hsz (j := 1) (t := 49) rfl rfl Try.underlying49 Try.underlying3 (by kernel_rfl) (by kernel_rfl) k1
  clear hA0 hval0 hsz0 hsz
  refine (WireFd.row a0 cap0 x0 a1 cap1 x1 W hC0 hc0 ok0 y0 hC1 hc1 ok1 y1).mono fun e W' ⟨he, bel⟩ => ?_
  subst he
  exact ⟨_, rfl, _, _, _, [], _, [], hW', trodAll_mk1 (shut_bool Try.underlying4 _), (trodAll_cons_mk (Below.trod laidOut (by kernel_rfl) (of_decide_eq_true (by kernel_rfl)) k0 bel lt0) (trodAll_cons_mk (Below.trod laidOut (by kernel_rfl) (of_decide_eq_true (by kernel_rfl)) k1 bel lt1) trodAll_mk0)), rfl, bel.frame _, fun h => by cases h⟩
theorem over : Rows.wireFeedsRow.holds Try.pinned (OpenSpec.ofChange Rows.wireFeedsSpec) :=
  OpenClaim.holds_of_wide 8 Try.f8 rfl rfl rfl rfl rfl rfl rfl ⟨rfl, rfl, rfl, rfl, rfl⟩ rfl rfl rfl rfl rfl (by kernel_rfl) Try.func8 (by kernel_rfl)
    (of_decide_eq_true (by kernel_rfl)) (by unfold Func.isWrapper; first | (rw [if_pos (by decide +kernel)]; kernel_rfl) | (rw [if_neg (by decide +kernel)]; exact ⟨rfl, rfl⟩))
    (fun os started H enc _ => lifted os started H enc)
theorem proved : Rows.WireFeedsSaid := over
#print axioms proved
end Go.Proofs.Ytedfcjcnhgomoaa.wireFeeds
namespace Go.Proofs.Ytedfcjcnhgomoaa
/-- The row, under a short name, for the claim. -/
theorem wireFeeds_holds : Rows.WireFeedsSaid := wireFeeds.proved
end Go.Proofs.Ytedfcjcnhgomoaa
end

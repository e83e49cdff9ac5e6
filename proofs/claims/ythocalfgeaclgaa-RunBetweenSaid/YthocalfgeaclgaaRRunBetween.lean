import Derived.Test.YthocalfgeaclgaaRows
import Derived.Test.YthocalfgeaclgaaRA
import Derived.Test.YthocalfgeaclgaaRB
import Derived.Test.YthocalfgeaclgaaRC
import Derived.WalkKit
import Derived.ProofKit
import Derived.OpenShut
import Derived.ShutString
import Derived.ChangeOld
import Derived.Below
import Derived.SizedLaws
-- MERGED YthocalfgeaclgaaPvariorumref06Norm
section
-- Written by wip/myprint.py of this session, over the kit's print.py: a Lean function for each Go function, and the proof that the code comes to it.
namespace Go.Proofs.Ythocalfgeaclgaa.P
open Go.RowKit Go.Proofs.YthocalfgeaclgaaW.PrintWords Go.Proofs.YthocalfgeaclgaaW.PrintLast Go.Proofs.YthocalfgeaclgaaW.PrintMore
attribute [local go_sem] max2_int min2_int max_two min_two max_three min_three max_four min_four   -- for this text's walks alone
set_option linter.unusedVariables false
set_option linter.unusedSimpArgs false

/-! ### variorumref06_Norm: function 58 -/
mutual
def variorumref06_Norm.l0 : Nat → List (S37) → List (S37) → Int → Option ((List (S37)))
  | 0, _, _, _ => none
  | k + 1, x0, x3, x4 => if x4 < (x0.length : Int) then (if 0 ≤ x4 then ((variorumref06_Kind.f k ((rd_T37 x0 x4).f0) ((rd_T37 x0 x4).f1) ((rd_T37 x0 x4).f2)).bind fun t361 => (if t361 > 0 then (if x3.length < 4398046511104 then (variorumref06_Norm.l0 k x0 (x3 ++ [(⟨(rd_T37 x0 x4).f0, (rd_T37 x0 x4).f1, (rd_T37 x0 x4).f2⟩ : S37)]) (wrap64 (x4 + 1))) else (none)) else (variorumref06_Norm.l0 k x0 x3 (wrap64 (x4 + 1))))) else (none)) else ((variorumref06_sums.f k x3).bind fun bt366 => (if bt366.2.2 = true then (variorumref06_Norm.l1 k x3 ([] : List (S37)) (⟨#[]⟩ : ByteArray) 0 0 0) else (some ([] : List (S37)))))
def variorumref06_Norm.l1 : Nat → List (S37) → List (S37) → ByteArray → Int → Int → Int → Option ((List (S37)))
  | 0, _, _, _, _, _, _ => none
  | k + 1, x3, x8, x9, x10, x11, x12 => if x12 ≤ (x3.length : Int) then (if x12 < (x3.length : Int) then (if 0 ≤ x12 then ((variorumref06_Kind.f k ((rd_T37 x3 x12).f0) ((rd_T37 x3 x12).f1) ((rd_T37 x3 x12).f2)).bind fun t370 => (variorumref06_Norm.j2 k x3 x8 x9 x10 x11 x12 (t370 == 1))) else (none)) else (variorumref06_Norm.j2 k x3 x8 x9 x10 x11 x12 false)) else (if x9.toList = ([] : List UInt8) then (variorumref06_Norm.j3 k x8 x10) else (if x8.length < 4398046511104 then (variorumref06_Norm.j3 k (x8 ++ [(⟨0, x9, 0⟩ : S37)]) x10) else (none)))
def variorumref06_Norm.j2 : Nat → List (S37) → List (S37) → ByteArray → Int → Int → Int → Bool → Option ((List (S37)))
  | 0, _, _, _, _, _, _, _ => none
  | k + 1, x3, x8, x9, x10, x11, x12, x57 => if x57 = true then (if x9.toList = ([] : List UInt8) then (if x10 > 0 then (if x8.length < 4398046511104 then (if 0 ≤ x12 then (if x12 < (x3.length : Int) then (variorumref06_Norm.l1 k x3 (x8 ++ [(⟨0, (⟨#[]⟩ : ByteArray), x10⟩ : S37)]) (⟨#[]⟩ : ByteArray) 0 (wrap64 (x11 + ((rd_T37 x3 x12).f0))) (wrap64 (x12 + 1))) else (none)) else (none)) else (none)) else (if 0 ≤ x12 then (if x12 < (x3.length : Int) then (variorumref06_Norm.l1 k x3 x8 (⟨#[]⟩ : ByteArray) 0 (wrap64 (x11 + ((rd_T37 x3 x12).f0))) (wrap64 (x12 + 1))) else (none)) else (none))) else (if x8.length < 4398046511104 then ((some (x8 ++ [(⟨0, x9, 0⟩ : S37)] : List (S37))).bind fun y376 => (if x10 > 0 then (if y376.length < 4398046511104 then (if 0 ≤ x12 then (if x12 < (x3.length : Int) then (variorumref06_Norm.l1 k x3 (y376 ++ [(⟨0, (⟨#[]⟩ : ByteArray), x10⟩ : S37)]) (⟨#[]⟩ : ByteArray) 0 (wrap64 (x11 + ((rd_T37 x3 x12).f0))) (wrap64 (x12 + 1))) else (none)) else (none)) else (none)) else (if 0 ≤ x12 then (if x12 < (x3.length : Int) then (variorumref06_Norm.l1 k x3 y376 (⟨#[]⟩ : ByteArray) 0 (wrap64 (x11 + ((rd_T37 x3 x12).f0))) (wrap64 (x12 + 1))) else (none)) else (none)))) else (none))) else (if x11 > 0 then (if x8.length < 4398046511104 then ((some (x8 ++ [(⟨x11, (⟨#[]⟩ : ByteArray), 0⟩ : S37)] : List (S37))).bind fun y384 => (if x12 < (x3.length : Int) then (if 0 ≤ x12 then (if x9.size + ((rd_T37 x3 x12).f1).size ≤ 9223372036854775807 then (variorumref06_Norm.l1 k x3 y384 (x9 ++ ((rd_T37 x3 x12).f1)) (wrap64 (x10 + ((rd_T37 x3 x12).f2))) 0 (wrap64 (x12 + 1))) else (none)) else (none)) else (variorumref06_Norm.l1 k x3 y384 x9 x10 0 (wrap64 (x12 + 1))))) else (none)) else (if x12 < (x3.length : Int) then (if 0 ≤ x12 then (if x9.size + ((rd_T37 x3 x12).f1).size ≤ 9223372036854775807 then (variorumref06_Norm.l1 k x3 x8 (x9 ++ ((rd_T37 x3 x12).f1)) (wrap64 (x10 + ((rd_T37 x3 x12).f2))) 0 (wrap64 (x12 + 1))) else (none)) else (none)) else (variorumref06_Norm.l1 k x3 x8 x9 x10 0 (wrap64 (x12 + 1)))))
def variorumref06_Norm.j3 : Nat → List (S37) → Int → Option ((List (S37)))
  | 0, _, _ => none
  | k + 1, x8, x10 => if x10 > 0 then (if x8.length < 4398046511104 then ((some (x8 ++ [(⟨0, (⟨#[]⟩ : ByteArray), x10⟩ : S37)] : List (S37))).bind fun y394 => ((variorumref06_Good.f y394).bind fun t397 => (if t397 = true then (some y394) else (some ([] : List (S37)))))) else (none)) else ((variorumref06_Good.f x8).bind fun t398 => (if t398 = true then (some x8) else (some ([] : List (S37)))))
end
def variorumref06_Norm.f (k : Nat) (l0 : List (S37)) : Option ((List (S37))) := variorumref06_Norm.l0 k l0 ([] : List (S37)) 0
theorem variorumref06_Norm.mono_l : ∀ k, (∀ y0 y1 y2, LeO (variorumref06_Norm.l0 k y0 y1 y2) (variorumref06_Norm.l0 (k + 1) y0 y1 y2)) ∧ (∀ y0 y1 y2 y3 y4 y5, LeO (variorumref06_Norm.l1 k y0 y1 y2 y3 y4 y5) (variorumref06_Norm.l1 (k + 1) y0 y1 y2 y3 y4 y5)) ∧ (∀ y0 y1 y2 y3 y4 y5 y6, LeO (variorumref06_Norm.j2 k y0 y1 y2 y3 y4 y5 y6) (variorumref06_Norm.j2 (k + 1) y0 y1 y2 y3 y4 y5 y6)) ∧ (∀ y0 y1, LeO (variorumref06_Norm.j3 k y0 y1) (variorumref06_Norm.j3 (k + 1) y0 y1))
  | 0 => ⟨fun _ _ _ r h => by simp [variorumref06_Norm.l0] at h, fun _ _ _ _ _ _ r h => by simp [variorumref06_Norm.l1] at h, fun _ _ _ _ _ _ _ r h => by simp [variorumref06_Norm.j2] at h, fun _ _ r h => by simp [variorumref06_Norm.j3] at h⟩
  | k + 1 => by
    obtain ⟨ih0, ih1, ih2, ih3⟩ := variorumref06_Norm.mono_l k
    refine ⟨?_, ?_, ?_, ?_⟩
    · intro y0 y1 y2
      unfold variorumref06_Norm.l0
      repeat' first
      | (with_reducible exact ih0 _ _ _)
      | (with_reducible exact ih1 _ _ _ _ _ _)
      | (with_reducible exact ih2 _ _ _ _ _ _ _)
      | (with_reducible exact ih3 _ _)
      | (with_reducible exact variorumref06_Kind.mono _ _ _ _)
      | (with_reducible exact variorumref06_sums.mono _ _)
      | (with_reducible exact LeO.refl _)
      | (with_reducible exact LeO.none _)
      | (with_reducible refine LeO.ite ?_ ?_)
      | (with_reducible refine LeO.bind ?_ (fun _ => ?_))
      | exact ih0 _ _ _
      | exact ih1 _ _ _ _ _ _
      | exact ih2 _ _ _ _ _ _ _
      | exact ih3 _ _
      | exact variorumref06_Kind.mono _ _ _ _
      | exact variorumref06_sums.mono _ _
      | exact LeO.none _
      | refine LeO.ite ?_ ?_
      | refine LeO.bind ?_ (fun _ => ?_)
    · intro y0 y1 y2 y3 y4 y5
      unfold variorumref06_Norm.l1
      repeat' first
      | (with_reducible exact ih0 _ _ _)
      | (with_reducible exact ih1 _ _ _ _ _ _)
      | (with_reducible exact ih2 _ _ _ _ _ _ _)
      | (with_reducible exact ih3 _ _)
      | (with_reducible exact variorumref06_Kind.mono _ _ _ _)
      | (with_reducible exact variorumref06_sums.mono _ _)
      | (with_reducible exact LeO.refl _)
      | (with_reducible exact LeO.none _)
      | (with_reducible refine LeO.ite ?_ ?_)
      | (with_reducible refine LeO.bind ?_ (fun _ => ?_))
      | exact ih0 _ _ _
      | exact ih1 _ _ _ _ _ _
      | exact ih2 _ _ _ _ _ _ _
      | exact ih3 _ _
      | exact variorumref06_Kind.mono _ _ _ _
      | exact variorumref06_sums.mono _ _
      | exact LeO.none _
      | refine LeO.ite ?_ ?_
      | refine LeO.bind ?_ (fun _ => ?_)
    · intro y0 y1 y2 y3 y4 y5 y6
      unfold variorumref06_Norm.j2
      repeat' first
      | (with_reducible exact ih0 _ _ _)
      | (with_reducible exact ih1 _ _ _ _ _ _)
      | (with_reducible exact ih2 _ _ _ _ _ _ _)
      | (with_reducible exact ih3 _ _)
      | (with_reducible exact variorumref06_Kind.mono _ _ _ _)
      | (with_reducible exact variorumref06_sums.mono _ _)
      | (with_reducible exact LeO.refl _)
      | (with_reducible exact LeO.none _)
      | (with_reducible refine LeO.ite ?_ ?_)
      | (with_reducible refine LeO.bind ?_ (fun _ => ?_))
      | exact ih0 _ _ _
      | exact ih1 _ _ _ _ _ _
      | exact ih2 _ _ _ _ _ _ _
      | exact ih3 _ _
      | exact variorumref06_Kind.mono _ _ _ _
      | exact variorumref06_sums.mono _ _
      | exact LeO.none _
      | refine LeO.ite ?_ ?_
      | refine LeO.bind ?_ (fun _ => ?_)
    · intro y0 y1
      unfold variorumref06_Norm.j3
      repeat' first
      | (with_reducible exact ih0 _ _ _)
      | (with_reducible exact ih1 _ _ _ _ _ _)
      | (with_reducible exact ih2 _ _ _ _ _ _ _)
      | (with_reducible exact ih3 _ _)
      | (with_reducible exact variorumref06_Kind.mono _ _ _ _)
      | (with_reducible exact variorumref06_sums.mono _ _)
      | (with_reducible exact LeO.refl _)
      | (with_reducible exact LeO.none _)
      | (with_reducible refine LeO.ite ?_ ?_)
      | (with_reducible refine LeO.bind ?_ (fun _ => ?_))
      | exact ih0 _ _ _
      | exact ih1 _ _ _ _ _ _
      | exact ih2 _ _ _ _ _ _ _
      | exact ih3 _ _
      | exact variorumref06_Kind.mono _ _ _ _
      | exact variorumref06_sums.mono _ _
      | exact LeO.none _
      | refine LeO.ite ?_ ?_
      | refine LeO.bind ?_ (fun _ => ?_)
theorem variorumref06_Norm.mono : ∀ a0 k, LeO (variorumref06_Norm.f k a0) (variorumref06_Norm.f (k + 1) a0) := by
  intro a0 k
  obtain ⟨ih0, ih1, ih2, ih3⟩ := variorumref06_Norm.mono_l k
  unfold variorumref06_Norm.f
  repeat' first
      | (with_reducible exact ih0 _ _ _)
      | (with_reducible exact ih1 _ _ _ _ _ _)
      | (with_reducible exact ih2 _ _ _ _ _ _ _)
      | (with_reducible exact ih3 _ _)
      | (with_reducible exact variorumref06_Kind.mono _ _ _ _)
      | (with_reducible exact variorumref06_sums.mono _ _)
      | (with_reducible exact LeO.refl _)
      | (with_reducible exact LeO.none _)
      | (with_reducible refine LeO.ite ?_ ?_)
      | (with_reducible refine LeO.bind ?_ (fun _ => ?_))
      | exact ih0 _ _ _
      | exact ih1 _ _ _ _ _ _
      | exact ih2 _ _ _ _ _ _ _
      | exact ih3 _ _
      | exact variorumref06_Kind.mono _ _ _ _
      | exact variorumref06_sums.mono _ _
      | exact LeO.none _
      | refine LeO.ite ?_ ?_
      | refine LeO.bind ?_ (fun _ => ?_)
set_option maxHeartbeats 8000000 in
set_option maxRecDepth 100000 in
theorem variorumref06_Norm.calls (k : Nat) (A0 : Option Addr) (c0 : Nat) (l0 : List (S37)) (r : List (S37)) (w : World) (hr0 : Kd.C k37 w A0 l0.length l0) (hc0 : l0.length ≤ c0) (h : variorumref06_Norm.f k l0 = some r) :
    Calls Try.prog 58 #[.slice A0 l0.length c0] w fun e w' => ∃ v0_ : Value, e = .returned (v0_) ∧ Kd.R k37 37 w' w.heap.size (fun _ => True) v0_ r ∧ Below w.heap.size w w' := by
  have hu37 := Try.underlying37
  have HR0 := Aside0.mk hr0
  have HC0 := Aside0.mk hc0
  clear hr0 hc0
  have HB := Aside0.mk (Below.refl w.heap.size w)
  have H : (variorumref06_Norm.l0 k l0 ([] : List (S37)) 0) = some r := h
  clear h
  have H' := Aside0.mk H
  clear H
  go_enter Try.func58, Try.ntmps58
  go_wp2
  go_loopg [3, 4] k (fun kq v3 v4 w' => ∃ (x3_1 : List (S37)) (x4_1 : Int), v4 = .int .i64 x4_1 ∧ Aside0 (variorumref06_Norm.l0 kq l0 x3_1 x4_1 = some r) ∧ Aside0 (kq ≤ k) ∧ Aside0 (Kd.R k37 37 w' w.heap.size (fun _ => True) v3 x3_1) ∧ Aside0 (Below w.heap.size w w'))
  case atStart => exact ⟨(([] : List (S37))), (0), (by first | rfl | (simp; done) | (simp [*]; done)), H', ⟨Nat.le_refl _⟩, ⟨by first | exact Kd.R_nil _ _ _ _ _ | exact Kd.N_nil _ _ _ _ _ | exact Kd.V_nil _ _ _ _ _ | exact Kd.Q_nil _ _ _ _ _ | exact Kd.S_nil _ _ _ _ _⟩, ⟨by repeat (first | (with_reducible first | exact HB.out | apply below_alloc | apply pw_below_drewN | apply below_drew1) | exact HB.out)⟩⟩
  case round =>
    clear H'
    obtain ⟨x3_1, x4_1, rfl, HA, HK1, HO_3, HB⟩ := hrel
    cases gk with
    | zero => exact absurd HA.out (by simp [variorumref06_Norm.l0])
    | succ k1 =>
      have H := HA.out
      clear HA
      simp only [variorumref06_Norm.l0] at H
      by_cases c2 : x4_1 < (l0.length : Int)
      · rw [if_pos c2] at H
        have c2b0 : decide (x4_1 < (l0.length : Int)) = true := decide_eq_true c2
        clear c2
        by_cases c3 : 0 ≤ x4_1
        · rw [if_pos c3] at H
          have c3b0 : decide (0 ≤ x4_1) = true := decide_eq_true c3
          clear c3
          replace H := Option.bind_eq_some_iff.mp H
          obtain ⟨t361, A40, H⟩ := H
          replace H : (if t361 > 0 then (if x3_1.length < 4398046511104 then (variorumref06_Norm.l0 k1 l0 (x3_1 ++ [(⟨(rd_T37 l0 x4_1).f0, (rd_T37 l0 x4_1).f1, (rd_T37 l0 x4_1).f2⟩ : S37)]) (wrap64 (x4_1 + 1))) else (none)) else (variorumref06_Norm.l0 k1 l0 x3_1 (wrap64 (x4_1 + 1)))) = some r := H
          have A4 := Aside0.mk A40
          clear A40
          by_cases c5 : t361 > 0
          · rw [if_pos c5] at H
            have c5b0 : decide (0 < t361) = true := decide_eq_true c5
            clear c5
            by_cases c6 : x3_1.length < 4398046511104
            · rw [if_pos c6] at H
              have LMc6 := Aside0.mk c6
              clear c6
              obtain ⟨y363, hy363⟩ : ∃ y_ : List (S37), y_ = (x3_1 ++ [(⟨(rd_T37 l0 x4_1).f0, (rd_T37 l0 x4_1).f1, (rd_T37 l0 x4_1).f2⟩ : S37)]) := ⟨_, rfl⟩
              replace H : (variorumref06_Norm.l0 k1 l0 y363 (wrap64 (x4_1 + 1))) = some r := by first | (rw [hy363]; with_reducible exact H) | (have H2_ := (Option.bind_some _ _).symm.trans H; rw [hy363]; with_reducible exact H2_) | (have H2_ := (Option.bind_some _ _).symm.trans H; with_reducible exact H2_) | with_reducible exact H | (rw [hy363]; exact H) | exact H
              have Ny363 := Aside0.mk hy363
              clear hy363
              have H' := Aside0.mk H
              clear H
              have p360 : 0 ≤ (x4_1 : Int) := of_decide_eq_true (by first | (with_reducible assumption) | assumption)
              have q360 : x4_1 < (l0.length : Int) := of_decide_eq_true (by first | (with_reducible assumption) | assumption)
              obtain ⟨ad360, e360, hx360_0, hx360_1, hx360_2⟩ := at_T37 HR0.out x4_1 p360 q360
              cases e360
              replace hx360_0 := (HB.out.cell (World.block_lt_of_cell? w _ hx360_0)).trans hx360_0
              replace hx360_1 := (HB.out.cell (World.block_lt_of_cell? w _ hx360_1)).trans hx360_1
              replace hx360_2 := (HB.out.cell (World.block_lt_of_cell? w _ hx360_2)).trans hx360_2
              replace p360 := eq_true p360
              replace q360 := eq_true q360
              go_wp2_with (first | ((with_reducible refine gate_callee (f := 52) rfl ?_); refine goesL_ (some 23) rfl rfl Try.func52 (by kernel_rfl) rfl #[.agg #[.int .i64 ((rd_T37 l0 x4_1).f0), .string ((rd_T37 l0 x4_1).f1), .int .i64 ((rd_T37 l0 x4_1).f2)]] rfl (by (try simp only [List.map_toArray, List.map_cons, List.map_nil]); first | done | rfl | (simp only [List.length_drop, List.length_take]; rfl)) ?_; (with_reducible refine (variorumref06_Kind.calls k1 ((rd_T37 l0 x4_1).f0) ((rd_T37 l0 x4_1).f1) ((rd_T37 l0 x4_1).f2) t361 _ A4.out).mono ?_); rintro e w7 ⟨rfl, hb⟩; refine ⟨_, rfl, ?_⟩; have n0_ := Aside0.mk (Kd.R_below (by (with_reducible repeat (first | apply Kd.R_alloc | apply Kd.R_drewN | apply Kd.R_drew)); exact HO_3.out) hb); have n1_ := Aside0.mk (below_step (by repeat (first | (with_reducible first | exact HB.out | apply below_alloc | apply pw_below_drewN | apply below_drew1) | exact HB.out)) hb); clear HO_3; clear HB; have HO_3 := n0_; have HB := n1_; clear n0_ n1_; (try clear hb); (try clear hb2); (try clear hk); (try clear hi); have p362 : 0 ≤ (x4_1 : Int) := of_decide_eq_true (by first | (with_reducible assumption) | assumption); have q362 : x4_1 < (l0.length : Int) := of_decide_eq_true (by first | (with_reducible assumption) | assumption); obtain ⟨ad362, e362, hx362_0, hx362_1, hx362_2⟩ := at_T37 HR0.out x4_1 p362 q362; obtain rfl : ad360 = ad362 := (by injection e362); replace hx362_0 := (HB.out.cell (World.block_lt_of_cell? w _ hx362_0)).trans hx362_0; replace hx362_1 := (HB.out.cell (World.block_lt_of_cell? w _ hx362_1)).trans hx362_1; replace hx362_2 := (HB.out.cell (World.block_lt_of_cell? w _ hx362_2)).trans hx362_2; replace p362 := eq_true p362; replace q362 := eq_true q362) | ((with_reducible refine gate_builtin (b := .append) (xs := #[.tmp 25, .tmp 30]) rfl ?_); at_builtin; refine Kd.R_append k37 (w0 := w) w.heap.size rfl (.tmp 25) (.tmp 30) 22 37 (.agg #[(.int .i64 0), (.string ⟨#[]⟩), (.int .i64 0)]) 32 rfl Try.underlying22 info37 rfl (by decide) (by omega) u3 x3_1 (⟨(rd_T37 l0 x4_1).f0, (rd_T37 l0 x4_1).f1, (rd_T37 l0 x4_1).f2⟩ : S37) [.int .i64 ((rd_T37 l0 x4_1).f0), .string ((rd_T37 l0 x4_1).f1), .int .i64 ((rd_T37 l0 x4_1).f2)] (fun _ => True) (fun _ => False) rfl rfl ?aP (fun _ hk => hk.elim) ?aF ?aO ?aB ?aS ?aL ?_; (case aP => exact k37_mkM _ _ _ (⟨(rd_T37 l0 x4_1).f0, (rd_T37 l0 x4_1).f1, (rd_T37 l0 x4_1).f2⟩ : S37)); (case aB => exact (by repeat (first | (with_reducible first | exact HB.out | apply below_alloc | apply pw_below_drewN | apply below_drew1) | exact HB.out))); (case aF => exact (fun _ _ => trivial)); (case aO => exact (by (with_reducible repeat (first | apply Kd.R_alloc | apply Kd.R_drewN | apply Kd.R_drew)); exact HO_3.out)); (case aS => exact (below_size (by repeat (first | (with_reducible first | exact HB.out | apply below_alloc | apply pw_below_drewN | apply below_drew1) | exact HB.out)))); (case aL => have := LMc6.out; omega); intro v364 w8 ho hb hg hat; rw [← Ny363.out] at ho; have n0_ := Aside0.mk (hb); have n1_ := Aside0.mk (ho); clear HB; clear HO_3; have HB := n0_; have HO365 := n1_; clear n0_ n1_; clear ho hb hg hat))
              go_roundg k1
              case measure => have := HK1.out; omega
              case rel => exact ⟨(y363), (wrap64 (x4_1 + 1)), (by first | rfl | (simp; done) | (simp [*]; done)), H', ⟨by have := HK1.out; omega⟩, ⟨by (with_reducible repeat (first | apply Kd.R_alloc | apply Kd.R_drewN | apply Kd.R_drew)); exact HO365.out⟩, ⟨by repeat (first | (with_reducible first | exact HB.out | apply below_alloc | apply pw_below_drewN | apply below_drew1) | exact HB.out)⟩⟩
            · rw [if_neg c6] at H
              exact absurd H (by simp)
          · rw [if_neg c5] at H
            have c5b0 : decide (0 < t361) = false := decide_eq_false c5
            clear c5
            have H' := Aside0.mk H
            clear H
            have p360 : 0 ≤ (x4_1 : Int) := of_decide_eq_true (by first | (with_reducible assumption) | assumption)
            have q360 : x4_1 < (l0.length : Int) := of_decide_eq_true (by first | (with_reducible assumption) | assumption)
            obtain ⟨ad360, e360, hx360_0, hx360_1, hx360_2⟩ := at_T37 HR0.out x4_1 p360 q360
            cases e360
            replace hx360_0 := (HB.out.cell (World.block_lt_of_cell? w _ hx360_0)).trans hx360_0
            replace hx360_1 := (HB.out.cell (World.block_lt_of_cell? w _ hx360_1)).trans hx360_1
            replace hx360_2 := (HB.out.cell (World.block_lt_of_cell? w _ hx360_2)).trans hx360_2
            replace p360 := eq_true p360
            replace q360 := eq_true q360
            go_wp2_with (first | ((with_reducible refine gate_callee (f := 52) rfl ?_); refine goesL_ (some 23) rfl rfl Try.func52 (by kernel_rfl) rfl #[.agg #[.int .i64 ((rd_T37 l0 x4_1).f0), .string ((rd_T37 l0 x4_1).f1), .int .i64 ((rd_T37 l0 x4_1).f2)]] rfl (by (try simp only [List.map_toArray, List.map_cons, List.map_nil]); first | done | rfl | (simp only [List.length_drop, List.length_take]; rfl)) ?_; (with_reducible refine (variorumref06_Kind.calls k1 ((rd_T37 l0 x4_1).f0) ((rd_T37 l0 x4_1).f1) ((rd_T37 l0 x4_1).f2) t361 _ A4.out).mono ?_); rintro e w9 ⟨rfl, hb⟩; refine ⟨_, rfl, ?_⟩; have n0_ := Aside0.mk (Kd.R_below (by (with_reducible repeat (first | apply Kd.R_alloc | apply Kd.R_drewN | apply Kd.R_drew)); exact HO_3.out) hb); have n1_ := Aside0.mk (below_step (by repeat (first | (with_reducible first | exact HB.out | apply below_alloc | apply pw_below_drewN | apply below_drew1) | exact HB.out)) hb); clear HO_3; clear HB; have HO_3 := n0_; have HB := n1_; clear n0_ n1_; (try clear hb); (try clear hb2); (try clear hk); (try clear hi)))
            go_roundg k1
            case measure => have := HK1.out; omega
            case rel => exact ⟨(x3_1), (wrap64 (x4_1 + 1)), (by first | rfl | (simp; done) | (simp [*]; done)), H', ⟨by have := HK1.out; omega⟩, ⟨by (with_reducible repeat (first | apply Kd.R_alloc | apply Kd.R_drewN | apply Kd.R_drew)); exact HO_3.out⟩, ⟨by repeat (first | (with_reducible first | exact HB.out | apply below_alloc | apply pw_below_drewN | apply below_drew1) | exact HB.out)⟩⟩
        · rw [if_neg c3] at H
          exact absurd H (by simp)
      · rw [if_neg c2] at H
        have c2b0 : decide (x4_1 < (l0.length : Int)) = false := decide_eq_false c2
        clear c2
        replace H := Option.bind_eq_some_iff.mp H
        obtain ⟨⟨t366, t367, t368⟩, A100, H⟩ := H
        replace H : (if t368 = true then (variorumref06_Norm.l1 k1 x3_1 ([] : List (S37)) (⟨#[]⟩ : ByteArray) 0 0 0) else (some ([] : List (S37)))) = some r := H
        have A10 := Aside0.mk A100
        clear A100
        by_cases c11 : t368 = true
        · subst c11
          have H1 : (variorumref06_Norm.l1 k1 x3_1 ([] : List (S37)) (⟨#[]⟩ : ByteArray) 0 0 0) = some r := by rw [if_pos rfl] at H; exact H
          clear H
          have H := H1
          clear H1
          have H' := Aside0.mk H
          clear H
          obtain ⟨Ao12, co12, eo12⟩ := Kd.R_slice HO_3.out
          subst eo12
          go_wp2_with (first | ((with_reducible refine gate_callee (f := 53) rfl ?_); refine goesL_ (some 34) rfl rfl Try.func53 (by kernel_rfl) rfl #[.slice Ao12 x3_1.length co12] rfl (by (try simp only [List.map_toArray, List.map_cons, List.map_nil]); first | done | rfl | (simp only [List.length_drop, List.length_take]; rfl)) ?_; (with_reducible refine (variorumref06_sums.calls k1 _ _ x3_1 t366 t367 true _ ?side1 ?side2 A10.out).mono ?_); (case side1 => repeat (first | exact (Kd.R_reads' HO_3.out).2.2 | (with_reducible refine Kd.C_alloc ?_ _) | (with_reducible refine Kd.C_drewN ?_ _) | (with_reducible refine Kd.C_drew ?_))); (case side2 => exact (Kd.R_reads' HO_3.out).2.1); rintro e w13 ⟨rfl, hb⟩; refine ⟨_, rfl, ?_⟩; have n0_ := Aside0.mk (Kd.R_below (by (with_reducible repeat (first | apply Kd.R_alloc | apply Kd.R_drewN | apply Kd.R_drew)); exact HO_3.out) hb); have n1_ := Aside0.mk (below_step (by repeat (first | (with_reducible first | exact HB.out | apply below_alloc | apply pw_below_drewN | apply below_drew1) | exact HB.out)) hb); clear HO_3; clear HB; have HO_3 := n0_; have HB := n1_; clear n0_ n1_; (try clear hb); (try clear hb2); (try clear hk); (try clear hi)))
          go_loopg [8, 9, 10, 11, 12] k1 (fun kq v8 v9 v10 v11 v12 w' => ∃ (x8_2 : List (S37)) (x9_2 : ByteArray) (x10_2 : Int) (x11_2 : Int) (x12_2 : Int), v9 = .string x9_2 ∧ v10 = .int .i64 x10_2 ∧ v11 = .int .i64 x11_2 ∧ v12 = .int .i64 x12_2 ∧ Aside0 (variorumref06_Norm.l1 kq x3_1 x8_2 x9_2 x10_2 x11_2 x12_2 = some r) ∧ Aside0 (kq ≤ k1) ∧ Aside0 (Kd.R k37 37 w' w.heap.size (fun k_ => some k_ ≠ (v8 : Value).ownBlock) (.slice Ao12 x3_1.length co12) x3_1) ∧ Aside0 (Kd.R k37 37 w' w.heap.size (fun k_ => some k_ ≠ ((.slice Ao12 x3_1.length co12) : Value).ownBlock) v8 x8_2) ∧ Aside0 (Below w.heap.size w w'))
          case atStart => exact ⟨(([] : List (S37))), ((⟨#[]⟩ : ByteArray)), (0), (0), (0), (by first | rfl | (simp; done) | (simp [*]; done)), (by first | rfl | (simp; done) | (simp [*]; done)), (by first | rfl | (simp; done) | (simp [*]; done)), (by first | rfl | (simp; done) | (simp [*]; done)), H', ⟨Nat.le_refl _⟩, ⟨by (with_reducible repeat (first | apply Kd.R_alloc | apply Kd.R_drewN | apply Kd.R_drew)); exact Kd.R_mono HO_3.out (fun _ hk => (by simp [Value.ownBlock]))⟩, ⟨by first | exact Kd.R_nil _ _ _ _ _ | exact Kd.N_nil _ _ _ _ _ | exact Kd.V_nil _ _ _ _ _ | exact Kd.Q_nil _ _ _ _ _ | exact Kd.S_nil _ _ _ _ _⟩, ⟨by repeat (first | (with_reducible first | exact HB.out | apply below_alloc | apply pw_below_drewN | apply below_drew1) | exact HB.out)⟩⟩
          case round =>
            clear H'
            try clear c1
            try clear c2
            try clear c2b0
            try clear p2
            try clear c3
            try clear c3b0
            try clear p3
            try clear q3
            try clear hx3
            try clear c5
            try clear c5b0
            try clear c6
            try clear p6
            try clear c11
            try clear hx360_0
            try clear hx360_1
            try clear hx360_2
            try clear hx362_0
            try clear hx362_1
            try clear hx362_2
            try clear p360
            try clear p362
            try clear q360
            try clear q362
            obtain ⟨x8_2, x9_2, x10_2, x11_2, x12_2, rfl, rfl, rfl, rfl, HA, HK2, HO_3, HO_8, HB⟩ := hrel
            cases gk with
            | zero => exact absurd HA.out (by simp [variorumref06_Norm.l1])
            | succ k2 =>
              have H := HA.out
              clear HA
              simp only [variorumref06_Norm.l1] at H
              by_cases c14 : x12_2 ≤ (x3_1.length : Int)
              · rw [if_pos c14] at H
                have c14b0 : decide (x12_2 ≤ (x3_1.length : Int)) = true := decide_eq_true c14
                clear c14
                have HC15 := Aside0.mk H
                clear H
                go_upto_region 17 with (fail)
                go_cut [57] (fun v57 wc => ∃ (kq : Nat) (x57_14 : Bool), v57 = .bool x57_14 ∧ Aside0 (variorumref06_Norm.j2 kq x3_1 x8_2 x9_2 x10_2 x11_2 x12_2 x57_14 = some r) ∧ Aside0 (kq ≤ k2) ∧ Aside0 (Kd.R k37 37 wc w.heap.size (fun k_ => some k_ ≠ (u8 : Value).ownBlock) (.slice Ao12 x3_1.length co12) x3_1) ∧ Aside0 (Kd.R k37 37 wc w.heap.size (fun k_ => some k_ ≠ ((.slice Ao12 x3_1.length co12) : Value).ownBlock) u8 x8_2) ∧ Aside0 (Below w.heap.size w wc))
                case first =>
                  have H := HC15.out
                  clear HC15
                  by_cases c16 : x12_2 < (x3_1.length : Int)
                  · rw [if_pos c16] at H
                    have c16b0 : decide (x12_2 < (x3_1.length : Int)) = true := decide_eq_true c16
                    clear c16
                    (first | rw [c16b0] | (simp only [i64_w, i32_w]; rw [c16b0]) | (rw [c16e]; simp only [Bool.not_true, Bool.not_false]) | skip)
                    by_cases c17 : 0 ≤ x12_2
                    · rw [if_pos c17] at H
                      have c17b0 : decide (0 ≤ x12_2) = true := decide_eq_true c17
                      clear c17
                      replace H := Option.bind_eq_some_iff.mp H
                      obtain ⟨t370, A180, H⟩ := H
                      replace H : (variorumref06_Norm.j2 k2 x3_1 x8_2 x9_2 x10_2 x11_2 x12_2 (t370 == 1)) = some r := H
                      have A18 := Aside0.mk A180
                      clear A180
                      have H' := Aside0.mk H
                      clear H
                      have p369 : 0 ≤ (x12_2 : Int) := of_decide_eq_true (by first | (with_reducible assumption) | assumption)
                      have q369 : x12_2 < (x3_1.length : Int) := of_decide_eq_true (by first | (with_reducible assumption) | assumption)
                      obtain ⟨ad369, e369, hx369_0, hx369_1, hx369_2⟩ := at_T37 (Kd.R_reads' HO_3.out).2.2 x12_2 p369 q369
                      cases e369
                      replace p369 := eq_true p369
                      replace q369 := eq_true q369
                      go_wp2_with (first | (go_at_call 52; (with_reducible refine (variorumref06_Kind.calls k2 ((rd_T37 x3_1 x12_2).f0) ((rd_T37 x3_1 x12_2).f1) ((rd_T37 x3_1 x12_2).f2) t370 _ A18.out).mono ?_); rintro e w19 ⟨rfl, hb⟩; have n0_ := Aside0.mk (Kd.R_below (by (with_reducible repeat (first | apply Kd.R_alloc | apply Kd.R_drewN | apply Kd.R_drew)); exact HO_3.out) hb); have n1_ := Aside0.mk (Kd.R_below (by (with_reducible repeat (first | apply Kd.R_alloc | apply Kd.R_drewN | apply Kd.R_drew)); exact HO_8.out) hb); have n2_ := Aside0.mk (below_step (by repeat (first | (with_reducible first | exact HB.out | apply below_alloc | apply pw_below_drewN | apply below_drew1) | exact HB.out)) hb); clear HO_3; clear HO_8; clear HB; have HO_3 := n0_; have HO_8 := n1_; have HB := n2_; clear n0_ n1_ n2_; (try clear hb); (try clear hb2); (try clear hk); (try clear hi)))
                      go_meet
                      case rel => exact ⟨_, ((t370 == 1)), (by first | rfl | (simp; done) | (simp [*]; done)), H', ⟨by have := HK1.out; have := HK2.out; first | omega | exact Nat.le_refl _⟩, ⟨by (with_reducible repeat (first | apply Kd.R_alloc | apply Kd.R_drewN | apply Kd.R_drew)); exact HO_3.out⟩, ⟨by (with_reducible repeat (first | apply Kd.R_alloc | apply Kd.R_drewN | apply Kd.R_drew)); exact HO_8.out⟩, ⟨by repeat (first | (with_reducible first | exact HB.out | apply below_alloc | apply pw_below_drewN | apply below_drew1) | exact HB.out)⟩⟩
                    · rw [if_neg c17] at H
                      exact absurd H (by simp)
                  · rw [if_neg c16] at H
                    have c16b0 : decide (x12_2 < (x3_1.length : Int)) = false := decide_eq_false c16
                    clear c16
                    (first | rw [c16b0] | (simp only [i64_w, i32_w]; rw [c16b0]) | (rw [c16e]; simp only [Bool.not_true, Bool.not_false]) | skip)
                    have H' := Aside0.mk H
                    clear H
                    go_wp2
                    go_meet
                    case rel => exact ⟨_, (false), (by first | rfl | (simp; done) | (simp [*]; done)), H', ⟨by have := HK1.out; have := HK2.out; first | omega | exact Nat.le_refl _⟩, ⟨by (with_reducible repeat (first | apply Kd.R_alloc | apply Kd.R_drewN | apply Kd.R_drew)); exact HO_3.out⟩, ⟨by (with_reducible repeat (first | apply Kd.R_alloc | apply Kd.R_drewN | apply Kd.R_drew)); exact HO_8.out⟩, ⟨by repeat (first | (with_reducible first | exact HB.out | apply below_alloc | apply pw_below_drewN | apply below_drew1) | exact HB.out)⟩⟩
                case rest =>
                  clear HC15
                  try clear c1
                  try clear c2
                  try clear c2b0
                  try clear p2
                  try clear c3
                  try clear c3b0
                  try clear p3
                  try clear q3
                  try clear hx3
                  try clear c5
                  try clear c5b0
                  try clear c6
                  try clear p6
                  try clear c11
                  try clear c14
                  try clear c14b0
                  try clear c16
                  try clear c16b0
                  try clear c17
                  try clear c17b0
                  try clear hx360_0
                  try clear hx360_1
                  try clear hx360_2
                  try clear hx362_0
                  try clear hx362_1
                  try clear hx362_2
                  try clear hx369_0
                  try clear hx369_1
                  try clear hx369_2
                  try clear p2
                  try clear p3
                  try clear p360
                  try clear p362
                  try clear p369
                  try clear p6
                  try clear q3
                  try clear q360
                  try clear q362
                  try clear q369
                  obtain ⟨kq, x57_14, rfl, HA, HJ14, HO_3, HO_8, HB⟩ := hcut
                  cases kq with
                  | zero => exact absurd HA.out (by simp [variorumref06_Norm.j2])
                  | succ kj14 =>
                    have H := HA.out
                    clear HA
                    simp only [variorumref06_Norm.j2] at H
                    by_cases c20 : x57_14 = true
                    · subst c20
                      have H1 : (if x9_2.toList = ([] : List UInt8) then (if x10_2 > 0 then (if x8_2.length < 4398046511104 then (if 0 ≤ x12_2 then (if x12_2 < (x3_1.length : Int) then (variorumref06_Norm.l1 kj14 x3_1 (x8_2 ++ [(⟨0, (⟨#[]⟩ : ByteArray), x10_2⟩ : S37)]) (⟨#[]⟩ : ByteArray) 0 (wrap64 (x11_2 + ((rd_T37 x3_1 x12_2).f0))) (wrap64 (x12_2 + 1))) else (none)) else (none)) else (none)) else (if 0 ≤ x12_2 then (if x12_2 < (x3_1.length : Int) then (variorumref06_Norm.l1 kj14 x3_1 x8_2 (⟨#[]⟩ : ByteArray) 0 (wrap64 (x11_2 + ((rd_T37 x3_1 x12_2).f0))) (wrap64 (x12_2 + 1))) else (none)) else (none))) else (if x8_2.length < 4398046511104 then ((some (x8_2 ++ [(⟨0, x9_2, 0⟩ : S37)] : List (S37))).bind fun y376 => (if x10_2 > 0 then (if y376.length < 4398046511104 then (if 0 ≤ x12_2 then (if x12_2 < (x3_1.length : Int) then (variorumref06_Norm.l1 kj14 x3_1 (y376 ++ [(⟨0, (⟨#[]⟩ : ByteArray), x10_2⟩ : S37)]) (⟨#[]⟩ : ByteArray) 0 (wrap64 (x11_2 + ((rd_T37 x3_1 x12_2).f0))) (wrap64 (x12_2 + 1))) else (none)) else (none)) else (none)) else (if 0 ≤ x12_2 then (if x12_2 < (x3_1.length : Int) then (variorumref06_Norm.l1 kj14 x3_1 y376 (⟨#[]⟩ : ByteArray) 0 (wrap64 (x11_2 + ((rd_T37 x3_1 x12_2).f0))) (wrap64 (x12_2 + 1))) else (none)) else (none)))) else (none))) = some r := by rw [if_pos rfl] at H; exact H
                      clear H
                      have H := H1
                      clear H1
                      by_cases c21 : x9_2.toList = ([] : List UInt8)
                      · rw [if_pos c21] at H
                        have c21b0 : (x9_2.toList == ([] : List UInt8)) = true := beq_iff_eq.mpr c21
                        have c21e : x9_2.toList.isEmpty = true := List.isEmpty_iff.mpr c21
                        have c21b1 : (x9_2.toList != ([] : List UInt8)) = false := bne_eq_false_iff_eq.mpr c21
                        clear c21
                        by_cases c22 : x10_2 > 0
                        · rw [if_pos c22] at H
                          have c22b0 : decide (0 < x10_2) = true := decide_eq_true c22
                          clear c22
                          by_cases c23 : x8_2.length < 4398046511104
                          · rw [if_pos c23] at H
                            have LMc23 := Aside0.mk c23
                            clear c23
                            obtain ⟨y371, hy371⟩ : ∃ y_ : List (S37), y_ = (x8_2 ++ [(⟨0, (⟨#[]⟩ : ByteArray), x10_2⟩ : S37)]) := ⟨_, rfl⟩
                            replace H : (if 0 ≤ x12_2 then (if x12_2 < (x3_1.length : Int) then (variorumref06_Norm.l1 kj14 x3_1 y371 (⟨#[]⟩ : ByteArray) 0 (wrap64 (x11_2 + ((rd_T37 x3_1 x12_2).f0))) (wrap64 (x12_2 + 1))) else (none)) else (none)) = some r := by first | (rw [hy371]; with_reducible exact H) | (have H2_ := (Option.bind_some _ _).symm.trans H; rw [hy371]; with_reducible exact H2_) | (have H2_ := (Option.bind_some _ _).symm.trans H; with_reducible exact H2_) | with_reducible exact H | (rw [hy371]; exact H) | exact H
                            have Ny371 := Aside0.mk hy371
                            clear hy371
                            by_cases c24 : 0 ≤ x12_2
                            · rw [if_pos c24] at H
                              have c24b0 : decide (0 ≤ x12_2) = true := decide_eq_true c24
                              clear c24
                              by_cases c25 : x12_2 < (x3_1.length : Int)
                              · rw [if_pos c25] at H
                                have c25b0 : decide (x12_2 < (x3_1.length : Int)) = true := decide_eq_true c25
                                clear c25
                                have H' := Aside0.mk H
                                clear H
                                go_wp2_with (first | ((with_reducible refine gate_builtin (b := .append) (xs := #[.tmp 67, .tmp 70]) rfl ?_); at_builtin; refine Kd.R_append k37 (w0 := w) w.heap.size rfl (.tmp 67) (.tmp 70) 22 37 (.agg #[(.int .i64 0), (.string ⟨#[]⟩), (.int .i64 0)]) 32 rfl Try.underlying22 info37 rfl (by decide) (by omega) u8 x8_2 (⟨0, (⟨#[]⟩ : ByteArray), x10_2⟩ : S37) [.int .i64 0, .string (⟨#[]⟩ : ByteArray), .int .i64 x10_2] (fun k_ => some k_ ≠ (.slice Ao12 x3_1.length co12 : Value).ownBlock) (fun _ => False) rfl rfl ?aP (fun _ hk => hk.elim) ?aF ?aO ?aB ?aS ?aL ?_; (case aP => exact k37_mkM _ _ _ (⟨0, (⟨#[]⟩ : ByteArray), x10_2⟩ : S37)); (case aB => exact (by repeat (first | (with_reducible first | exact HB.out | apply below_alloc | apply pw_below_drewN | apply below_drew1) | exact HB.out))); (case aF => exact (fun k_ hk => Kd.fresh' (Kd.R_lt (by (with_reducible repeat (first | apply Kd.R_alloc | apply Kd.R_drewN | apply Kd.R_drew)); exact HO_3.out)) k_ hk)); (case aO => exact (by (with_reducible repeat (first | apply Kd.R_alloc | apply Kd.R_drewN | apply Kd.R_drew)); exact HO_8.out)); (case aS => exact (below_size (by repeat (first | (with_reducible first | exact HB.out | apply below_alloc | apply pw_below_drewN | apply below_drew1) | exact HB.out)))); (case aL => have := LMc23.out; omega); intro v372 w26 ho hb hg hat; rw [← Ny371.out] at ho; have n0_ := Aside0.mk (Kd.R_after (ok := (fun _ => True)) (by (with_reducible repeat (first | apply Kd.R_alloc | apply Kd.R_drewN | apply Kd.R_drew)); exact Kd.R_mono HO_3.out (fun _ hk => ⟨trivial, hk⟩)) hg hat); have n1_ := Aside0.mk (hb); have n2_ := Aside0.mk (ho); clear HO_3; clear HB; clear HO_8; have HO_3 := n0_; have HB := n1_; have HO373 := n2_; clear n0_ n1_ n2_; clear ho hb hg hat; have p374 : 0 ≤ (x12_2 : Int) := of_decide_eq_true (by first | (with_reducible assumption) | assumption); have q374 : x12_2 < (x3_1.length : Int) := of_decide_eq_true (by first | (with_reducible assumption) | assumption); obtain ⟨ad374, e374, hx374_0, hx374_1, hx374_2⟩ := at_T37 (Kd.R_reads' HO_3.out).2.2 x12_2 p374 q374; cases e374; replace p374 := eq_true p374; replace q374 := eq_true q374))
                                go_roundg kj14
                                case measure => have := HK1.out; have := HK2.out; have := HJ14.out; omega
                                case rel => exact ⟨(y371), ((⟨#[]⟩ : ByteArray)), (0), (wrap64 (x11_2 + ((rd_T37 x3_1 x12_2).f0))), (wrap64 (x12_2 + 1)), (by first | rfl | (simp; done) | (simp [*]; done)), (by first | rfl | (simp; done) | (simp [*]; done)), (by first | rfl | (simp; done) | (simp [*]; done)), (by first | rfl | (simp; done) | (simp [*]; done)), H', ⟨by have := HK1.out; have := HK2.out; have := HJ14.out; omega⟩, ⟨by (with_reducible repeat (first | apply Kd.R_alloc | apply Kd.R_drewN | apply Kd.R_drew)); exact Kd.R_mono HO_3.out (fun _ hk => hk.2)⟩, ⟨by (with_reducible repeat (first | apply Kd.R_alloc | apply Kd.R_drewN | apply Kd.R_drew)); exact HO373.out⟩, ⟨by repeat (first | (with_reducible first | exact HB.out | apply below_alloc | apply pw_below_drewN | apply below_drew1) | exact HB.out)⟩⟩
                              · rw [if_neg c25] at H
                                exact absurd H (by simp)
                            · rw [if_neg c24] at H
                              exact absurd H (by simp)
                          · rw [if_neg c23] at H
                            exact absurd H (by simp)
                        · rw [if_neg c22] at H
                          have c22b0 : decide (0 < x10_2) = false := decide_eq_false c22
                          clear c22
                          by_cases c27 : 0 ≤ x12_2
                          · rw [if_pos c27] at H
                            have c27b0 : decide (0 ≤ x12_2) = true := decide_eq_true c27
                            clear c27
                            by_cases c28 : x12_2 < (x3_1.length : Int)
                            · rw [if_pos c28] at H
                              have c28b0 : decide (x12_2 < (x3_1.length : Int)) = true := decide_eq_true c28
                              clear c28
                              have H' := Aside0.mk H
                              clear H
                              have p375 : 0 ≤ (x12_2 : Int) := of_decide_eq_true (by first | (with_reducible assumption) | assumption)
                              have q375 : x12_2 < (x3_1.length : Int) := of_decide_eq_true (by first | (with_reducible assumption) | assumption)
                              obtain ⟨ad375, e375, hx375_0, hx375_1, hx375_2⟩ := at_T37 (Kd.R_reads' HO_3.out).2.2 x12_2 p375 q375
                              cases e375
                              replace p375 := eq_true p375
                              replace q375 := eq_true q375
                              go_wp2
                              go_roundg kj14
                              case measure => have := HK1.out; have := HK2.out; have := HJ14.out; omega
                              case rel => exact ⟨(x8_2), ((⟨#[]⟩ : ByteArray)), (0), (wrap64 (x11_2 + ((rd_T37 x3_1 x12_2).f0))), (wrap64 (x12_2 + 1)), (by first | rfl | (simp; done) | (simp [*]; done)), (by first | rfl | (simp; done) | (simp [*]; done)), (by first | rfl | (simp; done) | (simp [*]; done)), (by first | rfl | (simp; done) | (simp [*]; done)), H', ⟨by have := HK1.out; have := HK2.out; have := HJ14.out; omega⟩, ⟨by (with_reducible repeat (first | apply Kd.R_alloc | apply Kd.R_drewN | apply Kd.R_drew)); exact HO_3.out⟩, ⟨by (with_reducible repeat (first | apply Kd.R_alloc | apply Kd.R_drewN | apply Kd.R_drew)); exact HO_8.out⟩, ⟨by repeat (first | (with_reducible first | exact HB.out | apply below_alloc | apply pw_below_drewN | apply below_drew1) | exact HB.out)⟩⟩
                            · rw [if_neg c28] at H
                              exact absurd H (by simp)
                          · rw [if_neg c27] at H
                            exact absurd H (by simp)
                      · rw [if_neg c21] at H
                        have c21b0 : (x9_2.toList == ([] : List UInt8)) = false := beq_eq_false_iff_ne.mpr c21
                        have c21e : x9_2.toList.isEmpty = false := List.isEmpty_eq_false_iff.mpr c21
                        have c21b1 : (x9_2.toList != ([] : List UInt8)) = true := bne_iff_ne.mpr c21
                        by_cases c29 : x8_2.length < 4398046511104
                        · rw [if_pos c29] at H
                          have LMc29 := Aside0.mk c29
                          clear c29
                          obtain ⟨y376, hy376⟩ : ∃ y_ : List (S37), y_ = (x8_2 ++ [(⟨0, x9_2, 0⟩ : S37)]) := ⟨_, rfl⟩
                          replace H : (if x10_2 > 0 then (if y376.length < 4398046511104 then (if 0 ≤ x12_2 then (if x12_2 < (x3_1.length : Int) then (variorumref06_Norm.l1 kj14 x3_1 (y376 ++ [(⟨0, (⟨#[]⟩ : ByteArray), x10_2⟩ : S37)]) (⟨#[]⟩ : ByteArray) 0 (wrap64 (x11_2 + ((rd_T37 x3_1 x12_2).f0))) (wrap64 (x12_2 + 1))) else (none)) else (none)) else (none)) else (if 0 ≤ x12_2 then (if x12_2 < (x3_1.length : Int) then (variorumref06_Norm.l1 kj14 x3_1 y376 (⟨#[]⟩ : ByteArray) 0 (wrap64 (x11_2 + ((rd_T37 x3_1 x12_2).f0))) (wrap64 (x12_2 + 1))) else (none)) else (none))) = some r := by first | (rw [hy376]; with_reducible exact H) | (have H2_ := (Option.bind_some _ _).symm.trans H; rw [hy376]; with_reducible exact H2_) | (have H2_ := (Option.bind_some _ _).symm.trans H; with_reducible exact H2_) | with_reducible exact H | (rw [hy376]; exact H) | exact H
                          have Ny376 := Aside0.mk hy376
                          clear hy376
                          by_cases c30 : x10_2 > 0
                          · rw [if_pos c30] at H
                            have c30b0 : decide (0 < x10_2) = true := decide_eq_true c30
                            clear c30
                            by_cases c31 : y376.length < 4398046511104
                            · rw [if_pos c31] at H
                              have LMc31 := Aside0.mk c31
                              clear c31
                              obtain ⟨y379, hy379⟩ : ∃ y_ : List (S37), y_ = (y376 ++ [(⟨0, (⟨#[]⟩ : ByteArray), x10_2⟩ : S37)]) := ⟨_, rfl⟩
                              replace H : (if 0 ≤ x12_2 then (if x12_2 < (x3_1.length : Int) then (variorumref06_Norm.l1 kj14 x3_1 y379 (⟨#[]⟩ : ByteArray) 0 (wrap64 (x11_2 + ((rd_T37 x3_1 x12_2).f0))) (wrap64 (x12_2 + 1))) else (none)) else (none)) = some r := by first | (rw [hy379]; with_reducible exact H) | (have H2_ := (Option.bind_some _ _).symm.trans H; rw [hy379]; with_reducible exact H2_) | (have H2_ := (Option.bind_some _ _).symm.trans H; with_reducible exact H2_) | with_reducible exact H | (rw [hy379]; exact H) | exact H
                              have Ny379 := Aside0.mk hy379
                              clear hy379
                              by_cases c32 : 0 ≤ x12_2
                              · rw [if_pos c32] at H
                                have c32b0 : decide (0 ≤ x12_2) = true := decide_eq_true c32
                                clear c32
                                by_cases c33 : x12_2 < (x3_1.length : Int)
                                · rw [if_pos c33] at H
                                  have c33b0 : decide (x12_2 < (x3_1.length : Int)) = true := decide_eq_true c33
                                  clear c33
                                  have H' := Aside0.mk H
                                  clear H
                                  go_wp2_with (first | ((with_reducible refine gate_builtin (b := .append) (xs := #[.tmp 60, .tmp 63]) rfl ?_); at_builtin; refine Kd.R_append k37 (w0 := w) w.heap.size rfl (.tmp 60) (.tmp 63) 22 37 (.agg #[(.int .i64 0), (.string ⟨#[]⟩), (.int .i64 0)]) 32 rfl Try.underlying22 info37 rfl (by decide) (by omega) u8 x8_2 (⟨0, x9_2, 0⟩ : S37) [.int .i64 0, .string x9_2, .int .i64 0] (fun k_ => some k_ ≠ (.slice Ao12 x3_1.length co12 : Value).ownBlock) (fun _ => False) rfl rfl ?aP (fun _ hk => hk.elim) ?aF ?aO ?aB ?aS ?aL ?_; (case aP => exact k37_mkM _ _ _ (⟨0, x9_2, 0⟩ : S37)); (case aB => exact (by repeat (first | (with_reducible first | exact HB.out | apply below_alloc | apply pw_below_drewN | apply below_drew1) | exact HB.out))); (case aF => exact (fun k_ hk => Kd.fresh' (Kd.R_lt (by (with_reducible repeat (first | apply Kd.R_alloc | apply Kd.R_drewN | apply Kd.R_drew)); exact HO_3.out)) k_ hk)); (case aO => exact (by (with_reducible repeat (first | apply Kd.R_alloc | apply Kd.R_drewN | apply Kd.R_drew)); exact HO_8.out)); (case aS => exact (below_size (by repeat (first | (with_reducible first | exact HB.out | apply below_alloc | apply pw_below_drewN | apply below_drew1) | exact HB.out)))); (case aL => have := LMc29.out; omega); intro v377 w34 ho hb hg hat; rw [← Ny376.out] at ho; have n0_ := Aside0.mk (Kd.R_after (ok := (fun _ => True)) (by (with_reducible repeat (first | apply Kd.R_alloc | apply Kd.R_drewN | apply Kd.R_drew)); exact Kd.R_mono HO_3.out (fun _ hk => ⟨trivial, hk⟩)) hg hat); have n1_ := Aside0.mk (hb); have n2_ := Aside0.mk (ho); clear HO_3; clear HB; clear HO_8; have HO_3 := n0_; have HB := n1_; have HO378 := n2_; clear n0_ n1_ n2_; clear ho hb hg hat) | ((with_reducible refine gate_builtin (b := .append) (xs := #[.tmp 67, .tmp 70]) rfl ?_); at_builtin; refine Kd.R_append k37 (w0 := w) w.heap.size rfl (.tmp 67) (.tmp 70) 22 37 (.agg #[(.int .i64 0), (.string ⟨#[]⟩), (.int .i64 0)]) 32 rfl Try.underlying22 info37 rfl (by decide) (by omega) v377 y376 (⟨0, (⟨#[]⟩ : ByteArray), x10_2⟩ : S37) [.int .i64 0, .string (⟨#[]⟩ : ByteArray), .int .i64 x10_2] (fun k_ => some k_ ≠ (.slice Ao12 x3_1.length co12 : Value).ownBlock) (fun _ => False) rfl rfl ?aP (fun _ hk => hk.elim) ?aF ?aO ?aB ?aS ?aL ?_; (case aP => exact k37_mkM _ _ _ (⟨0, (⟨#[]⟩ : ByteArray), x10_2⟩ : S37)); (case aB => exact (by repeat (first | (with_reducible first | exact HB.out | apply below_alloc | apply pw_below_drewN | apply below_drew1) | exact HB.out))); (case aF => exact (fun k_ hk => Kd.fresh' (Kd.R_lt (by (with_reducible repeat (first | apply Kd.R_alloc | apply Kd.R_drewN | apply Kd.R_drew)); exact HO_3.out)) k_ hk)); (case aO => exact (by (with_reducible repeat (first | apply Kd.R_alloc | apply Kd.R_drewN | apply Kd.R_drew)); exact HO378.out)); (case aS => exact (below_size (by repeat (first | (with_reducible first | exact HB.out | apply below_alloc | apply pw_below_drewN | apply below_drew1) | exact HB.out)))); (case aL => have := LMc31.out; omega); intro v380 w35 ho hb hg hat; rw [← Ny379.out] at ho; have n0_ := Aside0.mk (Kd.R_after (ok := (fun _ => True)) (by (with_reducible repeat (first | apply Kd.R_alloc | apply Kd.R_drewN | apply Kd.R_drew)); exact HO_3.out) hg hat); have n1_ := Aside0.mk (hb); have n2_ := Aside0.mk (ho); clear HO_3; clear HB; clear HO378; have HO_3 := n0_; have HB := n1_; have HO381 := n2_; clear n0_ n1_ n2_; clear ho hb hg hat; have p382 : 0 ≤ (x12_2 : Int) := of_decide_eq_true (by first | (with_reducible assumption) | assumption); have q382 : x12_2 < (x3_1.length : Int) := of_decide_eq_true (by first | (with_reducible assumption) | assumption); obtain ⟨ad382, e382, hx382_0, hx382_1, hx382_2⟩ := at_T37 (Kd.R_reads' HO_3.out).2.2 x12_2 p382 q382; cases e382; replace p382 := eq_true p382; replace q382 := eq_true q382))
                                  go_roundg kj14
                                  case measure => have := HK1.out; have := HK2.out; have := HJ14.out; omega
                                  case rel => exact ⟨(y379), ((⟨#[]⟩ : ByteArray)), (0), (wrap64 (x11_2 + ((rd_T37 x3_1 x12_2).f0))), (wrap64 (x12_2 + 1)), (by first | rfl | (simp; done) | (simp [*]; done)), (by first | rfl | (simp; done) | (simp [*]; done)), (by first | rfl | (simp; done) | (simp [*]; done)), (by first | rfl | (simp; done) | (simp [*]; done)), H', ⟨by have := HK1.out; have := HK2.out; have := HJ14.out; omega⟩, ⟨by (with_reducible repeat (first | apply Kd.R_alloc | apply Kd.R_drewN | apply Kd.R_drew)); exact Kd.R_mono HO_3.out (fun _ hk => hk.2)⟩, ⟨by (with_reducible repeat (first | apply Kd.R_alloc | apply Kd.R_drewN | apply Kd.R_drew)); exact HO381.out⟩, ⟨by repeat (first | (with_reducible first | exact HB.out | apply below_alloc | apply pw_below_drewN | apply below_drew1) | exact HB.out)⟩⟩
                                · rw [if_neg c33] at H
                                  exact absurd H (by simp)
                              · rw [if_neg c32] at H
                                exact absurd H (by simp)
                            · rw [if_neg c31] at H
                              exact absurd H (by simp)
                          · rw [if_neg c30] at H
                            have c30b0 : decide (0 < x10_2) = false := decide_eq_false c30
                            clear c30
                            by_cases c36 : 0 ≤ x12_2
                            · rw [if_pos c36] at H
                              have c36b0 : decide (0 ≤ x12_2) = true := decide_eq_true c36
                              clear c36
                              by_cases c37 : x12_2 < (x3_1.length : Int)
                              · rw [if_pos c37] at H
                                have c37b0 : decide (x12_2 < (x3_1.length : Int)) = true := decide_eq_true c37
                                clear c37
                                have H' := Aside0.mk H
                                clear H
                                go_wp2_with (first | ((with_reducible refine gate_builtin (b := .append) (xs := #[.tmp 60, .tmp 63]) rfl ?_); at_builtin; refine Kd.R_append k37 (w0 := w) w.heap.size rfl (.tmp 60) (.tmp 63) 22 37 (.agg #[(.int .i64 0), (.string ⟨#[]⟩), (.int .i64 0)]) 32 rfl Try.underlying22 info37 rfl (by decide) (by omega) u8 x8_2 (⟨0, x9_2, 0⟩ : S37) [.int .i64 0, .string x9_2, .int .i64 0] (fun k_ => some k_ ≠ (.slice Ao12 x3_1.length co12 : Value).ownBlock) (fun _ => False) rfl rfl ?aP (fun _ hk => hk.elim) ?aF ?aO ?aB ?aS ?aL ?_; (case aP => exact k37_mkM _ _ _ (⟨0, x9_2, 0⟩ : S37)); (case aB => exact (by repeat (first | (with_reducible first | exact HB.out | apply below_alloc | apply pw_below_drewN | apply below_drew1) | exact HB.out))); (case aF => exact (fun k_ hk => Kd.fresh' (Kd.R_lt (by (with_reducible repeat (first | apply Kd.R_alloc | apply Kd.R_drewN | apply Kd.R_drew)); exact HO_3.out)) k_ hk)); (case aO => exact (by (with_reducible repeat (first | apply Kd.R_alloc | apply Kd.R_drewN | apply Kd.R_drew)); exact HO_8.out)); (case aS => exact (below_size (by repeat (first | (with_reducible first | exact HB.out | apply below_alloc | apply pw_below_drewN | apply below_drew1) | exact HB.out)))); (case aL => have := LMc29.out; omega); intro v377 w38 ho hb hg hat; rw [← Ny376.out] at ho; have n0_ := Aside0.mk (Kd.R_after (ok := (fun _ => True)) (by (with_reducible repeat (first | apply Kd.R_alloc | apply Kd.R_drewN | apply Kd.R_drew)); exact Kd.R_mono HO_3.out (fun _ hk => ⟨trivial, hk⟩)) hg hat); have n1_ := Aside0.mk (hb); have n2_ := Aside0.mk (ho); clear HO_3; clear HB; clear HO_8; have HO_3 := n0_; have HB := n1_; have HO378 := n2_; clear n0_ n1_ n2_; clear ho hb hg hat; have p383 : 0 ≤ (x12_2 : Int) := of_decide_eq_true (by first | (with_reducible assumption) | assumption); have q383 : x12_2 < (x3_1.length : Int) := of_decide_eq_true (by first | (with_reducible assumption) | assumption); obtain ⟨ad383, e383, hx383_0, hx383_1, hx383_2⟩ := at_T37 (Kd.R_reads' HO_3.out).2.2 x12_2 p383 q383; cases e383; replace p383 := eq_true p383; replace q383 := eq_true q383))
                                go_roundg kj14
                                case measure => have := HK1.out; have := HK2.out; have := HJ14.out; omega
                                case rel => exact ⟨(y376), ((⟨#[]⟩ : ByteArray)), (0), (wrap64 (x11_2 + ((rd_T37 x3_1 x12_2).f0))), (wrap64 (x12_2 + 1)), (by first | rfl | (simp; done) | (simp [*]; done)), (by first | rfl | (simp; done) | (simp [*]; done)), (by first | rfl | (simp; done) | (simp [*]; done)), (by first | rfl | (simp; done) | (simp [*]; done)), H', ⟨by have := HK1.out; have := HK2.out; have := HJ14.out; omega⟩, ⟨by (with_reducible repeat (first | apply Kd.R_alloc | apply Kd.R_drewN | apply Kd.R_drew)); exact Kd.R_mono HO_3.out (fun _ hk => hk.2)⟩, ⟨by (with_reducible repeat (first | apply Kd.R_alloc | apply Kd.R_drewN | apply Kd.R_drew)); exact HO378.out⟩, ⟨by repeat (first | (with_reducible first | exact HB.out | apply below_alloc | apply pw_below_drewN | apply below_drew1) | exact HB.out)⟩⟩
                              · rw [if_neg c37] at H
                                exact absurd H (by simp)
                            · rw [if_neg c36] at H
                              exact absurd H (by simp)
                        · rw [if_neg c29] at H
                          exact absurd H (by simp)
                    · replace c20 := Bool.eq_false_iff.mpr c20
                      subst c20
                      have H1 : (if x11_2 > 0 then (if x8_2.length < 4398046511104 then ((some (x8_2 ++ [(⟨x11_2, (⟨#[]⟩ : ByteArray), 0⟩ : S37)] : List (S37))).bind fun y384 => (if x12_2 < (x3_1.length : Int) then (if 0 ≤ x12_2 then (if x9_2.size + ((rd_T37 x3_1 x12_2).f1).size ≤ 9223372036854775807 then (variorumref06_Norm.l1 kj14 x3_1 y384 (x9_2 ++ ((rd_T37 x3_1 x12_2).f1)) (wrap64 (x10_2 + ((rd_T37 x3_1 x12_2).f2))) 0 (wrap64 (x12_2 + 1))) else (none)) else (none)) else (variorumref06_Norm.l1 kj14 x3_1 y384 x9_2 x10_2 0 (wrap64 (x12_2 + 1))))) else (none)) else (if x12_2 < (x3_1.length : Int) then (if 0 ≤ x12_2 then (if x9_2.size + ((rd_T37 x3_1 x12_2).f1).size ≤ 9223372036854775807 then (variorumref06_Norm.l1 kj14 x3_1 x8_2 (x9_2 ++ ((rd_T37 x3_1 x12_2).f1)) (wrap64 (x10_2 + ((rd_T37 x3_1 x12_2).f2))) 0 (wrap64 (x12_2 + 1))) else (none)) else (none)) else (variorumref06_Norm.l1 kj14 x3_1 x8_2 x9_2 x10_2 0 (wrap64 (x12_2 + 1))))) = some r := by rw [if_neg (show ¬ (false = true) by decide)] at H; exact H
                      clear H
                      have H := H1
                      clear H1
                      by_cases c39 : x11_2 > 0
                      · rw [if_pos c39] at H
                        have c39b0 : decide (0 < x11_2) = true := decide_eq_true c39
                        clear c39
                        by_cases c40 : x8_2.length < 4398046511104
                        · rw [if_pos c40] at H
                          have LMc40 := Aside0.mk c40
                          clear c40
                          obtain ⟨y384, hy384⟩ : ∃ y_ : List (S37), y_ = (x8_2 ++ [(⟨x11_2, (⟨#[]⟩ : ByteArray), 0⟩ : S37)]) := ⟨_, rfl⟩
                          replace H : (if x12_2 < (x3_1.length : Int) then (if 0 ≤ x12_2 then (if x9_2.size + ((rd_T37 x3_1 x12_2).f1).size ≤ 9223372036854775807 then (variorumref06_Norm.l1 kj14 x3_1 y384 (x9_2 ++ ((rd_T37 x3_1 x12_2).f1)) (wrap64 (x10_2 + ((rd_T37 x3_1 x12_2).f2))) 0 (wrap64 (x12_2 + 1))) else (none)) else (none)) else (variorumref06_Norm.l1 kj14 x3_1 y384 x9_2 x10_2 0 (wrap64 (x12_2 + 1)))) = some r := by first | (rw [hy384]; with_reducible exact H) | (have H2_ := (Option.bind_some _ _).symm.trans H; rw [hy384]; with_reducible exact H2_) | (have H2_ := (Option.bind_some _ _).symm.trans H; with_reducible exact H2_) | with_reducible exact H | (rw [hy384]; exact H) | exact H
                          have Ny384 := Aside0.mk hy384
                          clear hy384
                          by_cases c41 : x12_2 < (x3_1.length : Int)
                          · rw [if_pos c41] at H
                            have c41b0 : decide (x12_2 < (x3_1.length : Int)) = true := decide_eq_true c41
                            clear c41
                            by_cases c42 : 0 ≤ x12_2
                            · rw [if_pos c42] at H
                              have c42b0 : decide (0 ≤ x12_2) = true := decide_eq_true c42
                              clear c42
                              by_cases c43 : x9_2.size + ((rd_T37 x3_1 x12_2).f1).size ≤ 9223372036854775807
                              · rw [if_pos c43] at H
                                have c43b0 := eq_true c43
                                have c43b1 : decide (x9_2.size + ((rd_T37 x3_1 x12_2).f1).size ≤ 9223372036854775807) = true := decide_eq_true c43
                                try have c43b2 : (9223372036854775807 < x9_2.size + ((rd_T37 x3_1 x12_2).f1).size) = False := eq_false (Nat.not_lt.2 c43)
                                have H' := Aside0.mk H
                                clear H
                                go_wp2_with (first | ((with_reducible refine gate_builtin (b := .append) (xs := #[.tmp 81, .tmp 84]) rfl ?_); at_builtin; refine Kd.R_append k37 (w0 := w) w.heap.size rfl (.tmp 81) (.tmp 84) 22 37 (.agg #[(.int .i64 0), (.string ⟨#[]⟩), (.int .i64 0)]) 32 rfl Try.underlying22 info37 rfl (by decide) (by omega) u8 x8_2 (⟨x11_2, (⟨#[]⟩ : ByteArray), 0⟩ : S37) [.int .i64 x11_2, .string (⟨#[]⟩ : ByteArray), .int .i64 0] (fun k_ => some k_ ≠ (.slice Ao12 x3_1.length co12 : Value).ownBlock) (fun _ => False) rfl rfl ?aP (fun _ hk => hk.elim) ?aF ?aO ?aB ?aS ?aL ?_; (case aP => exact k37_mkM _ _ _ (⟨x11_2, (⟨#[]⟩ : ByteArray), 0⟩ : S37)); (case aB => exact (by repeat (first | (with_reducible first | exact HB.out | apply below_alloc | apply pw_below_drewN | apply below_drew1) | exact HB.out))); (case aF => exact (fun k_ hk => Kd.fresh' (Kd.R_lt (by (with_reducible repeat (first | apply Kd.R_alloc | apply Kd.R_drewN | apply Kd.R_drew)); exact HO_3.out)) k_ hk)); (case aO => exact (by (with_reducible repeat (first | apply Kd.R_alloc | apply Kd.R_drewN | apply Kd.R_drew)); exact HO_8.out)); (case aS => exact (below_size (by repeat (first | (with_reducible first | exact HB.out | apply below_alloc | apply pw_below_drewN | apply below_drew1) | exact HB.out)))); (case aL => have := LMc40.out; omega); intro v385 w44 ho hb hg hat; rw [← Ny384.out] at ho; have n0_ := Aside0.mk (Kd.R_after (ok := (fun _ => True)) (by (with_reducible repeat (first | apply Kd.R_alloc | apply Kd.R_drewN | apply Kd.R_drew)); exact Kd.R_mono HO_3.out (fun _ hk => ⟨trivial, hk⟩)) hg hat); have n1_ := Aside0.mk (hb); have n2_ := Aside0.mk (ho); clear HO_3; clear HB; clear HO_8; have HO_3 := n0_; have HB := n1_; have HO386 := n2_; clear n0_ n1_ n2_; clear ho hb hg hat; have p387 : 0 ≤ (x12_2 : Int) := of_decide_eq_true (by first | (with_reducible assumption) | assumption); have q387 : x12_2 < (x3_1.length : Int) := of_decide_eq_true (by first | (with_reducible assumption) | assumption); obtain ⟨ad387, e387, hx387_0, hx387_1, hx387_2⟩ := at_T37 (Kd.R_reads' HO_3.out).2.2 x12_2 p387 q387; cases e387; replace p387 := eq_true p387; replace q387 := eq_true q387; have p388 : 0 ≤ (x12_2 : Int) := of_decide_eq_true (by first | (with_reducible assumption) | assumption); have q388 : x12_2 < (x3_1.length : Int) := of_decide_eq_true (by first | (with_reducible assumption) | assumption); obtain ⟨ad388, e388, hx388_0, hx388_1, hx388_2⟩ := at_T37 (Kd.R_reads' HO_3.out).2.2 x12_2 p388 q388; obtain rfl : ad387 = ad388 := (by injection e388); replace p388 := eq_true p388; replace q388 := eq_true q388))
                                go_roundg kj14
                                case measure => have := HK1.out; have := HK2.out; have := HJ14.out; omega
                                case rel => exact ⟨(y384), (x9_2 ++ ((rd_T37 x3_1 x12_2).f1)), (wrap64 (x10_2 + ((rd_T37 x3_1 x12_2).f2))), (0), (wrap64 (x12_2 + 1)), (by first | rfl | (simp; done) | (simp [*]; done)), (by first | rfl | (simp; done) | (simp [*]; done)), (by first | rfl | (simp; done) | (simp [*]; done)), (by first | rfl | (simp; done) | (simp [*]; done)), H', ⟨by have := HK1.out; have := HK2.out; have := HJ14.out; omega⟩, ⟨by (with_reducible repeat (first | apply Kd.R_alloc | apply Kd.R_drewN | apply Kd.R_drew)); exact Kd.R_mono HO_3.out (fun _ hk => hk.2)⟩, ⟨by (with_reducible repeat (first | apply Kd.R_alloc | apply Kd.R_drewN | apply Kd.R_drew)); exact HO386.out⟩, ⟨by repeat (first | (with_reducible first | exact HB.out | apply below_alloc | apply pw_below_drewN | apply below_drew1) | exact HB.out)⟩⟩
                              · rw [if_neg c43] at H
                                exact absurd H (by simp)
                            · rw [if_neg c42] at H
                              exact absurd H (by simp)
                          · rw [if_neg c41] at H
                            have c41b0 : decide (x12_2 < (x3_1.length : Int)) = false := decide_eq_false c41
                            clear c41
                            have H' := Aside0.mk H
                            clear H
                            go_wp2_with (first | ((with_reducible refine gate_builtin (b := .append) (xs := #[.tmp 81, .tmp 84]) rfl ?_); at_builtin; refine Kd.R_append k37 (w0 := w) w.heap.size rfl (.tmp 81) (.tmp 84) 22 37 (.agg #[(.int .i64 0), (.string ⟨#[]⟩), (.int .i64 0)]) 32 rfl Try.underlying22 info37 rfl (by decide) (by omega) u8 x8_2 (⟨x11_2, (⟨#[]⟩ : ByteArray), 0⟩ : S37) [.int .i64 x11_2, .string (⟨#[]⟩ : ByteArray), .int .i64 0] (fun k_ => some k_ ≠ (.slice Ao12 x3_1.length co12 : Value).ownBlock) (fun _ => False) rfl rfl ?aP (fun _ hk => hk.elim) ?aF ?aO ?aB ?aS ?aL ?_; (case aP => exact k37_mkM _ _ _ (⟨x11_2, (⟨#[]⟩ : ByteArray), 0⟩ : S37)); (case aB => exact (by repeat (first | (with_reducible first | exact HB.out | apply below_alloc | apply pw_below_drewN | apply below_drew1) | exact HB.out))); (case aF => exact (fun k_ hk => Kd.fresh' (Kd.R_lt (by (with_reducible repeat (first | apply Kd.R_alloc | apply Kd.R_drewN | apply Kd.R_drew)); exact HO_3.out)) k_ hk)); (case aO => exact (by (with_reducible repeat (first | apply Kd.R_alloc | apply Kd.R_drewN | apply Kd.R_drew)); exact HO_8.out)); (case aS => exact (below_size (by repeat (first | (with_reducible first | exact HB.out | apply below_alloc | apply pw_below_drewN | apply below_drew1) | exact HB.out)))); (case aL => have := LMc40.out; omega); intro v385 w45 ho hb hg hat; rw [← Ny384.out] at ho; have n0_ := Aside0.mk (Kd.R_after (ok := (fun _ => True)) (by (with_reducible repeat (first | apply Kd.R_alloc | apply Kd.R_drewN | apply Kd.R_drew)); exact Kd.R_mono HO_3.out (fun _ hk => ⟨trivial, hk⟩)) hg hat); have n1_ := Aside0.mk (hb); have n2_ := Aside0.mk (ho); clear HO_3; clear HB; clear HO_8; have HO_3 := n0_; have HB := n1_; have HO386 := n2_; clear n0_ n1_ n2_; clear ho hb hg hat))
                            go_roundg kj14
                            case measure => have := HK1.out; have := HK2.out; have := HJ14.out; omega
                            case rel => exact ⟨(y384), (x9_2), (x10_2), (0), (wrap64 (x12_2 + 1)), (by first | rfl | (simp; done) | (simp [*]; done)), (by first | rfl | (simp; done) | (simp [*]; done)), (by first | rfl | (simp; done) | (simp [*]; done)), (by first | rfl | (simp; done) | (simp [*]; done)), H', ⟨by have := HK1.out; have := HK2.out; have := HJ14.out; omega⟩, ⟨by (with_reducible repeat (first | apply Kd.R_alloc | apply Kd.R_drewN | apply Kd.R_drew)); exact Kd.R_mono HO_3.out (fun _ hk => hk.2)⟩, ⟨by (with_reducible repeat (first | apply Kd.R_alloc | apply Kd.R_drewN | apply Kd.R_drew)); exact HO386.out⟩, ⟨by repeat (first | (with_reducible first | exact HB.out | apply below_alloc | apply pw_below_drewN | apply below_drew1) | exact HB.out)⟩⟩
                        · rw [if_neg c40] at H
                          exact absurd H (by simp)
                      · rw [if_neg c39] at H
                        have c39b0 : decide (0 < x11_2) = false := decide_eq_false c39
                        clear c39
                        by_cases c46 : x12_2 < (x3_1.length : Int)
                        · rw [if_pos c46] at H
                          have c46b0 : decide (x12_2 < (x3_1.length : Int)) = true := decide_eq_true c46
                          clear c46
                          by_cases c47 : 0 ≤ x12_2
                          · rw [if_pos c47] at H
                            have c47b0 : decide (0 ≤ x12_2) = true := decide_eq_true c47
                            clear c47
                            by_cases c48 : x9_2.size + ((rd_T37 x3_1 x12_2).f1).size ≤ 9223372036854775807
                            · rw [if_pos c48] at H
                              have c48b0 := eq_true c48
                              have c48b1 : decide (x9_2.size + ((rd_T37 x3_1 x12_2).f1).size ≤ 9223372036854775807) = true := decide_eq_true c48
                              try have c48b2 : (9223372036854775807 < x9_2.size + ((rd_T37 x3_1 x12_2).f1).size) = False := eq_false (Nat.not_lt.2 c48)
                              have H' := Aside0.mk H
                              clear H
                              have p389 : 0 ≤ (x12_2 : Int) := of_decide_eq_true (by first | (with_reducible assumption) | assumption)
                              have q389 : x12_2 < (x3_1.length : Int) := of_decide_eq_true (by first | (with_reducible assumption) | assumption)
                              obtain ⟨ad389, e389, hx389_0, hx389_1, hx389_2⟩ := at_T37 (Kd.R_reads' HO_3.out).2.2 x12_2 p389 q389
                              cases e389
                              replace p389 := eq_true p389
                              replace q389 := eq_true q389
                              have p390 : 0 ≤ (x12_2 : Int) := of_decide_eq_true (by first | (with_reducible assumption) | assumption)
                              have q390 : x12_2 < (x3_1.length : Int) := of_decide_eq_true (by first | (with_reducible assumption) | assumption)
                              obtain ⟨ad390, e390, hx390_0, hx390_1, hx390_2⟩ := at_T37 (Kd.R_reads' HO_3.out).2.2 x12_2 p390 q390
                              obtain rfl : ad389 = ad390 := (by injection e390)
                              replace p390 := eq_true p390
                              replace q390 := eq_true q390
                              go_wp2
                              go_roundg kj14
                              case measure => have := HK1.out; have := HK2.out; have := HJ14.out; omega
                              case rel => exact ⟨(x8_2), (x9_2 ++ ((rd_T37 x3_1 x12_2).f1)), (wrap64 (x10_2 + ((rd_T37 x3_1 x12_2).f2))), (0), (wrap64 (x12_2 + 1)), (by first | rfl | (simp; done) | (simp [*]; done)), (by first | rfl | (simp; done) | (simp [*]; done)), (by first | rfl | (simp; done) | (simp [*]; done)), (by first | rfl | (simp; done) | (simp [*]; done)), H', ⟨by have := HK1.out; have := HK2.out; have := HJ14.out; omega⟩, ⟨by (with_reducible repeat (first | apply Kd.R_alloc | apply Kd.R_drewN | apply Kd.R_drew)); exact HO_3.out⟩, ⟨by (with_reducible repeat (first | apply Kd.R_alloc | apply Kd.R_drewN | apply Kd.R_drew)); exact HO_8.out⟩, ⟨by repeat (first | (with_reducible first | exact HB.out | apply below_alloc | apply pw_below_drewN | apply below_drew1) | exact HB.out)⟩⟩
                            · rw [if_neg c48] at H
                              exact absurd H (by simp)
                          · rw [if_neg c47] at H
                            exact absurd H (by simp)
                        · rw [if_neg c46] at H
                          have c46b0 : decide (x12_2 < (x3_1.length : Int)) = false := decide_eq_false c46
                          clear c46
                          have H' := Aside0.mk H
                          clear H
                          go_wp2
                          go_roundg kj14
                          case measure => have := HK1.out; have := HK2.out; have := HJ14.out; omega
                          case rel => exact ⟨(x8_2), (x9_2), (x10_2), (0), (wrap64 (x12_2 + 1)), (by first | rfl | (simp; done) | (simp [*]; done)), (by first | rfl | (simp; done) | (simp [*]; done)), (by first | rfl | (simp; done) | (simp [*]; done)), (by first | rfl | (simp; done) | (simp [*]; done)), H', ⟨by have := HK1.out; have := HK2.out; have := HJ14.out; omega⟩, ⟨by (with_reducible repeat (first | apply Kd.R_alloc | apply Kd.R_drewN | apply Kd.R_drew)); exact HO_3.out⟩, ⟨by (with_reducible repeat (first | apply Kd.R_alloc | apply Kd.R_drewN | apply Kd.R_drew)); exact HO_8.out⟩, ⟨by repeat (first | (with_reducible first | exact HB.out | apply below_alloc | apply pw_below_drewN | apply below_drew1) | exact HB.out)⟩⟩
              · rw [if_neg c14] at H
                have c14b0 : decide (x12_2 ≤ (x3_1.length : Int)) = false := decide_eq_false c14
                clear c14
                have HC49 := Aside0.mk H
                clear H
                go_upto_if 105 with (fail)
                go_cut [8] (fun v8 wc => ∃ (kq : Nat) (x8_48 : List (S37)), Aside0 (variorumref06_Norm.j3 kq x8_48 x10_2 = some r) ∧ Aside0 (kq ≤ k2) ∧ Aside0 (Kd.R k37 37 wc w.heap.size (fun _ => True) v8 x8_48) ∧ Aside0 (Below w.heap.size w wc))
                case first =>
                  have H := HC49.out
                  clear HC49
                  by_cases c50 : x9_2.toList = ([] : List UInt8)
                  · rw [if_pos c50] at H
                    have c50b0 : (x9_2.toList == ([] : List UInt8)) = true := beq_iff_eq.mpr c50
                    have c50e : x9_2.toList.isEmpty = true := List.isEmpty_iff.mpr c50
                    have c50b1 : (x9_2.toList != ([] : List UInt8)) = false := bne_eq_false_iff_eq.mpr c50
                    clear c50
                    (first | rw [c50b0] | (simp only [i64_w, i32_w]; rw [c50b0]) | (rw [c50e]; simp only [Bool.not_true, Bool.not_false]) | skip)
                    have H' := Aside0.mk H
                    clear H
                    go_wp2
                    go_meet
                    case rel => exact ⟨_, (x8_2), H', ⟨by have := HK1.out; have := HK2.out; first | omega | exact Nat.le_refl _⟩, ⟨by (with_reducible repeat (first | apply Kd.R_alloc | apply Kd.R_drewN | apply Kd.R_drew)); exact Kd.R_mono HO_8.out (fun _ hk => trivial)⟩, ⟨by repeat (first | (with_reducible first | exact HB.out | apply below_alloc | apply pw_below_drewN | apply below_drew1) | exact HB.out)⟩⟩
                  · rw [if_neg c50] at H
                    have c50b0 : (x9_2.toList == ([] : List UInt8)) = false := beq_eq_false_iff_ne.mpr c50
                    have c50e : x9_2.toList.isEmpty = false := List.isEmpty_eq_false_iff.mpr c50
                    have c50b1 : (x9_2.toList != ([] : List UInt8)) = true := bne_iff_ne.mpr c50
                    (first | rw [c50b0] | (simp only [i64_w, i32_w]; rw [c50b0]) | (rw [c50e]; simp only [Bool.not_true, Bool.not_false]) | skip)
                    by_cases c51 : x8_2.length < 4398046511104
                    · rw [if_pos c51] at H
                      have LMc51 := Aside0.mk c51
                      clear c51
                      obtain ⟨y391, hy391⟩ : ∃ y_ : List (S37), y_ = (x8_2 ++ [(⟨0, x9_2, 0⟩ : S37)]) := ⟨_, rfl⟩
                      replace H : (variorumref06_Norm.j3 k2 y391 x10_2) = some r := by first | (rw [hy391]; with_reducible exact H) | (have H2_ := (Option.bind_some _ _).symm.trans H; rw [hy391]; with_reducible exact H2_) | (have H2_ := (Option.bind_some _ _).symm.trans H; with_reducible exact H2_) | with_reducible exact H | (rw [hy391]; exact H) | exact H
                      have Ny391 := Aside0.mk hy391
                      clear hy391
                      have H' := Aside0.mk H
                      clear H
                      go_wp2_with (first | ((with_reducible refine gate_builtin (b := .append) (xs := #[.tmp 106, .tmp 109]) rfl ?_); at_builtin; refine Kd.R_append k37 (w0 := w) w.heap.size rfl (.tmp 106) (.tmp 109) 22 37 (.agg #[(.int .i64 0), (.string ⟨#[]⟩), (.int .i64 0)]) 32 rfl Try.underlying22 info37 rfl (by decide) (by omega) u8 x8_2 (⟨0, x9_2, 0⟩ : S37) [.int .i64 0, .string x9_2, .int .i64 0] (fun k_ => some k_ ≠ (.slice Ao12 x3_1.length co12 : Value).ownBlock) (fun _ => False) rfl rfl ?aP (fun _ hk => hk.elim) ?aF ?aO ?aB ?aS ?aL ?_; (case aP => exact k37_mkM _ _ _ (⟨0, x9_2, 0⟩ : S37)); (case aB => exact (by repeat (first | (with_reducible first | exact HB.out | apply below_alloc | apply pw_below_drewN | apply below_drew1) | exact HB.out))); (case aF => exact (fun k_ hk => Kd.fresh' (Kd.R_lt (by (with_reducible repeat (first | apply Kd.R_alloc | apply Kd.R_drewN | apply Kd.R_drew)); exact HO_3.out)) k_ hk)); (case aO => exact (by (with_reducible repeat (first | apply Kd.R_alloc | apply Kd.R_drewN | apply Kd.R_drew)); exact HO_8.out)); (case aS => exact (below_size (by repeat (first | (with_reducible first | exact HB.out | apply below_alloc | apply pw_below_drewN | apply below_drew1) | exact HB.out)))); (case aL => have := LMc51.out; omega); intro v392 w52 ho hb hg hat; rw [← Ny391.out] at ho; have n0_ := Aside0.mk (Kd.R_after (ok := (fun _ => True)) (by (with_reducible repeat (first | apply Kd.R_alloc | apply Kd.R_drewN | apply Kd.R_drew)); exact Kd.R_mono HO_3.out (fun _ hk => ⟨trivial, hk⟩)) hg hat); have n1_ := Aside0.mk (hb); have n2_ := Aside0.mk (ho); clear HO_3; clear HB; clear HO_8; have HO_3 := n0_; have HB := n1_; have HO393 := n2_; clear n0_ n1_ n2_; clear ho hb hg hat))
                      go_meet
                      case rel => exact ⟨_, (y391), H', ⟨by have := HK1.out; have := HK2.out; first | omega | exact Nat.le_refl _⟩, ⟨by (with_reducible repeat (first | apply Kd.R_alloc | apply Kd.R_drewN | apply Kd.R_drew)); exact Kd.R_mono HO393.out (fun _ hk => trivial)⟩, ⟨by repeat (first | (with_reducible first | exact HB.out | apply below_alloc | apply pw_below_drewN | apply below_drew1) | exact HB.out)⟩⟩
                    · rw [if_neg c51] at H
                      exact absurd H (by simp)
                case rest =>
                  clear HC49
                  try clear c1
                  try clear c2
                  try clear c2b0
                  try clear p2
                  try clear c3
                  try clear c3b0
                  try clear p3
                  try clear q3
                  try clear hx3
                  try clear c4
                  try clear c5
                  try clear c5b0
                  try clear c6
                  try clear p6
                  try clear c11
                  try clear c14
                  try clear c14b0
                  try clear c16
                  try clear c16b0
                  try clear c17
                  try clear c17b0
                  try clear c20
                  try clear c21
                  try clear c21b0
                  try clear c21b1
                  try clear c22
                  try clear c22b0
                  try clear c23
                  try clear c24
                  try clear c24b0
                  try clear c25
                  try clear c25b0
                  try clear c27
                  try clear c27b0
                  try clear c28
                  try clear c28b0
                  try clear c29
                  try clear c30
                  try clear c30b0
                  try clear c31
                  try clear c32
                  try clear c32b0
                  try clear c33
                  try clear c33b0
                  try clear c36
                  try clear c36b0
                  try clear p36
                  try clear q36
                  try clear hx36
                  try clear c37
                  try clear c37b0
                  try clear p37
                  try clear q37
                  try clear hx37
                  try clear p38
                  try clear q38
                  try clear hx38
                  try clear c39
                  try clear c39b0
                  try clear p39
                  try clear q39
                  try clear hx39
                  try clear c40
                  try clear c41
                  try clear c41b0
                  try clear c42
                  try clear c42b0
                  try clear c43
                  try clear c43b0
                  try clear c43b1
                  try clear c43b2
                  try clear c46
                  try clear c46b0
                  try clear c47
                  try clear c47b0
                  try clear c48
                  try clear c48b0
                  try clear c48b1
                  try clear c48b2
                  try clear c50
                  try clear c50b0
                  try clear c50b1
                  try clear c51
                  try clear c52
                  try clear hx360_0
                  try clear hx360_1
                  try clear hx360_2
                  try clear hx362_0
                  try clear hx362_1
                  try clear hx362_2
                  try clear hx369_0
                  try clear hx369_1
                  try clear hx369_2
                  try clear hx374_0
                  try clear hx374_1
                  try clear hx374_2
                  try clear hx375_0
                  try clear hx375_1
                  try clear hx375_2
                  try clear hx382_0
                  try clear hx382_1
                  try clear hx382_2
                  try clear hx383_0
                  try clear hx383_1
                  try clear hx383_2
                  try clear hx387_0
                  try clear hx387_1
                  try clear hx387_2
                  try clear hx388_0
                  try clear hx388_1
                  try clear hx388_2
                  try clear hx389_0
                  try clear hx389_1
                  try clear hx389_2
                  try clear hx390_0
                  try clear hx390_1
                  try clear hx390_2
                  try clear p2
                  try clear p3
                  try clear p360
                  try clear p362
                  try clear p369
                  try clear p374
                  try clear p375
                  try clear p382
                  try clear p383
                  try clear p387
                  try clear p388
                  try clear p389
                  try clear p390
                  try clear p6
                  try clear q3
                  try clear q360
                  try clear q362
                  try clear q369
                  try clear q374
                  try clear q375
                  try clear q382
                  try clear q383
                  try clear q387
                  try clear q388
                  try clear q389
                  try clear q390
                  obtain ⟨kq, x8_48, HA, HJ48, HO_8, HB⟩ := hcut
                  cases kq with
                  | zero => exact absurd HA.out (by simp [variorumref06_Norm.j3])
                  | succ kj48 =>
                    have H := HA.out
                    clear HA
                    simp only [variorumref06_Norm.j3] at H
                    by_cases c53 : x10_2 > 0
                    · rw [if_pos c53] at H
                      have c53b0 : decide (0 < x10_2) = true := decide_eq_true c53
                      clear c53
                      by_cases c54 : x8_48.length < 4398046511104
                      · rw [if_pos c54] at H
                        have LMc54 := Aside0.mk c54
                        clear c54
                        obtain ⟨y394, hy394⟩ : ∃ y_ : List (S37), y_ = (x8_48 ++ [(⟨0, (⟨#[]⟩ : ByteArray), x10_2⟩ : S37)]) := ⟨_, rfl⟩
                        replace H : ((variorumref06_Good.f y394).bind fun t397 => (if t397 = true then (some y394) else (some ([] : List (S37))))) = some r := by first | (rw [hy394]; with_reducible exact H) | (have H2_ := (Option.bind_some _ _).symm.trans H; rw [hy394]; with_reducible exact H2_) | (have H2_ := (Option.bind_some _ _).symm.trans H; with_reducible exact H2_) | with_reducible exact H | (rw [hy394]; exact H) | exact H
                        have Ny394 := Aside0.mk hy394
                        clear hy394
                        replace H := Option.bind_eq_some_iff.mp H
                        obtain ⟨t397, A550, H⟩ := H
                        replace H : (if t397 = true then (some y394) else (some ([] : List (S37)))) = some r := H
                        have A55 := Aside0.mk A550
                        clear A550
                        by_cases c56 : t397 = true
                        · subst c56
                          have H1 : (some y394) = some r := by rw [if_pos rfl] at H; exact H
                          clear H
                          have H := H1
                          clear H1
                          obtain rfl := Option.some.inj H
                          go_wp2_with (first | ((with_reducible refine gate_builtin (b := .append) (xs := #[.tmp 113, .tmp 116]) rfl ?_); at_builtin; refine Kd.R_append k37 (w0 := w) w.heap.size rfl (.tmp 113) (.tmp 116) 22 37 (.agg #[(.int .i64 0), (.string ⟨#[]⟩), (.int .i64 0)]) 32 rfl Try.underlying22 info37 rfl (by decide) (by omega) u8 x8_48 (⟨0, (⟨#[]⟩ : ByteArray), x10_2⟩ : S37) [.int .i64 0, .string (⟨#[]⟩ : ByteArray), .int .i64 x10_2] (fun _ => True) (fun _ => False) rfl rfl ?aP (fun _ hk => hk.elim) ?aF ?aO ?aB ?aS ?aL ?_; (case aP => exact k37_mkM _ _ _ (⟨0, (⟨#[]⟩ : ByteArray), x10_2⟩ : S37)); (case aB => exact (by repeat (first | (with_reducible first | exact HB.out | apply below_alloc | apply pw_below_drewN | apply below_drew1) | exact HB.out))); (case aF => exact (fun _ _ => trivial)); (case aO => exact (by (with_reducible repeat (first | apply Kd.R_alloc | apply Kd.R_drewN | apply Kd.R_drew)); exact HO_8.out)); (case aS => exact (below_size (by repeat (first | (with_reducible first | exact HB.out | apply below_alloc | apply pw_below_drewN | apply below_drew1) | exact HB.out)))); (case aL => have := LMc54.out; omega); intro v395 w57 ho hb hg hat; rw [← Ny394.out] at ho; have n0_ := Aside0.mk (hb); have n1_ := Aside0.mk (ho); clear HB; clear HO_8; have HB := n0_; have HO396 := n1_; clear n0_ n1_; clear ho hb hg hat; obtain ⟨Ao58, co58, eo58⟩ := Kd.R_slice HO396.out; subst eo58) | ((with_reducible refine gate_callee (f := 18) rfl ?_); refine goesL_ (some 119) rfl rfl Try.func18 (by kernel_rfl) rfl #[.slice Ao58 y394.length co58] rfl (by (try simp only [List.map_toArray, List.map_cons, List.map_nil]); first | done | rfl | (simp only [List.length_drop, List.length_take]; rfl)) ?_; (with_reducible refine (variorumref06_Good.calls _ _ y394 true _ ?side1 ?side2 A55.out).mono ?_); (case side1 => repeat (first | exact (Kd.R_reads' HO396.out).2.2 | (with_reducible refine Kd.C_alloc ?_ _) | (with_reducible refine Kd.C_drewN ?_ _) | (with_reducible refine Kd.C_drew ?_))); (case side2 => exact (Kd.R_reads' HO396.out).2.1); rintro e w59 ⟨rfl, hb⟩; refine ⟨_, rfl, ?_⟩; have n0_ := Aside0.mk (Kd.R_below (by (with_reducible repeat (first | apply Kd.R_alloc | apply Kd.R_drewN | apply Kd.R_drew)); exact HO396.out) hb); have n1_ := Aside0.mk (below_step (by repeat (first | (with_reducible first | exact HB.out | apply below_alloc | apply pw_below_drewN | apply below_drew1) | exact HB.out)) hb); clear HO396; clear HB; have HO396 := n0_; have HB := n1_; clear n0_ n1_; (try clear hb); (try clear hb2); (try clear hk); (try clear hi)))
                          go_ret
                          exact ⟨_, by first | rfl | (simp [errW_none, errW_some] <;> rfl) | (simp [*, errW_none, errW_some] <;> rfl), by (with_reducible repeat (first | apply Kd.R_alloc | apply Kd.R_drewN | apply Kd.R_drew)); exact HO396.out, by repeat (first | (with_reducible first | exact HB.out | apply below_alloc | apply pw_below_drewN | apply below_drew1) | exact HB.out)⟩
                        · replace c56 := Bool.eq_false_iff.mpr c56
                          subst c56
                          have H1 : (some ([] : List (S37))) = some r := by rw [if_neg (show ¬ (false = true) by decide)] at H; exact H
                          clear H
                          have H := H1
                          clear H1
                          obtain rfl := Option.some.inj H
                          go_wp2_with (first | ((with_reducible refine gate_builtin (b := .append) (xs := #[.tmp 113, .tmp 116]) rfl ?_); at_builtin; refine Kd.R_append k37 (w0 := w) w.heap.size rfl (.tmp 113) (.tmp 116) 22 37 (.agg #[(.int .i64 0), (.string ⟨#[]⟩), (.int .i64 0)]) 32 rfl Try.underlying22 info37 rfl (by decide) (by omega) u8 x8_48 (⟨0, (⟨#[]⟩ : ByteArray), x10_2⟩ : S37) [.int .i64 0, .string (⟨#[]⟩ : ByteArray), .int .i64 x10_2] (fun _ => True) (fun _ => False) rfl rfl ?aP (fun _ hk => hk.elim) ?aF ?aO ?aB ?aS ?aL ?_; (case aP => exact k37_mkM _ _ _ (⟨0, (⟨#[]⟩ : ByteArray), x10_2⟩ : S37)); (case aB => exact (by repeat (first | (with_reducible first | exact HB.out | apply below_alloc | apply pw_below_drewN | apply below_drew1) | exact HB.out))); (case aF => exact (fun _ _ => trivial)); (case aO => exact (by (with_reducible repeat (first | apply Kd.R_alloc | apply Kd.R_drewN | apply Kd.R_drew)); exact HO_8.out)); (case aS => exact (below_size (by repeat (first | (with_reducible first | exact HB.out | apply below_alloc | apply pw_below_drewN | apply below_drew1) | exact HB.out)))); (case aL => have := LMc54.out; omega); intro v395 w60 ho hb hg hat; rw [← Ny394.out] at ho; have n0_ := Aside0.mk (hb); have n1_ := Aside0.mk (ho); clear HB; clear HO_8; have HB := n0_; have HO396 := n1_; clear n0_ n1_; clear ho hb hg hat; obtain ⟨Ao61, co61, eo61⟩ := Kd.R_slice HO396.out; subst eo61) | ((with_reducible refine gate_callee (f := 18) rfl ?_); refine goesL_ (some 119) rfl rfl Try.func18 (by kernel_rfl) rfl #[.slice Ao61 y394.length co61] rfl (by (try simp only [List.map_toArray, List.map_cons, List.map_nil]); first | done | rfl | (simp only [List.length_drop, List.length_take]; rfl)) ?_; (with_reducible refine (variorumref06_Good.calls _ _ y394 false _ ?side1 ?side2 A55.out).mono ?_); (case side1 => repeat (first | exact (Kd.R_reads' HO396.out).2.2 | (with_reducible refine Kd.C_alloc ?_ _) | (with_reducible refine Kd.C_drewN ?_ _) | (with_reducible refine Kd.C_drew ?_))); (case side2 => exact (Kd.R_reads' HO396.out).2.1); rintro e w62 ⟨rfl, hb⟩; refine ⟨_, rfl, ?_⟩; have n0_ := Aside0.mk (Kd.R_below (by (with_reducible repeat (first | apply Kd.R_alloc | apply Kd.R_drewN | apply Kd.R_drew)); exact HO396.out) hb); have n1_ := Aside0.mk (below_step (by repeat (first | (with_reducible first | exact HB.out | apply below_alloc | apply pw_below_drewN | apply below_drew1) | exact HB.out)) hb); clear HO396; clear HB; have HO396 := n0_; have HB := n1_; clear n0_ n1_; (try clear hb); (try clear hb2); (try clear hk); (try clear hi)))
                          go_ret
                          exact ⟨_, by first | rfl | (simp [errW_none, errW_some] <;> rfl) | (simp [*, errW_none, errW_some] <;> rfl), by first | exact Kd.R_nil _ _ _ _ _ | exact Kd.N_nil _ _ _ _ _ | exact Kd.V_nil _ _ _ _ _ | exact Kd.Q_nil _ _ _ _ _ | exact Kd.S_nil _ _ _ _ _, by repeat (first | (with_reducible first | exact HB.out | apply below_alloc | apply pw_below_drewN | apply below_drew1) | exact HB.out)⟩
                      · rw [if_neg c54] at H
                        exact absurd H (by simp)
                    · rw [if_neg c53] at H
                      have c53b0 : decide (0 < x10_2) = false := decide_eq_false c53
                      clear c53
                      replace H := Option.bind_eq_some_iff.mp H
                      obtain ⟨t398, A630, H⟩ := H
                      replace H : (if t398 = true then (some x8_48) else (some ([] : List (S37)))) = some r := H
                      have A63 := Aside0.mk A630
                      clear A630
                      by_cases c64 : t398 = true
                      · subst c64
                        have H1 : (some x8_48) = some r := by rw [if_pos rfl] at H; exact H
                        clear H
                        have H := H1
                        clear H1
                        obtain rfl := Option.some.inj H
                        obtain ⟨Ao65, co65, eo65⟩ := Kd.R_slice HO_8.out
                        subst eo65
                        go_wp2_with (first | ((with_reducible refine gate_callee (f := 18) rfl ?_); refine goesL_ (some 119) rfl rfl Try.func18 (by kernel_rfl) rfl #[.slice Ao65 x8_48.length co65] rfl (by (try simp only [List.map_toArray, List.map_cons, List.map_nil]); first | done | rfl | (simp only [List.length_drop, List.length_take]; rfl)) ?_; (with_reducible refine (variorumref06_Good.calls _ _ x8_48 true _ ?side1 ?side2 A63.out).mono ?_); (case side1 => repeat (first | exact (Kd.R_reads' HO_8.out).2.2 | (with_reducible refine Kd.C_alloc ?_ _) | (with_reducible refine Kd.C_drewN ?_ _) | (with_reducible refine Kd.C_drew ?_))); (case side2 => exact (Kd.R_reads' HO_8.out).2.1); rintro e w66 ⟨rfl, hb⟩; refine ⟨_, rfl, ?_⟩; have n0_ := Aside0.mk (Kd.R_below (by (with_reducible repeat (first | apply Kd.R_alloc | apply Kd.R_drewN | apply Kd.R_drew)); exact HO_8.out) hb); have n1_ := Aside0.mk (below_step (by repeat (first | (with_reducible first | exact HB.out | apply below_alloc | apply pw_below_drewN | apply below_drew1) | exact HB.out)) hb); clear HO_8; clear HB; have HO_8 := n0_; have HB := n1_; clear n0_ n1_; (try clear hb); (try clear hb2); (try clear hk); (try clear hi)))
                        go_ret
                        exact ⟨_, by first | rfl | (simp [errW_none, errW_some] <;> rfl) | (simp [*, errW_none, errW_some] <;> rfl), by (with_reducible repeat (first | apply Kd.R_alloc | apply Kd.R_drewN | apply Kd.R_drew)); exact HO_8.out, by repeat (first | (with_reducible first | exact HB.out | apply below_alloc | apply pw_below_drewN | apply below_drew1) | exact HB.out)⟩
                      · replace c64 := Bool.eq_false_iff.mpr c64
                        subst c64
                        have H1 : (some ([] : List (S37))) = some r := by rw [if_neg (show ¬ (false = true) by decide)] at H; exact H
                        clear H
                        have H := H1
                        clear H1
                        obtain rfl := Option.some.inj H
                        obtain ⟨Ao67, co67, eo67⟩ := Kd.R_slice HO_8.out
                        subst eo67
                        go_wp2_with (first | ((with_reducible refine gate_callee (f := 18) rfl ?_); refine goesL_ (some 119) rfl rfl Try.func18 (by kernel_rfl) rfl #[.slice Ao67 x8_48.length co67] rfl (by (try simp only [List.map_toArray, List.map_cons, List.map_nil]); first | done | rfl | (simp only [List.length_drop, List.length_take]; rfl)) ?_; (with_reducible refine (variorumref06_Good.calls _ _ x8_48 false _ ?side1 ?side2 A63.out).mono ?_); (case side1 => repeat (first | exact (Kd.R_reads' HO_8.out).2.2 | (with_reducible refine Kd.C_alloc ?_ _) | (with_reducible refine Kd.C_drewN ?_ _) | (with_reducible refine Kd.C_drew ?_))); (case side2 => exact (Kd.R_reads' HO_8.out).2.1); rintro e w68 ⟨rfl, hb⟩; refine ⟨_, rfl, ?_⟩; have n0_ := Aside0.mk (Kd.R_below (by (with_reducible repeat (first | apply Kd.R_alloc | apply Kd.R_drewN | apply Kd.R_drew)); exact HO_8.out) hb); have n1_ := Aside0.mk (below_step (by repeat (first | (with_reducible first | exact HB.out | apply below_alloc | apply pw_below_drewN | apply below_drew1) | exact HB.out)) hb); clear HO_8; clear HB; have HO_8 := n0_; have HB := n1_; clear n0_ n1_; (try clear hb); (try clear hb2); (try clear hk); (try clear hi)))
                        go_ret
                        exact ⟨_, by first | rfl | (simp [errW_none, errW_some] <;> rfl) | (simp [*, errW_none, errW_some] <;> rfl), by first | exact Kd.R_nil _ _ _ _ _ | exact Kd.N_nil _ _ _ _ _ | exact Kd.V_nil _ _ _ _ _ | exact Kd.Q_nil _ _ _ _ _ | exact Kd.S_nil _ _ _ _ _, by repeat (first | (with_reducible first | exact HB.out | apply below_alloc | apply pw_below_drewN | apply below_drew1) | exact HB.out)⟩
        · replace c11 := Bool.eq_false_iff.mpr c11
          subst c11
          have H1 : (some ([] : List (S37))) = some r := by rw [if_neg (show ¬ (false = true) by decide)] at H; exact H
          clear H
          have H := H1
          clear H1
          obtain rfl := Option.some.inj H
          obtain ⟨Ao69, co69, eo69⟩ := Kd.R_slice HO_3.out
          subst eo69
          go_wp2_with (first | ((with_reducible refine gate_callee (f := 53) rfl ?_); refine goesL_ (some 34) rfl rfl Try.func53 (by kernel_rfl) rfl #[.slice Ao69 x3_1.length co69] rfl (by (try simp only [List.map_toArray, List.map_cons, List.map_nil]); first | done | rfl | (simp only [List.length_drop, List.length_take]; rfl)) ?_; (with_reducible refine (variorumref06_sums.calls k1 _ _ x3_1 t366 t367 false _ ?side1 ?side2 A10.out).mono ?_); (case side1 => repeat (first | exact (Kd.R_reads' HO_3.out).2.2 | (with_reducible refine Kd.C_alloc ?_ _) | (with_reducible refine Kd.C_drewN ?_ _) | (with_reducible refine Kd.C_drew ?_))); (case side2 => exact (Kd.R_reads' HO_3.out).2.1); rintro e w70 ⟨rfl, hb⟩; refine ⟨_, rfl, ?_⟩; have n0_ := Aside0.mk (Kd.R_below (by (with_reducible repeat (first | apply Kd.R_alloc | apply Kd.R_drewN | apply Kd.R_drew)); exact HO_3.out) hb); have n1_ := Aside0.mk (below_step (by repeat (first | (with_reducible first | exact HB.out | apply below_alloc | apply pw_below_drewN | apply below_drew1) | exact HB.out)) hb); clear HO_3; clear HB; have HO_3 := n0_; have HB := n1_; clear n0_ n1_; (try clear hb); (try clear hb2); (try clear hk); (try clear hi)))
          go_ret
          exact ⟨_, by first | rfl | (simp [errW_none, errW_some] <;> rfl) | (simp [*, errW_none, errW_some] <;> rfl), by first | exact Kd.R_nil _ _ _ _ _ | exact Kd.N_nil _ _ _ _ _ | exact Kd.V_nil _ _ _ _ _ | exact Kd.Q_nil _ _ _ _ _ | exact Kd.S_nil _ _ _ _ _, by repeat (first | (with_reducible first | exact HB.out | apply below_alloc | apply pw_below_drewN | apply below_drew1) | exact HB.out)⟩

end Go.Proofs.Ythocalfgeaclgaa.P
end
-- MERGED YthocalfgeaclgaaPvariorumref07Between
section
-- Written by wip/myprint.py of this session, over the kit's print.py: a Lean function for each Go function, and the proof that the code comes to it.
namespace Go.Proofs.Ythocalfgeaclgaa.P
open Go.RowKit Go.Proofs.YthocalfgeaclgaaW.PrintWords Go.Proofs.YthocalfgeaclgaaW.PrintLast Go.Proofs.YthocalfgeaclgaaW.PrintMore
attribute [local go_sem] max2_int min2_int max_two min_two max_three min_three max_four min_four   -- for this text's walks alone
set_option linter.unusedVariables false
set_option linter.unusedSimpArgs false

/-! ### variorumref07_Between: function 44 -/
mutual
def variorumref07_Between.j0 : Nat → ByteArray → ByteArray → Bool → Option ((List (S37)))
  | 0, _, _, _ => none
  | k + 1, x0, x1, x14 => if x14 = true then (some ([] : List (S37))) else (variorumref07_Between.l0 k x0 x1 0)
def variorumref07_Between.j2 : Nat → ByteArray → ByteArray → Int → Option ((List (S37)))
  | 0, _, _, _ => none
  | k + 1, x0, x1, x5 => variorumref07_Between.l1 k x0 x1 x5 0
def variorumref07_Between.l1 : Nat → ByteArray → ByteArray → Int → Int → Option ((List (S37)))
  | 0, _, _, _, _ => none
  | k + 1, x0, x1, x5, x6 => if x6 < (wrap64 ((x0.size : Int) - x5)) then (if x6 < (wrap64 ((x1.size : Int) - x5)) then (if 0 ≤ (wrap64 ((wrap64 ((x0.size : Int) - 1)) - x6)) then (if (wrap64 ((wrap64 ((x0.size : Int) - 1)) - x6)) < (x0.size : Int) then (if 0 ≤ (wrap64 ((wrap64 ((x1.size : Int) - 1)) - x6)) then (if (wrap64 ((wrap64 ((x1.size : Int) - 1)) - x6)) < (x1.size : Int) then (if (bt x0 (wrap64 ((wrap64 ((x0.size : Int) - 1)) - x6))) = (bt x1 (wrap64 ((wrap64 ((x1.size : Int) - 1)) - x6))) then (variorumref07_Between.l1 k x0 x1 x5 (wrap64 (x6 + 1))) else (if 0 ≤ x5 then (if x5 ≤ (wrap64 ((x1.size : Int) - x6)) then (if (wrap64 ((x1.size : Int) - x6)) ≤ (x1.size : Int) then ((variorumref06_Norm.f k (([(⟨x5, (⟨#[]⟩ : ByteArray), 0⟩ : S37), (⟨0, x1.extract (x5 : Int).toNat ((wrap64 ((x1.size : Int) - x6)) : Int).toNat, 0⟩ : S37), (⟨0, (⟨#[]⟩ : ByteArray), wrap64 ((wrap64 ((x0.size : Int) - x6)) - x5)⟩ : S37), (⟨x6, (⟨#[]⟩ : ByteArray), 0⟩ : S37)] : List (S37)))).bind fun t511 => (some t511)) else (none)) else (none)) else (none))) else (none)) else (none)) else (none)) else (none)) else (if 0 ≤ x5 then (if x5 ≤ (wrap64 ((x1.size : Int) - x6)) then (if (wrap64 ((x1.size : Int) - x6)) ≤ (x1.size : Int) then ((variorumref06_Norm.f k (([(⟨x5, (⟨#[]⟩ : ByteArray), 0⟩ : S37), (⟨0, x1.extract (x5 : Int).toNat ((wrap64 ((x1.size : Int) - x6)) : Int).toNat, 0⟩ : S37), (⟨0, (⟨#[]⟩ : ByteArray), wrap64 ((wrap64 ((x0.size : Int) - x6)) - x5)⟩ : S37), (⟨x6, (⟨#[]⟩ : ByteArray), 0⟩ : S37)] : List (S37)))).bind fun t517 => (some t517)) else (none)) else (none)) else (none))) else (if 0 ≤ x5 then (if x5 ≤ (wrap64 ((x1.size : Int) - x6)) then (if (wrap64 ((x1.size : Int) - x6)) ≤ (x1.size : Int) then ((variorumref06_Norm.f k (([(⟨x5, (⟨#[]⟩ : ByteArray), 0⟩ : S37), (⟨0, x1.extract (x5 : Int).toNat ((wrap64 ((x1.size : Int) - x6)) : Int).toNat, 0⟩ : S37), (⟨0, (⟨#[]⟩ : ByteArray), wrap64 ((wrap64 ((x0.size : Int) - x6)) - x5)⟩ : S37), (⟨x6, (⟨#[]⟩ : ByteArray), 0⟩ : S37)] : List (S37)))).bind fun t523 => (some t523)) else (none)) else (none)) else (none))
def variorumref07_Between.l0 : Nat → ByteArray → ByteArray → Int → Option ((List (S37)))
  | 0, _, _, _ => none
  | k + 1, x0, x1, x5 => if x5 < (x0.size : Int) then (if x5 < (x1.size : Int) then (if 0 ≤ x5 then (if (bt x0 x5) = (bt x1 x5) then (variorumref07_Between.l0 k x0 x1 (wrap64 (x5 + 1))) else (variorumref07_Between.j2 k x0 x1 x5)) else (none)) else (variorumref07_Between.j2 k x0 x1 x5)) else (variorumref07_Between.j2 k x0 x1 x5)
end
def variorumref07_Between.f (k : Nat) (a0 : ByteArray) (a1 : ByteArray) : Option ((List (S37))) := if (a0.size : Int) > 16777216 then (variorumref07_Between.j0 k a0 a1 true) else (variorumref07_Between.j0 k a0 a1 (decide ((a1.size : Int) > 16777216)))
theorem variorumref07_Between.mono_l : ∀ k, (∀ y0 y1 y2, LeO (variorumref07_Between.j0 k y0 y1 y2) (variorumref07_Between.j0 (k + 1) y0 y1 y2)) ∧ (∀ y0 y1 y2, LeO (variorumref07_Between.j2 k y0 y1 y2) (variorumref07_Between.j2 (k + 1) y0 y1 y2)) ∧ (∀ y0 y1 y2 y3, LeO (variorumref07_Between.l1 k y0 y1 y2 y3) (variorumref07_Between.l1 (k + 1) y0 y1 y2 y3)) ∧ (∀ y0 y1 y2, LeO (variorumref07_Between.l0 k y0 y1 y2) (variorumref07_Between.l0 (k + 1) y0 y1 y2))
  | 0 => ⟨fun _ _ _ r h => by simp [variorumref07_Between.j0] at h, fun _ _ _ r h => by simp [variorumref07_Between.j2] at h, fun _ _ _ _ r h => by simp [variorumref07_Between.l1] at h, fun _ _ _ r h => by simp [variorumref07_Between.l0] at h⟩
  | k + 1 => by
    obtain ⟨ih0, ih1, ih2, ih3⟩ := variorumref07_Between.mono_l k
    refine ⟨?_, ?_, ?_, ?_⟩
    · intro y0 y1 y2
      unfold variorumref07_Between.j0
      repeat' first
      | (with_reducible exact ih0 _ _ _)
      | (with_reducible exact ih1 _ _ _)
      | (with_reducible exact ih2 _ _ _ _)
      | (with_reducible exact ih3 _ _ _)
      | (with_reducible exact variorumref06_Norm.mono _ _)
      | (with_reducible exact LeO.refl _)
      | (with_reducible exact LeO.none _)
      | (with_reducible refine LeO.ite ?_ ?_)
      | (with_reducible refine LeO.bind ?_ (fun _ => ?_))
      | exact ih0 _ _ _
      | exact ih1 _ _ _
      | exact ih2 _ _ _ _
      | exact ih3 _ _ _
      | exact variorumref06_Norm.mono _ _
      | exact LeO.none _
      | refine LeO.ite ?_ ?_
      | refine LeO.bind ?_ (fun _ => ?_)
    · intro y0 y1 y2
      unfold variorumref07_Between.j2
      repeat' first
      | (with_reducible exact ih0 _ _ _)
      | (with_reducible exact ih1 _ _ _)
      | (with_reducible exact ih2 _ _ _ _)
      | (with_reducible exact ih3 _ _ _)
      | (with_reducible exact variorumref06_Norm.mono _ _)
      | (with_reducible exact LeO.refl _)
      | (with_reducible exact LeO.none _)
      | (with_reducible refine LeO.ite ?_ ?_)
      | (with_reducible refine LeO.bind ?_ (fun _ => ?_))
      | exact ih0 _ _ _
      | exact ih1 _ _ _
      | exact ih2 _ _ _ _
      | exact ih3 _ _ _
      | exact variorumref06_Norm.mono _ _
      | exact LeO.none _
      | refine LeO.ite ?_ ?_
      | refine LeO.bind ?_ (fun _ => ?_)
    · intro y0 y1 y2 y3
      unfold variorumref07_Between.l1
      repeat' first
      | (with_reducible exact ih0 _ _ _)
      | (with_reducible exact ih1 _ _ _)
      | (with_reducible exact ih2 _ _ _ _)
      | (with_reducible exact ih3 _ _ _)
      | (with_reducible exact variorumref06_Norm.mono _ _)
      | (with_reducible exact LeO.refl _)
      | (with_reducible exact LeO.none _)
      | (with_reducible refine LeO.ite ?_ ?_)
      | (with_reducible refine LeO.bind ?_ (fun _ => ?_))
      | exact ih0 _ _ _
      | exact ih1 _ _ _
      | exact ih2 _ _ _ _
      | exact ih3 _ _ _
      | exact variorumref06_Norm.mono _ _
      | exact LeO.none _
      | refine LeO.ite ?_ ?_
      | refine LeO.bind ?_ (fun _ => ?_)
    · intro y0 y1 y2
      unfold variorumref07_Between.l0
      repeat' first
      | (with_reducible exact ih0 _ _ _)
      | (with_reducible exact ih1 _ _ _)
      | (with_reducible exact ih2 _ _ _ _)
      | (with_reducible exact ih3 _ _ _)
      | (with_reducible exact variorumref06_Norm.mono _ _)
      | (with_reducible exact LeO.refl _)
      | (with_reducible exact LeO.none _)
      | (with_reducible refine LeO.ite ?_ ?_)
      | (with_reducible refine LeO.bind ?_ (fun _ => ?_))
      | exact ih0 _ _ _
      | exact ih1 _ _ _
      | exact ih2 _ _ _ _
      | exact ih3 _ _ _
      | exact variorumref06_Norm.mono _ _
      | exact LeO.none _
      | refine LeO.ite ?_ ?_
      | refine LeO.bind ?_ (fun _ => ?_)
theorem variorumref07_Between.mono : ∀ a0 a1 k, LeO (variorumref07_Between.f k a0 a1) (variorumref07_Between.f (k + 1) a0 a1) := by
  intro a0 a1 k
  obtain ⟨ih0, ih1, ih2, ih3⟩ := variorumref07_Between.mono_l k
  unfold variorumref07_Between.f
  repeat' first
      | (with_reducible exact ih0 _ _ _)
      | (with_reducible exact ih1 _ _ _)
      | (with_reducible exact ih2 _ _ _ _)
      | (with_reducible exact ih3 _ _ _)
      | (with_reducible exact variorumref06_Norm.mono _ _)
      | (with_reducible exact LeO.refl _)
      | (with_reducible exact LeO.none _)
      | (with_reducible refine LeO.ite ?_ ?_)
      | (with_reducible refine LeO.bind ?_ (fun _ => ?_))
      | exact ih0 _ _ _
      | exact ih1 _ _ _
      | exact ih2 _ _ _ _
      | exact ih3 _ _ _
      | exact variorumref06_Norm.mono _ _
      | exact LeO.none _
      | refine LeO.ite ?_ ?_
      | refine LeO.bind ?_ (fun _ => ?_)
set_option maxHeartbeats 8000000 in
set_option maxRecDepth 100000 in
theorem variorumref07_Between.calls (k : Nat) (a0 : ByteArray) (a1 : ByteArray) (r : List (S37)) (w : World) (h : variorumref07_Between.f k a0 a1 = some r) :
    Calls Try.prog 44 #[.string a0, .string a1] w fun e w' => ∃ v0_ : Value, e = .returned (v0_) ∧ Kd.R k37 37 w' w.heap.size (fun _ => True) v0_ r ∧ Below w.heap.size w w' := by
  have hu37 := Try.underlying37
  have HB := Aside0.mk (Below.refl w.heap.size w)
  have H : (if (a0.size : Int) > 16777216 then (variorumref07_Between.j0 k a0 a1 true) else (variorumref07_Between.j0 k a0 a1 (decide ((a1.size : Int) > 16777216)))) = some r := h
  clear h
  have HC3 := Aside0.mk H
  clear H
  go_enter Try.func44, Try.ntmps44
  go_upto_region 1 with (fail)
  repeat (go_quiet (fail); go_upto_region 1 with (fail))
  go_cut [14] (fun v14 wc => ∃ (kq : Nat) (x14_2 : Bool), v14 = .bool x14_2 ∧ Aside0 (variorumref07_Between.j0 kq a0 a1 x14_2 = some r) ∧ Aside0 (kq ≤ k) ∧ Aside0 (Below w.heap.size w wc))
  case first =>
    have H := HC3.out
    clear HC3
    by_cases c4 : (a0.size : Int) > 16777216
    · rw [if_pos c4] at H
      have c4b0 : decide (16777216 < (a0.size : Int)) = true := decide_eq_true c4
      have c4b1 : decide (16777216 < a0.size) = true := decide_eq_true (by omega)
      clear c4
      (first | rw [c4b0] | (simp only [i64_w, i32_w]; rw [c4b0]) | skip)
      have H' := Aside0.mk H
      clear H
      go_wp2
      repeat (go_quiet (fail); try go_wp2)
      go_meet
      case rel => exact ⟨_, (true), (by first | rfl | (simp; done) | (simp [*]; done)), H', ⟨by first | omega | exact Nat.le_refl _⟩, ⟨by repeat (first | (with_reducible first | exact HB.out | apply below_alloc | apply pw_below_drewN | apply below_drew1) | exact HB.out)⟩⟩
    · rw [if_neg c4] at H
      have c4b0 : decide (16777216 < (a0.size : Int)) = false := decide_eq_false c4
      have c4b1 : decide (16777216 < a0.size) = false := decide_eq_false (by omega)
      clear c4
      (first | rw [c4b0] | (simp only [i64_w, i32_w]; rw [c4b0]) | skip)
      have H' := Aside0.mk H
      clear H
      go_wp2
      repeat (go_quiet (fail); try go_wp2)
      go_meet
      case rel => exact ⟨_, (decide ((a1.size : Int) > 16777216)), (by first | rfl | (simp; done) | (simp [*]; done)), H', ⟨by first | omega | exact Nat.le_refl _⟩, ⟨by repeat (first | (with_reducible first | exact HB.out | apply below_alloc | apply pw_below_drewN | apply below_drew1) | exact HB.out)⟩⟩
  case rest =>
    clear HC3
    try clear p2
    try clear c4
    try clear c4b0
    try clear c4b1
    obtain ⟨kq, x14_2, rfl, HA, HJ2, HB⟩ := hcut
    cases kq with
    | zero => exact absurd HA.out (by simp [variorumref07_Between.j0])
    | succ kj2 =>
      have H := HA.out
      clear HA
      simp only [variorumref07_Between.j0] at H
      by_cases c5 : x14_2 = true
      · subst c5
        have H1 : (some ([] : List (S37))) = some r := by rw [if_pos rfl] at H; exact H
        clear H
        have H := H1
        clear H1
        obtain rfl := Option.some.inj H
        go_wp2
        repeat (go_quiet (fail); try go_wp2)
        go_ret
        exact ⟨_, by first | rfl | (simp [errW_none, errW_some] <;> rfl) | (simp [*, errW_none, errW_some] <;> rfl), by first | exact Kd.R_nil _ _ _ _ _ | exact Kd.N_nil _ _ _ _ _ | exact Kd.V_nil _ _ _ _ _ | exact Kd.Q_nil _ _ _ _ _ | exact Kd.S_nil _ _ _ _ _, by repeat (first | (with_reducible first | exact HB.out | apply below_alloc | apply pw_below_drewN | apply below_drew1) | exact HB.out)⟩
      · replace c5 := Bool.eq_false_iff.mpr c5
        subst c5
        have H1 : (variorumref07_Between.l0 kj2 a0 a1 0) = some r := by rw [if_neg (show ¬ (false = true) by decide)] at H; exact H
        clear H
        have H := H1
        clear H1
        have HC6 := Aside0.mk H
        clear H
        go_upto_block 0 with (fail)
        repeat (go_quiet (fail); go_upto_block 0 with (fail))
        go_cut [5] (fun v5 wc => ∃ (kq : Nat) (x5_5 : Int), v5 = .int .i64 x5_5 ∧ Aside0 (variorumref07_Between.j2 kq a0 a1 x5_5 = some r) ∧ Aside0 (kq ≤ kj2) ∧ Aside0 (Below w.heap.size w wc))
        case first =>
          have H := HC6.out
          clear HC6
          have H' := Aside0.mk H
          clear H
          go_wp2
          repeat (go_quiet (fail); try go_wp2)
          go_loopg [5] kj2 (fun kq v5 w' => ∃ (x5_2 : Int), v5 = .int .i64 x5_2 ∧ Aside0 (variorumref07_Between.l0 kq a0 a1 x5_2 = some r) ∧ Aside0 (kq ≤ kj2) ∧ Aside0 (Below w.heap.size w w'))
          case atStart => exact ⟨(0), (by first | rfl | (simp; done) | (simp [*]; done)), H', ⟨Nat.le_refl _⟩, ⟨by repeat (first | (with_reducible first | exact HB.out | apply below_alloc | apply pw_below_drewN | apply below_drew1) | exact HB.out)⟩⟩
          case round =>
            clear H'
            try clear p2
            try clear c4
            try clear c4b0
            try clear c4b1
            try clear c5
            try clear p2
            obtain ⟨x5_2, rfl, HA, HK2, HB⟩ := hrel
            cases gk with
            | zero => exact absurd HA.out (by simp [variorumref07_Between.l0])
            | succ k2 =>
              have H := HA.out
              clear HA
              simp only [variorumref07_Between.l0] at H
              by_cases c7 : x5_2 < (a0.size : Int)
              · rw [if_pos c7] at H
                have c7b0 : decide (x5_2 < (a0.size : Int)) = true := decide_eq_true c7
                clear c7
                (first | rw [c7b0] | (simp only [i64_w, i32_w]; rw [c7b0]) | skip)
                by_cases c8 : x5_2 < (a1.size : Int)
                · rw [if_pos c8] at H
                  have c8b0 : decide (x5_2 < (a1.size : Int)) = true := decide_eq_true c8
                  clear c8
                  by_cases c9 : 0 ≤ x5_2
                  · rw [if_pos c9] at H
                    have c9b0 : decide (0 ≤ x5_2) = true := decide_eq_true c9
                    clear c9
                    by_cases c12 : (bt a0 x5_2) = (bt a1 x5_2)
                    · rw [if_pos c12] at H
                      have c12b0 : ((bt a0 x5_2) == (bt a1 x5_2)) = true := beq_iff_eq.mpr c12
                      have c12b1 : ((bt a0 x5_2) != (bt a1 x5_2)) = false := bne_eq_false_iff_eq.mpr c12
                      clear c12
                      have H' := Aside0.mk H
                      clear H
                      have p10 : 0 ≤ (x5_2 : Int) := of_decide_eq_true (by first | (with_reducible assumption) | assumption)
                      have q10 : x5_2 < (a0.size : Int) := of_decide_eq_true (by first | (with_reducible assumption) | assumption)
                      have hx10 := bt_at a0 x5_2
                      replace p10 := eq_true p10
                      replace q10 := eq_true q10
                      have p11 : 0 ≤ (x5_2 : Int) := of_decide_eq_true (by first | (with_reducible assumption) | assumption)
                      have q11 : x5_2 < (a1.size : Int) := of_decide_eq_true (by first | (with_reducible assumption) | assumption)
                      have hx11 := bt_at a1 x5_2
                      replace p11 := eq_true p11
                      replace q11 := eq_true q11
                      go_wp2
                      repeat (go_quiet (fail); try go_wp2)
                      go_roundg k2
                      case measure => have := HJ2.out; have := HK2.out; omega
                      case rel => exact ⟨(wrap64 (x5_2 + 1)), (by first | rfl | (simp; done) | (simp [*]; done)), H', ⟨by have := HJ2.out; have := HK2.out; omega⟩, ⟨by repeat (first | (with_reducible first | exact HB.out | apply below_alloc | apply pw_below_drewN | apply below_drew1) | exact HB.out)⟩⟩
                    · rw [if_neg c12] at H
                      have c12b0 : ((bt a0 x5_2) == (bt a1 x5_2)) = false := beq_eq_false_iff_ne.mpr c12
                      have c12b1 : ((bt a0 x5_2) != (bt a1 x5_2)) = true := bne_iff_ne.mpr c12
                      have H' := Aside0.mk H
                      clear H
                      have p10 : 0 ≤ (x5_2 : Int) := of_decide_eq_true (by first | (with_reducible assumption) | assumption)
                      have q10 : x5_2 < (a0.size : Int) := of_decide_eq_true (by first | (with_reducible assumption) | assumption)
                      have hx10 := bt_at a0 x5_2
                      replace p10 := eq_true p10
                      replace q10 := eq_true q10
                      have p11 : 0 ≤ (x5_2 : Int) := of_decide_eq_true (by first | (with_reducible assumption) | assumption)
                      have q11 : x5_2 < (a1.size : Int) := of_decide_eq_true (by first | (with_reducible assumption) | assumption)
                      have hx11 := bt_at a1 x5_2
                      replace p11 := eq_true p11
                      replace q11 := eq_true q11
                      go_wp2
                      repeat (go_quiet (fail); try go_wp2)
                      go_meet
                      case rel => exact ⟨_, (x5_2), (by first | rfl | (simp; done) | (simp [*]; done)), H', ⟨by have := HJ2.out; have := HK2.out; first | omega | exact Nat.le_refl _⟩, ⟨by repeat (first | (with_reducible first | exact HB.out | apply below_alloc | apply pw_below_drewN | apply below_drew1) | exact HB.out)⟩⟩
                  · rw [if_neg c9] at H
                    exact absurd H (by simp)
                · rw [if_neg c8] at H
                  have c8b0 : decide (x5_2 < (a1.size : Int)) = false := decide_eq_false c8
                  clear c8
                  have H' := Aside0.mk H
                  clear H
                  go_wp2
                  repeat (go_quiet (fail); try go_wp2)
                  go_meet
                  case rel => exact ⟨_, (x5_2), (by first | rfl | (simp; done) | (simp [*]; done)), H', ⟨by have := HJ2.out; have := HK2.out; first | omega | exact Nat.le_refl _⟩, ⟨by repeat (first | (with_reducible first | exact HB.out | apply below_alloc | apply pw_below_drewN | apply below_drew1) | exact HB.out)⟩⟩
              · rw [if_neg c7] at H
                have c7b0 : decide (x5_2 < (a0.size : Int)) = false := decide_eq_false c7
                clear c7
                (first | rw [c7b0] | (simp only [i64_w, i32_w]; rw [c7b0]) | skip)
                have H' := Aside0.mk H
                clear H
                go_wp2
                repeat (go_quiet (fail); try go_wp2)
                go_meet
                case rel => exact ⟨_, (x5_2), (by first | rfl | (simp; done) | (simp [*]; done)), H', ⟨by have := HJ2.out; have := HK2.out; first | omega | exact Nat.le_refl _⟩, ⟨by repeat (first | (with_reducible first | exact HB.out | apply below_alloc | apply pw_below_drewN | apply below_drew1) | exact HB.out)⟩⟩
        case rest =>
          clear HC6
          try clear c1
          try clear p1
          try clear q1
          try clear hx1
          try clear p2
          try clear c4
          try clear c4b0
          try clear c4b1
          try clear c5
          try clear p6
          try clear c7
          try clear c7b0
          try clear c8
          try clear c8b0
          try clear c9
          try clear c9b0
          try clear p10
          try clear q10
          try clear hx10
          try clear p11
          try clear q11
          try clear hx11
          try clear c12
          try clear c12b0
          try clear c12b1
          try clear p10
          try clear p11
          try clear p2
          try clear q10
          try clear q11
          obtain ⟨kq, x5_5, rfl, HA, HJ5, HB⟩ := hcut
          cases kq with
          | zero => exact absurd HA.out (by simp [variorumref07_Between.j2])
          | succ kj5 =>
            have H := HA.out
            clear HA
            simp only [variorumref07_Between.j2] at H
            have H' := Aside0.mk H
            clear H
            go_wp2
            repeat (go_quiet (fail); try go_wp2)
            go_loopg [6] kj5 (fun kq v6 w' => ∃ (x6_3 : Int), v6 = .int .i64 x6_3 ∧ Aside0 (variorumref07_Between.l1 kq a0 a1 x5_5 x6_3 = some r) ∧ Aside0 (kq ≤ kj5) ∧ Aside0 (Below w.heap.size w w'))
            case atStart => exact ⟨(0), (by first | rfl | (simp; done) | (simp [*]; done)), H', ⟨Nat.le_refl _⟩, ⟨by repeat (first | (with_reducible first | exact HB.out | apply below_alloc | apply pw_below_drewN | apply below_drew1) | exact HB.out)⟩⟩
            case round =>
              clear H'
              try clear c1
              try clear p1
              try clear q1
              try clear hx1
              try clear p2
              try clear c4
              try clear c4b0
              try clear c4b1
              try clear c5
              try clear p6
              try clear c7
              try clear c7b0
              try clear c8
              try clear c8b0
              try clear c9
              try clear c9b0
              try clear p10
              try clear q10
              try clear hx10
              try clear p11
              try clear q11
              try clear hx11
              try clear c12
              try clear c12b0
              try clear c12b1
              try clear p1
              try clear p10
              try clear p11
              try clear p2
              try clear p6
              try clear q1
              try clear q10
              try clear q11
              obtain ⟨x6_3, rfl, HA, HK3, HB⟩ := hrel
              cases gk with
              | zero => exact absurd HA.out (by simp [variorumref07_Between.l1])
              | succ k3 =>
                have H := HA.out
                clear HA
                simp only [variorumref07_Between.l1] at H
                by_cases c13 : x6_3 < (wrap64 ((a0.size : Int) - x5_5))
                · rw [if_pos c13] at H
                  have c13b0 : decide (x6_3 < (wrap64 ((a0.size : Int) - x5_5))) = true := decide_eq_true c13
                  clear c13
                  by_cases c14 : x6_3 < (wrap64 ((a1.size : Int) - x5_5))
                  · rw [if_pos c14] at H
                    have c14b0 : decide (x6_3 < (wrap64 ((a1.size : Int) - x5_5))) = true := decide_eq_true c14
                    clear c14
                    obtain ⟨ji15, hji15⟩ : ∃ j_ : Int, (wrap64 ((wrap64 ((a0.size : Int) - 1)) - x6_3)) = j_ := ⟨_, rfl⟩
                    replace H : (if 0 ≤ (ji15) then (if (ji15) < (a0.size : Int) then (if 0 ≤ (wrap64 ((wrap64 ((a1.size : Int) - 1)) - x6_3)) then (if (wrap64 ((wrap64 ((a1.size : Int) - 1)) - x6_3)) < (a1.size : Int) then (if (bt a0 (ji15)) = (bt a1 (wrap64 ((wrap64 ((a1.size : Int) - 1)) - x6_3))) then (variorumref07_Between.l1 k3 a0 a1 x5_5 (wrap64 (x6_3 + 1))) else (if 0 ≤ x5_5 then (if x5_5 ≤ (wrap64 ((a1.size : Int) - x6_3)) then (if (wrap64 ((a1.size : Int) - x6_3)) ≤ (a1.size : Int) then ((variorumref06_Norm.f k3 (([(⟨x5_5, (⟨#[]⟩ : ByteArray), 0⟩ : S37), (⟨0, a1.extract (x5_5 : Int).toNat ((wrap64 ((a1.size : Int) - x6_3)) : Int).toNat, 0⟩ : S37), (⟨0, (⟨#[]⟩ : ByteArray), wrap64 ((wrap64 ((a0.size : Int) - x6_3)) - x5_5)⟩ : S37), (⟨x6_3, (⟨#[]⟩ : ByteArray), 0⟩ : S37)] : List (S37)))).bind fun t511 => (some t511)) else (none)) else (none)) else (none))) else (none)) else (none)) else (none)) else (none)) = some r := by first | (rw [hji15] at H; exact H) | (simp only [hji15] at H ⊢; exact H)
                    have hji15w : (IntKind.i64.wrap ((wrap64 ((a0.size : Int) - 1)) - x6_3)) = ji15 := (i64_w _).trans hji15
                    by_cases c16 : 0 ≤ (ji15)
                    · rw [if_pos c16] at H
                      have c16b0 : decide (0 ≤ (ji15)) = true := decide_eq_true c16
                      clear c16
                      by_cases c17 : (ji15) < (a0.size : Int)
                      · rw [if_pos c17] at H
                        have c17b0 : decide ((ji15) < (a0.size : Int)) = true := decide_eq_true c17
                        clear c17
                        obtain ⟨ji19, hji19⟩ : ∃ j_ : Int, (wrap64 ((wrap64 ((a1.size : Int) - 1)) - x6_3)) = j_ := ⟨_, rfl⟩
                        replace H : (if 0 ≤ (ji19) then (if (ji19) < (a1.size : Int) then (if (bt a0 (ji15)) = (bt a1 (ji19)) then (variorumref07_Between.l1 k3 a0 a1 x5_5 (wrap64 (x6_3 + 1))) else (if 0 ≤ x5_5 then (if x5_5 ≤ (wrap64 ((a1.size : Int) - x6_3)) then (if (wrap64 ((a1.size : Int) - x6_3)) ≤ (a1.size : Int) then ((variorumref06_Norm.f k3 (([(⟨x5_5, (⟨#[]⟩ : ByteArray), 0⟩ : S37), (⟨0, a1.extract (x5_5 : Int).toNat ((wrap64 ((a1.size : Int) - x6_3)) : Int).toNat, 0⟩ : S37), (⟨0, (⟨#[]⟩ : ByteArray), wrap64 ((wrap64 ((a0.size : Int) - x6_3)) - x5_5)⟩ : S37), (⟨x6_3, (⟨#[]⟩ : ByteArray), 0⟩ : S37)] : List (S37)))).bind fun t511 => (some t511)) else (none)) else (none)) else (none))) else (none)) else (none)) = some r := by first | (rw [hji19] at H; exact H) | (simp only [hji19] at H ⊢; exact H)
                        have hji19w : (IntKind.i64.wrap ((wrap64 ((a1.size : Int) - 1)) - x6_3)) = ji19 := (i64_w _).trans hji19
                        by_cases c20 : 0 ≤ (ji19)
                        · rw [if_pos c20] at H
                          have c20b0 : decide (0 ≤ (ji19)) = true := decide_eq_true c20
                          clear c20
                          by_cases c21 : (ji19) < (a1.size : Int)
                          · rw [if_pos c21] at H
                            have c21b0 : decide ((ji19) < (a1.size : Int)) = true := decide_eq_true c21
                            clear c21
                            by_cases c23 : (bt a0 (ji15)) = (bt a1 (ji19))
                            · rw [if_pos c23] at H
                              have c23b0 : ((bt a0 (ji15)) == (bt a1 (ji19))) = true := beq_iff_eq.mpr c23
                              have c23b1 : ((bt a0 (ji15)) != (bt a1 (ji19))) = false := bne_eq_false_iff_eq.mpr c23
                              clear c23
                              have H' := Aside0.mk H
                              clear H
                              have p18 : 0 ≤ ((ji15) : Int) := of_decide_eq_true (by first | (with_reducible assumption) | assumption)
                              have q18 : (ji15) < (a0.size : Int) := of_decide_eq_true (by first | (with_reducible assumption) | assumption)
                              have hx18 := bt_at a0 (ji15)
                              replace p18 := eq_true p18
                              replace q18 := eq_true q18
                              have p22 : 0 ≤ ((ji19) : Int) := of_decide_eq_true (by first | (with_reducible assumption) | assumption)
                              have q22 : (ji19) < (a1.size : Int) := of_decide_eq_true (by first | (with_reducible assumption) | assumption)
                              have hx22 := bt_at a1 (ji19)
                              replace p22 := eq_true p22
                              replace q22 := eq_true q22
                              go_wp2
                              repeat (go_quiet (fail); try go_wp2)
                              go_roundg k3
                              case measure => have := HJ2.out; have := HJ5.out; have := HK3.out; omega
                              case rel => exact ⟨(wrap64 (x6_3 + 1)), (by first | rfl | (simp; done) | (simp [*]; done)), H', ⟨by have := HJ2.out; have := HJ5.out; have := HK3.out; omega⟩, ⟨by repeat (first | (with_reducible first | exact HB.out | apply below_alloc | apply pw_below_drewN | apply below_drew1) | exact HB.out)⟩⟩
                            · rw [if_neg c23] at H
                              have c23b0 : ((bt a0 (ji15)) == (bt a1 (ji19))) = false := beq_eq_false_iff_ne.mpr c23
                              have c23b1 : ((bt a0 (ji15)) != (bt a1 (ji19))) = true := bne_iff_ne.mpr c23
                              by_cases c24 : 0 ≤ x5_5
                              · rw [if_pos c24] at H
                                have c24b0 := eq_true c24
                                have c24b1 : decide (0 ≤ x5_5) = true := decide_eq_true c24
                                clear c24
                                by_cases c25 : x5_5 ≤ (wrap64 ((a1.size : Int) - x6_3))
                                · rw [if_pos c25] at H
                                  have c25b0 := eq_true c25
                                  have c25b1 : decide (x5_5 ≤ (wrap64 ((a1.size : Int) - x6_3))) = true := decide_eq_true c25
                                  clear c25
                                  by_cases c26 : (wrap64 ((a1.size : Int) - x6_3)) ≤ (a1.size : Int)
                                  · rw [if_pos c26] at H
                                    have c26b0 := eq_true c26
                                    have c26b1 : decide ((wrap64 ((a1.size : Int) - x6_3)) ≤ (a1.size : Int)) = true := decide_eq_true c26
                                    clear c26
                                    obtain ⟨y508, hy508⟩ : ∃ y_ : List (S37), y_ = (([(⟨x5_5, (⟨#[]⟩ : ByteArray), 0⟩ : S37), (⟨0, a1.extract (x5_5 : Int).toNat ((wrap64 ((a1.size : Int) - x6_3)) : Int).toNat, 0⟩ : S37), (⟨0, (⟨#[]⟩ : ByteArray), wrap64 ((wrap64 ((a0.size : Int) - x6_3)) - x5_5)⟩ : S37), (⟨x6_3, (⟨#[]⟩ : ByteArray), 0⟩ : S37)] : List (S37))) := ⟨_, rfl⟩
                                    replace H : ((variorumref06_Norm.f k3 y508).bind fun t511 => (some t511)) = some r := by first | (rw [hy508]; with_reducible exact H) | (have H2_ := (Option.bind_some _ _).symm.trans H; rw [hy508]; with_reducible exact H2_) | (have H2_ := (Option.bind_some _ _).symm.trans H; with_reducible exact H2_) | with_reducible exact H | (rw [hy508]; exact H) | exact H
                                    have Ny508 := Aside0.mk hy508
                                    clear hy508
                                    replace H := Option.bind_eq_some_iff.mp H
                                    obtain ⟨t511, A270, H⟩ := H
                                    replace H : (some t511) = some r := H
                                    have A27 := Aside0.mk A270
                                    clear A270
                                    obtain rfl := Option.some.inj H
                                    have p18 : 0 ≤ ((ji15) : Int) := of_decide_eq_true (by first | (with_reducible assumption) | assumption)
                                    have q18 : (ji15) < (a0.size : Int) := of_decide_eq_true (by first | (with_reducible assumption) | assumption)
                                    have hx18 := bt_at a0 (ji15)
                                    replace p18 := eq_true p18
                                    replace q18 := eq_true q18
                                    have p22 : 0 ≤ ((ji19) : Int) := of_decide_eq_true (by first | (with_reducible assumption) | assumption)
                                    have q22 : (ji19) < (a1.size : Int) := of_decide_eq_true (by first | (with_reducible assumption) | assumption)
                                    have hx22 := bt_at a1 (ji19)
                                    replace p22 := eq_true p22
                                    replace q22 := eq_true q22
                                    go_wp2_with (first | ((with_reducible refine gate_dst (N := 88) rfl ?_); (try (refine gate_guard (by rfl) ?_; dsimp only)); refine Kd.R_lit k37 _ 37 ?hg (N := 88) ?hd (xs := ([(⟨x5_5, (⟨#[]⟩ : ByteArray), 0⟩ : S37), (⟨0, a1.extract (x5_5 : Int).toNat ((wrap64 ((a1.size : Int) - x6_3)) : Int).toNat, 0⟩ : S37), (⟨0, (⟨#[]⟩ : ByteArray), wrap64 ((wrap64 ((a0.size : Int) - x6_3)) - x5_5)⟩ : S37), (⟨x6_3, (⟨#[]⟩ : ByteArray), 0⟩ : S37)] : List (S37))) (inner := [.int .i64 x5_5, .string (⟨#[]⟩ : ByteArray), .int .i64 0, .int .i64 0, .string (a1.extract (x5_5 : Int).toNat ((wrap64 ((a1.size : Int) - x6_3)) : Int).toNat), .int .i64 0, .int .i64 0, .string (⟨#[]⟩ : ByteArray), .int .i64 (wrap64 ((wrap64 ((a0.size : Int) - x6_3)) - x5_5)), .int .i64 x6_3, .string (⟨#[]⟩ : ByteArray), .int .i64 0]) (ok := fun _ => True) (okp := fun _ => True) ?hr ?hp (fun _ hk => hk) trivial (Below.refl _ _) (Nat.le_refl _) (by simp) ?_; (case hd => rfl); (case hg => rfl); (case hr => first | (go_simp; done) | (go_simp; rfl)); (case hp => exact (Reps.c3 (show Kd.M k37 _ _ _ (⟨x5_5, (⟨#[]⟩ : ByteArray), 0⟩ : S37) [.int .i64 x5_5, .string (⟨#[]⟩ : ByteArray), .int .i64 0] from (k37_mkM _ _ _ (⟨x5_5, (⟨#[]⟩ : ByteArray), 0⟩ : S37) )) (Reps.c3 (show Kd.M k37 _ _ _ (⟨0, a1.extract (x5_5 : Int).toNat ((wrap64 ((a1.size : Int) - x6_3)) : Int).toNat, 0⟩ : S37) [.int .i64 0, .string (a1.extract (x5_5 : Int).toNat ((wrap64 ((a1.size : Int) - x6_3)) : Int).toNat), .int .i64 0] from (k37_mkM _ _ _ (⟨0, a1.extract (x5_5 : Int).toNat ((wrap64 ((a1.size : Int) - x6_3)) : Int).toNat, 0⟩ : S37) )) (Reps.c3 (show Kd.M k37 _ _ _ (⟨0, (⟨#[]⟩ : ByteArray), wrap64 ((wrap64 ((a0.size : Int) - x6_3)) - x5_5)⟩ : S37) [.int .i64 0, .string (⟨#[]⟩ : ByteArray), .int .i64 (wrap64 ((wrap64 ((a0.size : Int) - x6_3)) - x5_5))] from (k37_mkM _ _ _ (⟨0, (⟨#[]⟩ : ByteArray), wrap64 ((wrap64 ((a0.size : Int) - x6_3)) - x5_5)⟩ : S37) )) (Reps.c3 (show Kd.M k37 _ _ _ (⟨x6_3, (⟨#[]⟩ : ByteArray), 0⟩ : S37) [.int .i64 x6_3, .string (⟨#[]⟩ : ByteArray), .int .i64 0] from (k37_mkM _ _ _ (⟨x6_3, (⟨#[]⟩ : ByteArray), 0⟩ : S37) )) (Reps.none _ _)))))); intro v509 w28 ho29 hb hg_ hnew_; clear hg_ hnew_; (first | rw [← Ny508.out] at ho29 | (simp only [Int.reduceToNat] at ho29; rw [← Ny508.out] at ho29)); have n0_ := Aside0.mk (Kd.R_lower ho29 (below_size (by repeat (first | (with_reducible first | exact HB.out | apply below_alloc | apply pw_below_drewN | apply below_drew1) | exact HB.out)))); have n1_ := Aside0.mk (below_step (by repeat (first | (with_reducible first | exact HB.out | apply below_alloc | apply pw_below_drewN | apply below_drew1) | exact HB.out)) hb); clear HB; have HO510 := n0_; have HB := n1_; clear n0_ n1_; clear hb ho29; obtain ⟨Ao30, co30, eo30⟩ := Kd.R_slice HO510.out; subst eo30) | (go_at_call 58; (with_reducible refine (variorumref06_Norm.calls k3 _ _ y508 t511 _ ?side1 ?side2 A27.out).mono ?_); (case side1 => repeat (first | exact (Kd.R_reads' HO510.out).2.2 | (with_reducible refine Kd.C_alloc ?_ _) | (with_reducible refine Kd.C_drewN ?_ _) | (with_reducible refine Kd.C_drew ?_))); (case side2 => exact (Kd.R_reads' HO510.out).2.1); rintro e w31 ⟨v512, rfl, ho0, hb⟩; have n0_ := Aside0.mk (Kd.R_elder' (by (with_reducible repeat (first | apply Kd.R_alloc | apply Kd.R_drewN | apply Kd.R_drew)); exact HO510.out) (Kd.R_base ho0) hb); have n1_ := Aside0.mk (Kd.R_lower (Kd.R_new' ho0 (Kd.R_lt (by (with_reducible repeat (first | apply Kd.R_alloc | apply Kd.R_drewN | apply Kd.R_drew)); exact HO510.out))) (below_size (by repeat (first | (with_reducible first | exact HB.out | apply below_alloc | apply pw_below_drewN | apply below_drew1) | exact HB.out)))); have n2_ := Aside0.mk (below_step (by repeat (first | (with_reducible first | exact HB.out | apply below_alloc | apply pw_below_drewN | apply below_drew1) | exact HB.out)) hb); clear HO510; clear HB; have HO510 := n0_; have HO513 := n1_; have HB := n2_; clear n0_ n1_ n2_; (try clear hb); (try clear hb2); (try clear hk); (try clear hi); (try clear ho0)))
                                    repeat (go_quiet (first | ((with_reducible refine gate_dst (N := 88) rfl ?_); (try (refine gate_guard (by rfl) ?_; dsimp only)); refine Kd.R_lit k37 _ 37 ?hg (N := 88) ?hd (xs := ([(⟨x5_5, (⟨#[]⟩ : ByteArray), 0⟩ : S37), (⟨0, a1.extract (x5_5 : Int).toNat ((wrap64 ((a1.size : Int) - x6_3)) : Int).toNat, 0⟩ : S37), (⟨0, (⟨#[]⟩ : ByteArray), wrap64 ((wrap64 ((a0.size : Int) - x6_3)) - x5_5)⟩ : S37), (⟨x6_3, (⟨#[]⟩ : ByteArray), 0⟩ : S37)] : List (S37))) (inner := [.int .i64 x5_5, .string (⟨#[]⟩ : ByteArray), .int .i64 0, .int .i64 0, .string (a1.extract (x5_5 : Int).toNat ((wrap64 ((a1.size : Int) - x6_3)) : Int).toNat), .int .i64 0, .int .i64 0, .string (⟨#[]⟩ : ByteArray), .int .i64 (wrap64 ((wrap64 ((a0.size : Int) - x6_3)) - x5_5)), .int .i64 x6_3, .string (⟨#[]⟩ : ByteArray), .int .i64 0]) (ok := fun _ => True) (okp := fun _ => True) ?hr ?hp (fun _ hk => hk) trivial (Below.refl _ _) (Nat.le_refl _) (by simp) ?_; (case hd => rfl); (case hg => rfl); (case hr => first | (go_simp; done) | (go_simp; rfl)); (case hp => exact (Reps.c3 (show Kd.M k37 _ _ _ (⟨x5_5, (⟨#[]⟩ : ByteArray), 0⟩ : S37) [.int .i64 x5_5, .string (⟨#[]⟩ : ByteArray), .int .i64 0] from (k37_mkM _ _ _ (⟨x5_5, (⟨#[]⟩ : ByteArray), 0⟩ : S37) )) (Reps.c3 (show Kd.M k37 _ _ _ (⟨0, a1.extract (x5_5 : Int).toNat ((wrap64 ((a1.size : Int) - x6_3)) : Int).toNat, 0⟩ : S37) [.int .i64 0, .string (a1.extract (x5_5 : Int).toNat ((wrap64 ((a1.size : Int) - x6_3)) : Int).toNat), .int .i64 0] from (k37_mkM _ _ _ (⟨0, a1.extract (x5_5 : Int).toNat ((wrap64 ((a1.size : Int) - x6_3)) : Int).toNat, 0⟩ : S37) )) (Reps.c3 (show Kd.M k37 _ _ _ (⟨0, (⟨#[]⟩ : ByteArray), wrap64 ((wrap64 ((a0.size : Int) - x6_3)) - x5_5)⟩ : S37) [.int .i64 0, .string (⟨#[]⟩ : ByteArray), .int .i64 (wrap64 ((wrap64 ((a0.size : Int) - x6_3)) - x5_5))] from (k37_mkM _ _ _ (⟨0, (⟨#[]⟩ : ByteArray), wrap64 ((wrap64 ((a0.size : Int) - x6_3)) - x5_5)⟩ : S37) )) (Reps.c3 (show Kd.M k37 _ _ _ (⟨x6_3, (⟨#[]⟩ : ByteArray), 0⟩ : S37) [.int .i64 x6_3, .string (⟨#[]⟩ : ByteArray), .int .i64 0] from (k37_mkM _ _ _ (⟨x6_3, (⟨#[]⟩ : ByteArray), 0⟩ : S37) )) (Reps.none _ _)))))); intro v509 w28 ho29 hb hg_ hnew_; clear hg_ hnew_; (first | rw [← Ny508.out] at ho29 | (simp only [Int.reduceToNat] at ho29; rw [← Ny508.out] at ho29)); have n0_ := Aside0.mk (Kd.R_lower ho29 (below_size (by repeat (first | (with_reducible first | exact HB.out | apply below_alloc | apply pw_below_drewN | apply below_drew1) | exact HB.out)))); have n1_ := Aside0.mk (below_step (by repeat (first | (with_reducible first | exact HB.out | apply below_alloc | apply pw_below_drewN | apply below_drew1) | exact HB.out)) hb); clear HB; have HO510 := n0_; have HB := n1_; clear n0_ n1_; clear hb ho29; obtain ⟨Ao30, co30, eo30⟩ := Kd.R_slice HO510.out; subst eo30) | (go_at_call 58; (with_reducible refine (variorumref06_Norm.calls k3 _ _ y508 t511 _ ?side1 ?side2 A27.out).mono ?_); (case side1 => repeat (first | exact (Kd.R_reads' HO510.out).2.2 | (with_reducible refine Kd.C_alloc ?_ _) | (with_reducible refine Kd.C_drewN ?_ _) | (with_reducible refine Kd.C_drew ?_))); (case side2 => exact (Kd.R_reads' HO510.out).2.1); rintro e w31 ⟨v512, rfl, ho0, hb⟩; have n0_ := Aside0.mk (Kd.R_elder' (by (with_reducible repeat (first | apply Kd.R_alloc | apply Kd.R_drewN | apply Kd.R_drew)); exact HO510.out) (Kd.R_base ho0) hb); have n1_ := Aside0.mk (Kd.R_lower (Kd.R_new' ho0 (Kd.R_lt (by (with_reducible repeat (first | apply Kd.R_alloc | apply Kd.R_drewN | apply Kd.R_drew)); exact HO510.out))) (below_size (by repeat (first | (with_reducible first | exact HB.out | apply below_alloc | apply pw_below_drewN | apply below_drew1) | exact HB.out)))); have n2_ := Aside0.mk (below_step (by repeat (first | (with_reducible first | exact HB.out | apply below_alloc | apply pw_below_drewN | apply below_drew1) | exact HB.out)) hb); clear HO510; clear HB; have HO510 := n0_; have HO513 := n1_; have HB := n2_; clear n0_ n1_ n2_; (try clear hb); (try clear hb2); (try clear hk); (try clear hi); (try clear ho0))); try go_wp2_with (first | ((with_reducible refine gate_dst (N := 88) rfl ?_); (try (refine gate_guard (by rfl) ?_; dsimp only)); refine Kd.R_lit k37 _ 37 ?hg (N := 88) ?hd (xs := ([(⟨x5_5, (⟨#[]⟩ : ByteArray), 0⟩ : S37), (⟨0, a1.extract (x5_5 : Int).toNat ((wrap64 ((a1.size : Int) - x6_3)) : Int).toNat, 0⟩ : S37), (⟨0, (⟨#[]⟩ : ByteArray), wrap64 ((wrap64 ((a0.size : Int) - x6_3)) - x5_5)⟩ : S37), (⟨x6_3, (⟨#[]⟩ : ByteArray), 0⟩ : S37)] : List (S37))) (inner := [.int .i64 x5_5, .string (⟨#[]⟩ : ByteArray), .int .i64 0, .int .i64 0, .string (a1.extract (x5_5 : Int).toNat ((wrap64 ((a1.size : Int) - x6_3)) : Int).toNat), .int .i64 0, .int .i64 0, .string (⟨#[]⟩ : ByteArray), .int .i64 (wrap64 ((wrap64 ((a0.size : Int) - x6_3)) - x5_5)), .int .i64 x6_3, .string (⟨#[]⟩ : ByteArray), .int .i64 0]) (ok := fun _ => True) (okp := fun _ => True) ?hr ?hp (fun _ hk => hk) trivial (Below.refl _ _) (Nat.le_refl _) (by simp) ?_; (case hd => rfl); (case hg => rfl); (case hr => first | (go_simp; done) | (go_simp; rfl)); (case hp => exact (Reps.c3 (show Kd.M k37 _ _ _ (⟨x5_5, (⟨#[]⟩ : ByteArray), 0⟩ : S37) [.int .i64 x5_5, .string (⟨#[]⟩ : ByteArray), .int .i64 0] from (k37_mkM _ _ _ (⟨x5_5, (⟨#[]⟩ : ByteArray), 0⟩ : S37) )) (Reps.c3 (show Kd.M k37 _ _ _ (⟨0, a1.extract (x5_5 : Int).toNat ((wrap64 ((a1.size : Int) - x6_3)) : Int).toNat, 0⟩ : S37) [.int .i64 0, .string (a1.extract (x5_5 : Int).toNat ((wrap64 ((a1.size : Int) - x6_3)) : Int).toNat), .int .i64 0] from (k37_mkM _ _ _ (⟨0, a1.extract (x5_5 : Int).toNat ((wrap64 ((a1.size : Int) - x6_3)) : Int).toNat, 0⟩ : S37) )) (Reps.c3 (show Kd.M k37 _ _ _ (⟨0, (⟨#[]⟩ : ByteArray), wrap64 ((wrap64 ((a0.size : Int) - x6_3)) - x5_5)⟩ : S37) [.int .i64 0, .string (⟨#[]⟩ : ByteArray), .int .i64 (wrap64 ((wrap64 ((a0.size : Int) - x6_3)) - x5_5))] from (k37_mkM _ _ _ (⟨0, (⟨#[]⟩ : ByteArray), wrap64 ((wrap64 ((a0.size : Int) - x6_3)) - x5_5)⟩ : S37) )) (Reps.c3 (show Kd.M k37 _ _ _ (⟨x6_3, (⟨#[]⟩ : ByteArray), 0⟩ : S37) [.int .i64 x6_3, .string (⟨#[]⟩ : ByteArray), .int .i64 0] from (k37_mkM _ _ _ (⟨x6_3, (⟨#[]⟩ : ByteArray), 0⟩ : S37) )) (Reps.none _ _)))))); intro v509 w28 ho29 hb hg_ hnew_; clear hg_ hnew_; (first | rw [← Ny508.out] at ho29 | (simp only [Int.reduceToNat] at ho29; rw [← Ny508.out] at ho29)); have n0_ := Aside0.mk (Kd.R_lower ho29 (below_size (by repeat (first | (with_reducible first | exact HB.out | apply below_alloc | apply pw_below_drewN | apply below_drew1) | exact HB.out)))); have n1_ := Aside0.mk (below_step (by repeat (first | (with_reducible first | exact HB.out | apply below_alloc | apply pw_below_drewN | apply below_drew1) | exact HB.out)) hb); clear HB; have HO510 := n0_; have HB := n1_; clear n0_ n1_; clear hb ho29; obtain ⟨Ao30, co30, eo30⟩ := Kd.R_slice HO510.out; subst eo30) | (go_at_call 58; (with_reducible refine (variorumref06_Norm.calls k3 _ _ y508 t511 _ ?side1 ?side2 A27.out).mono ?_); (case side1 => repeat (first | exact (Kd.R_reads' HO510.out).2.2 | (with_reducible refine Kd.C_alloc ?_ _) | (with_reducible refine Kd.C_drewN ?_ _) | (with_reducible refine Kd.C_drew ?_))); (case side2 => exact (Kd.R_reads' HO510.out).2.1); rintro e w31 ⟨v512, rfl, ho0, hb⟩; have n0_ := Aside0.mk (Kd.R_elder' (by (with_reducible repeat (first | apply Kd.R_alloc | apply Kd.R_drewN | apply Kd.R_drew)); exact HO510.out) (Kd.R_base ho0) hb); have n1_ := Aside0.mk (Kd.R_lower (Kd.R_new' ho0 (Kd.R_lt (by (with_reducible repeat (first | apply Kd.R_alloc | apply Kd.R_drewN | apply Kd.R_drew)); exact HO510.out))) (below_size (by repeat (first | (with_reducible first | exact HB.out | apply below_alloc | apply pw_below_drewN | apply below_drew1) | exact HB.out)))); have n2_ := Aside0.mk (below_step (by repeat (first | (with_reducible first | exact HB.out | apply below_alloc | apply pw_below_drewN | apply below_drew1) | exact HB.out)) hb); clear HO510; clear HB; have HO510 := n0_; have HO513 := n1_; have HB := n2_; clear n0_ n1_ n2_; (try clear hb); (try clear hb2); (try clear hk); (try clear hi); (try clear ho0))))
                                    go_ret
                                    exact ⟨_, by first | rfl | (simp [errW_none, errW_some] <;> rfl) | (simp only [← hji15, ← hji19]; first | rfl | (simp [errW_none, errW_some] <;> rfl)) | (simp [*, errW_none, errW_some] <;> rfl), by (with_reducible repeat (first | apply Kd.R_alloc | apply Kd.R_drewN | apply Kd.R_drew)); exact Kd.R_mono HO513.out (fun _ hk => trivial), by repeat (first | (with_reducible first | exact HB.out | apply below_alloc | apply pw_below_drewN | apply below_drew1) | exact HB.out)⟩
                                  · rw [if_neg c26] at H
                                    exact absurd H (by simp)
                                · rw [if_neg c25] at H
                                  exact absurd H (by simp)
                              · rw [if_neg c24] at H
                                exact absurd H (by simp)
                          · rw [if_neg c21] at H
                            exact absurd H (by simp)
                        · rw [if_neg c20] at H
                          exact absurd H (by simp)
                      · rw [if_neg c17] at H
                        exact absurd H (by simp)
                    · rw [if_neg c16] at H
                      exact absurd H (by simp)
                  · rw [if_neg c14] at H
                    have c14b0 : decide (x6_3 < (wrap64 ((a1.size : Int) - x5_5))) = false := decide_eq_false c14
                    clear c14
                    by_cases c32 : 0 ≤ x5_5
                    · rw [if_pos c32] at H
                      have c32b0 := eq_true c32
                      have c32b1 : decide (0 ≤ x5_5) = true := decide_eq_true c32
                      clear c32
                      by_cases c33 : x5_5 ≤ (wrap64 ((a1.size : Int) - x6_3))
                      · rw [if_pos c33] at H
                        have c33b0 := eq_true c33
                        have c33b1 : decide (x5_5 ≤ (wrap64 ((a1.size : Int) - x6_3))) = true := decide_eq_true c33
                        clear c33
                        by_cases c34 : (wrap64 ((a1.size : Int) - x6_3)) ≤ (a1.size : Int)
                        · rw [if_pos c34] at H
                          have c34b0 := eq_true c34
                          have c34b1 : decide ((wrap64 ((a1.size : Int) - x6_3)) ≤ (a1.size : Int)) = true := decide_eq_true c34
                          clear c34
                          obtain ⟨y514, hy514⟩ : ∃ y_ : List (S37), y_ = (([(⟨x5_5, (⟨#[]⟩ : ByteArray), 0⟩ : S37), (⟨0, a1.extract (x5_5 : Int).toNat ((wrap64 ((a1.size : Int) - x6_3)) : Int).toNat, 0⟩ : S37), (⟨0, (⟨#[]⟩ : ByteArray), wrap64 ((wrap64 ((a0.size : Int) - x6_3)) - x5_5)⟩ : S37), (⟨x6_3, (⟨#[]⟩ : ByteArray), 0⟩ : S37)] : List (S37))) := ⟨_, rfl⟩
                          replace H : ((variorumref06_Norm.f k3 y514).bind fun t517 => (some t517)) = some r := by first | (rw [hy514]; with_reducible exact H) | (have H2_ := (Option.bind_some _ _).symm.trans H; rw [hy514]; with_reducible exact H2_) | (have H2_ := (Option.bind_some _ _).symm.trans H; with_reducible exact H2_) | with_reducible exact H | (rw [hy514]; exact H) | exact H
                          have Ny514 := Aside0.mk hy514
                          clear hy514
                          replace H := Option.bind_eq_some_iff.mp H
                          obtain ⟨t517, A350, H⟩ := H
                          replace H : (some t517) = some r := H
                          have A35 := Aside0.mk A350
                          clear A350
                          obtain rfl := Option.some.inj H
                          go_wp2_with (first | ((with_reducible refine gate_dst (N := 88) rfl ?_); (try (refine gate_guard (by rfl) ?_; dsimp only)); refine Kd.R_lit k37 _ 37 ?hg (N := 88) ?hd (xs := ([(⟨x5_5, (⟨#[]⟩ : ByteArray), 0⟩ : S37), (⟨0, a1.extract (x5_5 : Int).toNat ((wrap64 ((a1.size : Int) - x6_3)) : Int).toNat, 0⟩ : S37), (⟨0, (⟨#[]⟩ : ByteArray), wrap64 ((wrap64 ((a0.size : Int) - x6_3)) - x5_5)⟩ : S37), (⟨x6_3, (⟨#[]⟩ : ByteArray), 0⟩ : S37)] : List (S37))) (inner := [.int .i64 x5_5, .string (⟨#[]⟩ : ByteArray), .int .i64 0, .int .i64 0, .string (a1.extract (x5_5 : Int).toNat ((wrap64 ((a1.size : Int) - x6_3)) : Int).toNat), .int .i64 0, .int .i64 0, .string (⟨#[]⟩ : ByteArray), .int .i64 (wrap64 ((wrap64 ((a0.size : Int) - x6_3)) - x5_5)), .int .i64 x6_3, .string (⟨#[]⟩ : ByteArray), .int .i64 0]) (ok := fun _ => True) (okp := fun _ => True) ?hr ?hp (fun _ hk => hk) trivial (Below.refl _ _) (Nat.le_refl _) (by simp) ?_; (case hd => rfl); (case hg => rfl); (case hr => first | (go_simp; done) | (go_simp; rfl)); (case hp => exact (Reps.c3 (show Kd.M k37 _ _ _ (⟨x5_5, (⟨#[]⟩ : ByteArray), 0⟩ : S37) [.int .i64 x5_5, .string (⟨#[]⟩ : ByteArray), .int .i64 0] from (k37_mkM _ _ _ (⟨x5_5, (⟨#[]⟩ : ByteArray), 0⟩ : S37) )) (Reps.c3 (show Kd.M k37 _ _ _ (⟨0, a1.extract (x5_5 : Int).toNat ((wrap64 ((a1.size : Int) - x6_3)) : Int).toNat, 0⟩ : S37) [.int .i64 0, .string (a1.extract (x5_5 : Int).toNat ((wrap64 ((a1.size : Int) - x6_3)) : Int).toNat), .int .i64 0] from (k37_mkM _ _ _ (⟨0, a1.extract (x5_5 : Int).toNat ((wrap64 ((a1.size : Int) - x6_3)) : Int).toNat, 0⟩ : S37) )) (Reps.c3 (show Kd.M k37 _ _ _ (⟨0, (⟨#[]⟩ : ByteArray), wrap64 ((wrap64 ((a0.size : Int) - x6_3)) - x5_5)⟩ : S37) [.int .i64 0, .string (⟨#[]⟩ : ByteArray), .int .i64 (wrap64 ((wrap64 ((a0.size : Int) - x6_3)) - x5_5))] from (k37_mkM _ _ _ (⟨0, (⟨#[]⟩ : ByteArray), wrap64 ((wrap64 ((a0.size : Int) - x6_3)) - x5_5)⟩ : S37) )) (Reps.c3 (show Kd.M k37 _ _ _ (⟨x6_3, (⟨#[]⟩ : ByteArray), 0⟩ : S37) [.int .i64 x6_3, .string (⟨#[]⟩ : ByteArray), .int .i64 0] from (k37_mkM _ _ _ (⟨x6_3, (⟨#[]⟩ : ByteArray), 0⟩ : S37) )) (Reps.none _ _)))))); intro v515 w36 ho37 hb hg_ hnew_; clear hg_ hnew_; (first | rw [← Ny514.out] at ho37 | (simp only [Int.reduceToNat] at ho37; rw [← Ny514.out] at ho37)); have n0_ := Aside0.mk (Kd.R_lower ho37 (below_size (by repeat (first | (with_reducible first | exact HB.out | apply below_alloc | apply pw_below_drewN | apply below_drew1) | exact HB.out)))); have n1_ := Aside0.mk (below_step (by repeat (first | (with_reducible first | exact HB.out | apply below_alloc | apply pw_below_drewN | apply below_drew1) | exact HB.out)) hb); clear HB; have HO516 := n0_; have HB := n1_; clear n0_ n1_; clear hb ho37; obtain ⟨Ao38, co38, eo38⟩ := Kd.R_slice HO516.out; subst eo38) | (go_at_call 58; (with_reducible refine (variorumref06_Norm.calls k3 _ _ y514 t517 _ ?side1 ?side2 A35.out).mono ?_); (case side1 => repeat (first | exact (Kd.R_reads' HO516.out).2.2 | (with_reducible refine Kd.C_alloc ?_ _) | (with_reducible refine Kd.C_drewN ?_ _) | (with_reducible refine Kd.C_drew ?_))); (case side2 => exact (Kd.R_reads' HO516.out).2.1); rintro e w39 ⟨v518, rfl, ho0, hb⟩; have n0_ := Aside0.mk (Kd.R_elder' (by (with_reducible repeat (first | apply Kd.R_alloc | apply Kd.R_drewN | apply Kd.R_drew)); exact HO516.out) (Kd.R_base ho0) hb); have n1_ := Aside0.mk (Kd.R_lower (Kd.R_new' ho0 (Kd.R_lt (by (with_reducible repeat (first | apply Kd.R_alloc | apply Kd.R_drewN | apply Kd.R_drew)); exact HO516.out))) (below_size (by repeat (first | (with_reducible first | exact HB.out | apply below_alloc | apply pw_below_drewN | apply below_drew1) | exact HB.out)))); have n2_ := Aside0.mk (below_step (by repeat (first | (with_reducible first | exact HB.out | apply below_alloc | apply pw_below_drewN | apply below_drew1) | exact HB.out)) hb); clear HO516; clear HB; have HO516 := n0_; have HO519 := n1_; have HB := n2_; clear n0_ n1_ n2_; (try clear hb); (try clear hb2); (try clear hk); (try clear hi); (try clear ho0)))
                          repeat (go_quiet (first | ((with_reducible refine gate_dst (N := 88) rfl ?_); (try (refine gate_guard (by rfl) ?_; dsimp only)); refine Kd.R_lit k37 _ 37 ?hg (N := 88) ?hd (xs := ([(⟨x5_5, (⟨#[]⟩ : ByteArray), 0⟩ : S37), (⟨0, a1.extract (x5_5 : Int).toNat ((wrap64 ((a1.size : Int) - x6_3)) : Int).toNat, 0⟩ : S37), (⟨0, (⟨#[]⟩ : ByteArray), wrap64 ((wrap64 ((a0.size : Int) - x6_3)) - x5_5)⟩ : S37), (⟨x6_3, (⟨#[]⟩ : ByteArray), 0⟩ : S37)] : List (S37))) (inner := [.int .i64 x5_5, .string (⟨#[]⟩ : ByteArray), .int .i64 0, .int .i64 0, .string (a1.extract (x5_5 : Int).toNat ((wrap64 ((a1.size : Int) - x6_3)) : Int).toNat), .int .i64 0, .int .i64 0, .string (⟨#[]⟩ : ByteArray), .int .i64 (wrap64 ((wrap64 ((a0.size : Int) - x6_3)) - x5_5)), .int .i64 x6_3, .string (⟨#[]⟩ : ByteArray), .int .i64 0]) (ok := fun _ => True) (okp := fun _ => True) ?hr ?hp (fun _ hk => hk) trivial (Below.refl _ _) (Nat.le_refl _) (by simp) ?_; (case hd => rfl); (case hg => rfl); (case hr => first | (go_simp; done) | (go_simp; rfl)); (case hp => exact (Reps.c3 (show Kd.M k37 _ _ _ (⟨x5_5, (⟨#[]⟩ : ByteArray), 0⟩ : S37) [.int .i64 x5_5, .string (⟨#[]⟩ : ByteArray), .int .i64 0] from (k37_mkM _ _ _ (⟨x5_5, (⟨#[]⟩ : ByteArray), 0⟩ : S37) )) (Reps.c3 (show Kd.M k37 _ _ _ (⟨0, a1.extract (x5_5 : Int).toNat ((wrap64 ((a1.size : Int) - x6_3)) : Int).toNat, 0⟩ : S37) [.int .i64 0, .string (a1.extract (x5_5 : Int).toNat ((wrap64 ((a1.size : Int) - x6_3)) : Int).toNat), .int .i64 0] from (k37_mkM _ _ _ (⟨0, a1.extract (x5_5 : Int).toNat ((wrap64 ((a1.size : Int) - x6_3)) : Int).toNat, 0⟩ : S37) )) (Reps.c3 (show Kd.M k37 _ _ _ (⟨0, (⟨#[]⟩ : ByteArray), wrap64 ((wrap64 ((a0.size : Int) - x6_3)) - x5_5)⟩ : S37) [.int .i64 0, .string (⟨#[]⟩ : ByteArray), .int .i64 (wrap64 ((wrap64 ((a0.size : Int) - x6_3)) - x5_5))] from (k37_mkM _ _ _ (⟨0, (⟨#[]⟩ : ByteArray), wrap64 ((wrap64 ((a0.size : Int) - x6_3)) - x5_5)⟩ : S37) )) (Reps.c3 (show Kd.M k37 _ _ _ (⟨x6_3, (⟨#[]⟩ : ByteArray), 0⟩ : S37) [.int .i64 x6_3, .string (⟨#[]⟩ : ByteArray), .int .i64 0] from (k37_mkM _ _ _ (⟨x6_3, (⟨#[]⟩ : ByteArray), 0⟩ : S37) )) (Reps.none _ _)))))); intro v515 w36 ho37 hb hg_ hnew_; clear hg_ hnew_; (first | rw [← Ny514.out] at ho37 | (simp only [Int.reduceToNat] at ho37; rw [← Ny514.out] at ho37)); have n0_ := Aside0.mk (Kd.R_lower ho37 (below_size (by repeat (first | (with_reducible first | exact HB.out | apply below_alloc | apply pw_below_drewN | apply below_drew1) | exact HB.out)))); have n1_ := Aside0.mk (below_step (by repeat (first | (with_reducible first | exact HB.out | apply below_alloc | apply pw_below_drewN | apply below_drew1) | exact HB.out)) hb); clear HB; have HO516 := n0_; have HB := n1_; clear n0_ n1_; clear hb ho37; obtain ⟨Ao38, co38, eo38⟩ := Kd.R_slice HO516.out; subst eo38) | (go_at_call 58; (with_reducible refine (variorumref06_Norm.calls k3 _ _ y514 t517 _ ?side1 ?side2 A35.out).mono ?_); (case side1 => repeat (first | exact (Kd.R_reads' HO516.out).2.2 | (with_reducible refine Kd.C_alloc ?_ _) | (with_reducible refine Kd.C_drewN ?_ _) | (with_reducible refine Kd.C_drew ?_))); (case side2 => exact (Kd.R_reads' HO516.out).2.1); rintro e w39 ⟨v518, rfl, ho0, hb⟩; have n0_ := Aside0.mk (Kd.R_elder' (by (with_reducible repeat (first | apply Kd.R_alloc | apply Kd.R_drewN | apply Kd.R_drew)); exact HO516.out) (Kd.R_base ho0) hb); have n1_ := Aside0.mk (Kd.R_lower (Kd.R_new' ho0 (Kd.R_lt (by (with_reducible repeat (first | apply Kd.R_alloc | apply Kd.R_drewN | apply Kd.R_drew)); exact HO516.out))) (below_size (by repeat (first | (with_reducible first | exact HB.out | apply below_alloc | apply pw_below_drewN | apply below_drew1) | exact HB.out)))); have n2_ := Aside0.mk (below_step (by repeat (first | (with_reducible first | exact HB.out | apply below_alloc | apply pw_below_drewN | apply below_drew1) | exact HB.out)) hb); clear HO516; clear HB; have HO516 := n0_; have HO519 := n1_; have HB := n2_; clear n0_ n1_ n2_; (try clear hb); (try clear hb2); (try clear hk); (try clear hi); (try clear ho0))); try go_wp2_with (first | ((with_reducible refine gate_dst (N := 88) rfl ?_); (try (refine gate_guard (by rfl) ?_; dsimp only)); refine Kd.R_lit k37 _ 37 ?hg (N := 88) ?hd (xs := ([(⟨x5_5, (⟨#[]⟩ : ByteArray), 0⟩ : S37), (⟨0, a1.extract (x5_5 : Int).toNat ((wrap64 ((a1.size : Int) - x6_3)) : Int).toNat, 0⟩ : S37), (⟨0, (⟨#[]⟩ : ByteArray), wrap64 ((wrap64 ((a0.size : Int) - x6_3)) - x5_5)⟩ : S37), (⟨x6_3, (⟨#[]⟩ : ByteArray), 0⟩ : S37)] : List (S37))) (inner := [.int .i64 x5_5, .string (⟨#[]⟩ : ByteArray), .int .i64 0, .int .i64 0, .string (a1.extract (x5_5 : Int).toNat ((wrap64 ((a1.size : Int) - x6_3)) : Int).toNat), .int .i64 0, .int .i64 0, .string (⟨#[]⟩ : ByteArray), .int .i64 (wrap64 ((wrap64 ((a0.size : Int) - x6_3)) - x5_5)), .int .i64 x6_3, .string (⟨#[]⟩ : ByteArray), .int .i64 0]) (ok := fun _ => True) (okp := fun _ => True) ?hr ?hp (fun _ hk => hk) trivial (Below.refl _ _) (Nat.le_refl _) (by simp) ?_; (case hd => rfl); (case hg => rfl); (case hr => first | (go_simp; done) | (go_simp; rfl)); (case hp => exact (Reps.c3 (show Kd.M k37 _ _ _ (⟨x5_5, (⟨#[]⟩ : ByteArray), 0⟩ : S37) [.int .i64 x5_5, .string (⟨#[]⟩ : ByteArray), .int .i64 0] from (k37_mkM _ _ _ (⟨x5_5, (⟨#[]⟩ : ByteArray), 0⟩ : S37) )) (Reps.c3 (show Kd.M k37 _ _ _ (⟨0, a1.extract (x5_5 : Int).toNat ((wrap64 ((a1.size : Int) - x6_3)) : Int).toNat, 0⟩ : S37) [.int .i64 0, .string (a1.extract (x5_5 : Int).toNat ((wrap64 ((a1.size : Int) - x6_3)) : Int).toNat), .int .i64 0] from (k37_mkM _ _ _ (⟨0, a1.extract (x5_5 : Int).toNat ((wrap64 ((a1.size : Int) - x6_3)) : Int).toNat, 0⟩ : S37) )) (Reps.c3 (show Kd.M k37 _ _ _ (⟨0, (⟨#[]⟩ : ByteArray), wrap64 ((wrap64 ((a0.size : Int) - x6_3)) - x5_5)⟩ : S37) [.int .i64 0, .string (⟨#[]⟩ : ByteArray), .int .i64 (wrap64 ((wrap64 ((a0.size : Int) - x6_3)) - x5_5))] from (k37_mkM _ _ _ (⟨0, (⟨#[]⟩ : ByteArray), wrap64 ((wrap64 ((a0.size : Int) - x6_3)) - x5_5)⟩ : S37) )) (Reps.c3 (show Kd.M k37 _ _ _ (⟨x6_3, (⟨#[]⟩ : ByteArray), 0⟩ : S37) [.int .i64 x6_3, .string (⟨#[]⟩ : ByteArray), .int .i64 0] from (k37_mkM _ _ _ (⟨x6_3, (⟨#[]⟩ : ByteArray), 0⟩ : S37) )) (Reps.none _ _)))))); intro v515 w36 ho37 hb hg_ hnew_; clear hg_ hnew_; (first | rw [← Ny514.out] at ho37 | (simp only [Int.reduceToNat] at ho37; rw [← Ny514.out] at ho37)); have n0_ := Aside0.mk (Kd.R_lower ho37 (below_size (by repeat (first | (with_reducible first | exact HB.out | apply below_alloc | apply pw_below_drewN | apply below_drew1) | exact HB.out)))); have n1_ := Aside0.mk (below_step (by repeat (first | (with_reducible first | exact HB.out | apply below_alloc | apply pw_below_drewN | apply below_drew1) | exact HB.out)) hb); clear HB; have HO516 := n0_; have HB := n1_; clear n0_ n1_; clear hb ho37; obtain ⟨Ao38, co38, eo38⟩ := Kd.R_slice HO516.out; subst eo38) | (go_at_call 58; (with_reducible refine (variorumref06_Norm.calls k3 _ _ y514 t517 _ ?side1 ?side2 A35.out).mono ?_); (case side1 => repeat (first | exact (Kd.R_reads' HO516.out).2.2 | (with_reducible refine Kd.C_alloc ?_ _) | (with_reducible refine Kd.C_drewN ?_ _) | (with_reducible refine Kd.C_drew ?_))); (case side2 => exact (Kd.R_reads' HO516.out).2.1); rintro e w39 ⟨v518, rfl, ho0, hb⟩; have n0_ := Aside0.mk (Kd.R_elder' (by (with_reducible repeat (first | apply Kd.R_alloc | apply Kd.R_drewN | apply Kd.R_drew)); exact HO516.out) (Kd.R_base ho0) hb); have n1_ := Aside0.mk (Kd.R_lower (Kd.R_new' ho0 (Kd.R_lt (by (with_reducible repeat (first | apply Kd.R_alloc | apply Kd.R_drewN | apply Kd.R_drew)); exact HO516.out))) (below_size (by repeat (first | (with_reducible first | exact HB.out | apply below_alloc | apply pw_below_drewN | apply below_drew1) | exact HB.out)))); have n2_ := Aside0.mk (below_step (by repeat (first | (with_reducible first | exact HB.out | apply below_alloc | apply pw_below_drewN | apply below_drew1) | exact HB.out)) hb); clear HO516; clear HB; have HO516 := n0_; have HO519 := n1_; have HB := n2_; clear n0_ n1_ n2_; (try clear hb); (try clear hb2); (try clear hk); (try clear hi); (try clear ho0))))
                          go_ret
                          exact ⟨_, by first | rfl | (simp [errW_none, errW_some] <;> rfl) | (simp [*, errW_none, errW_some] <;> rfl), by (with_reducible repeat (first | apply Kd.R_alloc | apply Kd.R_drewN | apply Kd.R_drew)); exact Kd.R_mono HO519.out (fun _ hk => trivial), by repeat (first | (with_reducible first | exact HB.out | apply below_alloc | apply pw_below_drewN | apply below_drew1) | exact HB.out)⟩
                        · rw [if_neg c34] at H
                          exact absurd H (by simp)
                      · rw [if_neg c33] at H
                        exact absurd H (by simp)
                    · rw [if_neg c32] at H
                      exact absurd H (by simp)
                · rw [if_neg c13] at H
                  have c13b0 : decide (x6_3 < (wrap64 ((a0.size : Int) - x5_5))) = false := decide_eq_false c13
                  clear c13
                  by_cases c40 : 0 ≤ x5_5
                  · rw [if_pos c40] at H
                    have c40b0 := eq_true c40
                    have c40b1 : decide (0 ≤ x5_5) = true := decide_eq_true c40
                    clear c40
                    by_cases c41 : x5_5 ≤ (wrap64 ((a1.size : Int) - x6_3))
                    · rw [if_pos c41] at H
                      have c41b0 := eq_true c41
                      have c41b1 : decide (x5_5 ≤ (wrap64 ((a1.size : Int) - x6_3))) = true := decide_eq_true c41
                      clear c41
                      by_cases c42 : (wrap64 ((a1.size : Int) - x6_3)) ≤ (a1.size : Int)
                      · rw [if_pos c42] at H
                        have c42b0 := eq_true c42
                        have c42b1 : decide ((wrap64 ((a1.size : Int) - x6_3)) ≤ (a1.size : Int)) = true := decide_eq_true c42
                        clear c42
                        obtain ⟨y520, hy520⟩ : ∃ y_ : List (S37), y_ = (([(⟨x5_5, (⟨#[]⟩ : ByteArray), 0⟩ : S37), (⟨0, a1.extract (x5_5 : Int).toNat ((wrap64 ((a1.size : Int) - x6_3)) : Int).toNat, 0⟩ : S37), (⟨0, (⟨#[]⟩ : ByteArray), wrap64 ((wrap64 ((a0.size : Int) - x6_3)) - x5_5)⟩ : S37), (⟨x6_3, (⟨#[]⟩ : ByteArray), 0⟩ : S37)] : List (S37))) := ⟨_, rfl⟩
                        replace H : ((variorumref06_Norm.f k3 y520).bind fun t523 => (some t523)) = some r := by first | (rw [hy520]; with_reducible exact H) | (have H2_ := (Option.bind_some _ _).symm.trans H; rw [hy520]; with_reducible exact H2_) | (have H2_ := (Option.bind_some _ _).symm.trans H; with_reducible exact H2_) | with_reducible exact H | (rw [hy520]; exact H) | exact H
                        have Ny520 := Aside0.mk hy520
                        clear hy520
                        replace H := Option.bind_eq_some_iff.mp H
                        obtain ⟨t523, A430, H⟩ := H
                        replace H : (some t523) = some r := H
                        have A43 := Aside0.mk A430
                        clear A430
                        obtain rfl := Option.some.inj H
                        go_wp2_with (first | ((with_reducible refine gate_dst (N := 88) rfl ?_); (try (refine gate_guard (by rfl) ?_; dsimp only)); refine Kd.R_lit k37 _ 37 ?hg (N := 88) ?hd (xs := ([(⟨x5_5, (⟨#[]⟩ : ByteArray), 0⟩ : S37), (⟨0, a1.extract (x5_5 : Int).toNat ((wrap64 ((a1.size : Int) - x6_3)) : Int).toNat, 0⟩ : S37), (⟨0, (⟨#[]⟩ : ByteArray), wrap64 ((wrap64 ((a0.size : Int) - x6_3)) - x5_5)⟩ : S37), (⟨x6_3, (⟨#[]⟩ : ByteArray), 0⟩ : S37)] : List (S37))) (inner := [.int .i64 x5_5, .string (⟨#[]⟩ : ByteArray), .int .i64 0, .int .i64 0, .string (a1.extract (x5_5 : Int).toNat ((wrap64 ((a1.size : Int) - x6_3)) : Int).toNat), .int .i64 0, .int .i64 0, .string (⟨#[]⟩ : ByteArray), .int .i64 (wrap64 ((wrap64 ((a0.size : Int) - x6_3)) - x5_5)), .int .i64 x6_3, .string (⟨#[]⟩ : ByteArray), .int .i64 0]) (ok := fun _ => True) (okp := fun _ => True) ?hr ?hp (fun _ hk => hk) trivial (Below.refl _ _) (Nat.le_refl _) (by simp) ?_; (case hd => rfl); (case hg => rfl); (case hr => first | (go_simp; done) | (go_simp; rfl)); (case hp => exact (Reps.c3 (show Kd.M k37 _ _ _ (⟨x5_5, (⟨#[]⟩ : ByteArray), 0⟩ : S37) [.int .i64 x5_5, .string (⟨#[]⟩ : ByteArray), .int .i64 0] from (k37_mkM _ _ _ (⟨x5_5, (⟨#[]⟩ : ByteArray), 0⟩ : S37) )) (Reps.c3 (show Kd.M k37 _ _ _ (⟨0, a1.extract (x5_5 : Int).toNat ((wrap64 ((a1.size : Int) - x6_3)) : Int).toNat, 0⟩ : S37) [.int .i64 0, .string (a1.extract (x5_5 : Int).toNat ((wrap64 ((a1.size : Int) - x6_3)) : Int).toNat), .int .i64 0] from (k37_mkM _ _ _ (⟨0, a1.extract (x5_5 : Int).toNat ((wrap64 ((a1.size : Int) - x6_3)) : Int).toNat, 0⟩ : S37) )) (Reps.c3 (show Kd.M k37 _ _ _ (⟨0, (⟨#[]⟩ : ByteArray), wrap64 ((wrap64 ((a0.size : Int) - x6_3)) - x5_5)⟩ : S37) [.int .i64 0, .string (⟨#[]⟩ : ByteArray), .int .i64 (wrap64 ((wrap64 ((a0.size : Int) - x6_3)) - x5_5))] from (k37_mkM _ _ _ (⟨0, (⟨#[]⟩ : ByteArray), wrap64 ((wrap64 ((a0.size : Int) - x6_3)) - x5_5)⟩ : S37) )) (Reps.c3 (show Kd.M k37 _ _ _ (⟨x6_3, (⟨#[]⟩ : ByteArray), 0⟩ : S37) [.int .i64 x6_3, .string (⟨#[]⟩ : ByteArray), .int .i64 0] from (k37_mkM _ _ _ (⟨x6_3, (⟨#[]⟩ : ByteArray), 0⟩ : S37) )) (Reps.none _ _)))))); intro v521 w44 ho45 hb hg_ hnew_; clear hg_ hnew_; (first | rw [← Ny520.out] at ho45 | (simp only [Int.reduceToNat] at ho45; rw [← Ny520.out] at ho45)); have n0_ := Aside0.mk (Kd.R_lower ho45 (below_size (by repeat (first | (with_reducible first | exact HB.out | apply below_alloc | apply pw_below_drewN | apply below_drew1) | exact HB.out)))); have n1_ := Aside0.mk (below_step (by repeat (first | (with_reducible first | exact HB.out | apply below_alloc | apply pw_below_drewN | apply below_drew1) | exact HB.out)) hb); clear HB; have HO522 := n0_; have HB := n1_; clear n0_ n1_; clear hb ho45; obtain ⟨Ao46, co46, eo46⟩ := Kd.R_slice HO522.out; subst eo46) | (go_at_call 58; (with_reducible refine (variorumref06_Norm.calls k3 _ _ y520 t523 _ ?side1 ?side2 A43.out).mono ?_); (case side1 => repeat (first | exact (Kd.R_reads' HO522.out).2.2 | (with_reducible refine Kd.C_alloc ?_ _) | (with_reducible refine Kd.C_drewN ?_ _) | (with_reducible refine Kd.C_drew ?_))); (case side2 => exact (Kd.R_reads' HO522.out).2.1); rintro e w47 ⟨v524, rfl, ho0, hb⟩; have n0_ := Aside0.mk (Kd.R_elder' (by (with_reducible repeat (first | apply Kd.R_alloc | apply Kd.R_drewN | apply Kd.R_drew)); exact HO522.out) (Kd.R_base ho0) hb); have n1_ := Aside0.mk (Kd.R_lower (Kd.R_new' ho0 (Kd.R_lt (by (with_reducible repeat (first | apply Kd.R_alloc | apply Kd.R_drewN | apply Kd.R_drew)); exact HO522.out))) (below_size (by repeat (first | (with_reducible first | exact HB.out | apply below_alloc | apply pw_below_drewN | apply below_drew1) | exact HB.out)))); have n2_ := Aside0.mk (below_step (by repeat (first | (with_reducible first | exact HB.out | apply below_alloc | apply pw_below_drewN | apply below_drew1) | exact HB.out)) hb); clear HO522; clear HB; have HO522 := n0_; have HO525 := n1_; have HB := n2_; clear n0_ n1_ n2_; (try clear hb); (try clear hb2); (try clear hk); (try clear hi); (try clear ho0)))
                        repeat (go_quiet (first | ((with_reducible refine gate_dst (N := 88) rfl ?_); (try (refine gate_guard (by rfl) ?_; dsimp only)); refine Kd.R_lit k37 _ 37 ?hg (N := 88) ?hd (xs := ([(⟨x5_5, (⟨#[]⟩ : ByteArray), 0⟩ : S37), (⟨0, a1.extract (x5_5 : Int).toNat ((wrap64 ((a1.size : Int) - x6_3)) : Int).toNat, 0⟩ : S37), (⟨0, (⟨#[]⟩ : ByteArray), wrap64 ((wrap64 ((a0.size : Int) - x6_3)) - x5_5)⟩ : S37), (⟨x6_3, (⟨#[]⟩ : ByteArray), 0⟩ : S37)] : List (S37))) (inner := [.int .i64 x5_5, .string (⟨#[]⟩ : ByteArray), .int .i64 0, .int .i64 0, .string (a1.extract (x5_5 : Int).toNat ((wrap64 ((a1.size : Int) - x6_3)) : Int).toNat), .int .i64 0, .int .i64 0, .string (⟨#[]⟩ : ByteArray), .int .i64 (wrap64 ((wrap64 ((a0.size : Int) - x6_3)) - x5_5)), .int .i64 x6_3, .string (⟨#[]⟩ : ByteArray), .int .i64 0]) (ok := fun _ => True) (okp := fun _ => True) ?hr ?hp (fun _ hk => hk) trivial (Below.refl _ _) (Nat.le_refl _) (by simp) ?_; (case hd => rfl); (case hg => rfl); (case hr => first | (go_simp; done) | (go_simp; rfl)); (case hp => exact (Reps.c3 (show Kd.M k37 _ _ _ (⟨x5_5, (⟨#[]⟩ : ByteArray), 0⟩ : S37) [.int .i64 x5_5, .string (⟨#[]⟩ : ByteArray), .int .i64 0] from (k37_mkM _ _ _ (⟨x5_5, (⟨#[]⟩ : ByteArray), 0⟩ : S37) )) (Reps.c3 (show Kd.M k37 _ _ _ (⟨0, a1.extract (x5_5 : Int).toNat ((wrap64 ((a1.size : Int) - x6_3)) : Int).toNat, 0⟩ : S37) [.int .i64 0, .string (a1.extract (x5_5 : Int).toNat ((wrap64 ((a1.size : Int) - x6_3)) : Int).toNat), .int .i64 0] from (k37_mkM _ _ _ (⟨0, a1.extract (x5_5 : Int).toNat ((wrap64 ((a1.size : Int) - x6_3)) : Int).toNat, 0⟩ : S37) )) (Reps.c3 (show Kd.M k37 _ _ _ (⟨0, (⟨#[]⟩ : ByteArray), wrap64 ((wrap64 ((a0.size : Int) - x6_3)) - x5_5)⟩ : S37) [.int .i64 0, .string (⟨#[]⟩ : ByteArray), .int .i64 (wrap64 ((wrap64 ((a0.size : Int) - x6_3)) - x5_5))] from (k37_mkM _ _ _ (⟨0, (⟨#[]⟩ : ByteArray), wrap64 ((wrap64 ((a0.size : Int) - x6_3)) - x5_5)⟩ : S37) )) (Reps.c3 (show Kd.M k37 _ _ _ (⟨x6_3, (⟨#[]⟩ : ByteArray), 0⟩ : S37) [.int .i64 x6_3, .string (⟨#[]⟩ : ByteArray), .int .i64 0] from (k37_mkM _ _ _ (⟨x6_3, (⟨#[]⟩ : ByteArray), 0⟩ : S37) )) (Reps.none _ _)))))); intro v521 w44 ho45 hb hg_ hnew_; clear hg_ hnew_; (first | rw [← Ny520.out] at ho45 | (simp only [Int.reduceToNat] at ho45; rw [← Ny520.out] at ho45)); have n0_ := Aside0.mk (Kd.R_lower ho45 (below_size (by repeat (first | (with_reducible first | exact HB.out | apply below_alloc | apply pw_below_drewN | apply below_drew1) | exact HB.out)))); have n1_ := Aside0.mk (below_step (by repeat (first | (with_reducible first | exact HB.out | apply below_alloc | apply pw_below_drewN | apply below_drew1) | exact HB.out)) hb); clear HB; have HO522 := n0_; have HB := n1_; clear n0_ n1_; clear hb ho45; obtain ⟨Ao46, co46, eo46⟩ := Kd.R_slice HO522.out; subst eo46) | (go_at_call 58; (with_reducible refine (variorumref06_Norm.calls k3 _ _ y520 t523 _ ?side1 ?side2 A43.out).mono ?_); (case side1 => repeat (first | exact (Kd.R_reads' HO522.out).2.2 | (with_reducible refine Kd.C_alloc ?_ _) | (with_reducible refine Kd.C_drewN ?_ _) | (with_reducible refine Kd.C_drew ?_))); (case side2 => exact (Kd.R_reads' HO522.out).2.1); rintro e w47 ⟨v524, rfl, ho0, hb⟩; have n0_ := Aside0.mk (Kd.R_elder' (by (with_reducible repeat (first | apply Kd.R_alloc | apply Kd.R_drewN | apply Kd.R_drew)); exact HO522.out) (Kd.R_base ho0) hb); have n1_ := Aside0.mk (Kd.R_lower (Kd.R_new' ho0 (Kd.R_lt (by (with_reducible repeat (first | apply Kd.R_alloc | apply Kd.R_drewN | apply Kd.R_drew)); exact HO522.out))) (below_size (by repeat (first | (with_reducible first | exact HB.out | apply below_alloc | apply pw_below_drewN | apply below_drew1) | exact HB.out)))); have n2_ := Aside0.mk (below_step (by repeat (first | (with_reducible first | exact HB.out | apply below_alloc | apply pw_below_drewN | apply below_drew1) | exact HB.out)) hb); clear HO522; clear HB; have HO522 := n0_; have HO525 := n1_; have HB := n2_; clear n0_ n1_ n2_; (try clear hb); (try clear hb2); (try clear hk); (try clear hi); (try clear ho0))); try go_wp2_with (first | ((with_reducible refine gate_dst (N := 88) rfl ?_); (try (refine gate_guard (by rfl) ?_; dsimp only)); refine Kd.R_lit k37 _ 37 ?hg (N := 88) ?hd (xs := ([(⟨x5_5, (⟨#[]⟩ : ByteArray), 0⟩ : S37), (⟨0, a1.extract (x5_5 : Int).toNat ((wrap64 ((a1.size : Int) - x6_3)) : Int).toNat, 0⟩ : S37), (⟨0, (⟨#[]⟩ : ByteArray), wrap64 ((wrap64 ((a0.size : Int) - x6_3)) - x5_5)⟩ : S37), (⟨x6_3, (⟨#[]⟩ : ByteArray), 0⟩ : S37)] : List (S37))) (inner := [.int .i64 x5_5, .string (⟨#[]⟩ : ByteArray), .int .i64 0, .int .i64 0, .string (a1.extract (x5_5 : Int).toNat ((wrap64 ((a1.size : Int) - x6_3)) : Int).toNat), .int .i64 0, .int .i64 0, .string (⟨#[]⟩ : ByteArray), .int .i64 (wrap64 ((wrap64 ((a0.size : Int) - x6_3)) - x5_5)), .int .i64 x6_3, .string (⟨#[]⟩ : ByteArray), .int .i64 0]) (ok := fun _ => True) (okp := fun _ => True) ?hr ?hp (fun _ hk => hk) trivial (Below.refl _ _) (Nat.le_refl _) (by simp) ?_; (case hd => rfl); (case hg => rfl); (case hr => first | (go_simp; done) | (go_simp; rfl)); (case hp => exact (Reps.c3 (show Kd.M k37 _ _ _ (⟨x5_5, (⟨#[]⟩ : ByteArray), 0⟩ : S37) [.int .i64 x5_5, .string (⟨#[]⟩ : ByteArray), .int .i64 0] from (k37_mkM _ _ _ (⟨x5_5, (⟨#[]⟩ : ByteArray), 0⟩ : S37) )) (Reps.c3 (show Kd.M k37 _ _ _ (⟨0, a1.extract (x5_5 : Int).toNat ((wrap64 ((a1.size : Int) - x6_3)) : Int).toNat, 0⟩ : S37) [.int .i64 0, .string (a1.extract (x5_5 : Int).toNat ((wrap64 ((a1.size : Int) - x6_3)) : Int).toNat), .int .i64 0] from (k37_mkM _ _ _ (⟨0, a1.extract (x5_5 : Int).toNat ((wrap64 ((a1.size : Int) - x6_3)) : Int).toNat, 0⟩ : S37) )) (Reps.c3 (show Kd.M k37 _ _ _ (⟨0, (⟨#[]⟩ : ByteArray), wrap64 ((wrap64 ((a0.size : Int) - x6_3)) - x5_5)⟩ : S37) [.int .i64 0, .string (⟨#[]⟩ : ByteArray), .int .i64 (wrap64 ((wrap64 ((a0.size : Int) - x6_3)) - x5_5))] from (k37_mkM _ _ _ (⟨0, (⟨#[]⟩ : ByteArray), wrap64 ((wrap64 ((a0.size : Int) - x6_3)) - x5_5)⟩ : S37) )) (Reps.c3 (show Kd.M k37 _ _ _ (⟨x6_3, (⟨#[]⟩ : ByteArray), 0⟩ : S37) [.int .i64 x6_3, .string (⟨#[]⟩ : ByteArray), .int .i64 0] from (k37_mkM _ _ _ (⟨x6_3, (⟨#[]⟩ : ByteArray), 0⟩ : S37) )) (Reps.none _ _)))))); intro v521 w44 ho45 hb hg_ hnew_; clear hg_ hnew_; (first | rw [← Ny520.out] at ho45 | (simp only [Int.reduceToNat] at ho45; rw [← Ny520.out] at ho45)); have n0_ := Aside0.mk (Kd.R_lower ho45 (below_size (by repeat (first | (with_reducible first | exact HB.out | apply below_alloc | apply pw_below_drewN | apply below_drew1) | exact HB.out)))); have n1_ := Aside0.mk (below_step (by repeat (first | (with_reducible first | exact HB.out | apply below_alloc | apply pw_below_drewN | apply below_drew1) | exact HB.out)) hb); clear HB; have HO522 := n0_; have HB := n1_; clear n0_ n1_; clear hb ho45; obtain ⟨Ao46, co46, eo46⟩ := Kd.R_slice HO522.out; subst eo46) | (go_at_call 58; (with_reducible refine (variorumref06_Norm.calls k3 _ _ y520 t523 _ ?side1 ?side2 A43.out).mono ?_); (case side1 => repeat (first | exact (Kd.R_reads' HO522.out).2.2 | (with_reducible refine Kd.C_alloc ?_ _) | (with_reducible refine Kd.C_drewN ?_ _) | (with_reducible refine Kd.C_drew ?_))); (case side2 => exact (Kd.R_reads' HO522.out).2.1); rintro e w47 ⟨v524, rfl, ho0, hb⟩; have n0_ := Aside0.mk (Kd.R_elder' (by (with_reducible repeat (first | apply Kd.R_alloc | apply Kd.R_drewN | apply Kd.R_drew)); exact HO522.out) (Kd.R_base ho0) hb); have n1_ := Aside0.mk (Kd.R_lower (Kd.R_new' ho0 (Kd.R_lt (by (with_reducible repeat (first | apply Kd.R_alloc | apply Kd.R_drewN | apply Kd.R_drew)); exact HO522.out))) (below_size (by repeat (first | (with_reducible first | exact HB.out | apply below_alloc | apply pw_below_drewN | apply below_drew1) | exact HB.out)))); have n2_ := Aside0.mk (below_step (by repeat (first | (with_reducible first | exact HB.out | apply below_alloc | apply pw_below_drewN | apply below_drew1) | exact HB.out)) hb); clear HO522; clear HB; have HO522 := n0_; have HO525 := n1_; have HB := n2_; clear n0_ n1_ n2_; (try clear hb); (try clear hb2); (try clear hk); (try clear hi); (try clear ho0))))
                        go_ret
                        exact ⟨_, by first | rfl | (simp [errW_none, errW_some] <;> rfl) | (simp [*, errW_none, errW_some] <;> rfl), by (with_reducible repeat (first | apply Kd.R_alloc | apply Kd.R_drewN | apply Kd.R_drew)); exact Kd.R_mono HO525.out (fun _ hk => trivial), by repeat (first | (with_reducible first | exact HB.out | apply below_alloc | apply pw_below_drewN | apply below_drew1) | exact HB.out)⟩
                      · rw [if_neg c42] at H
                        exact absurd H (by simp)
                    · rw [if_neg c41] at H
                      exact absurd H (by simp)
                  · rw [if_neg c40] at H
                    exact absurd H (by simp)

end Go.Proofs.Ythocalfgeaclgaa.P
end
-- MERGED YthocalfgeaclgaaEditIdle
section
/- The walk of edit.Idle: slices.ContainsFunc over a row of runs. -/
namespace Go.Proofs.Ythocalfgeaclgaa.EditIdle
open Go.RowKit Go.Shelf Go.Proofs.Ythocalfgeaclgaa.P Go.Proofs.YthocalfgeaclgaaW.PrintWords Go.Proofs.YthocalfgeaclgaaW.PrintLast Go.Proofs.YthocalfgeaclgaaW.PrintMore Go.Proofs.Ythocalfgeaclgaa.Own Go.Proofs.Ythocalfgeaclgaa.EditL Go.Proofs.Ythocalfgeaclgaa.EditK Go.Proofs.Ythocalfgeaclgaa.EditF Go.Proofs.Ythocalfgeaclgaa.EditG Go.Proofs.Ythocalfgeaclgaa.EditR Go.Proofs.Ythocalfgeaclgaa.EditI
set_option linter.unusedSimpArgs false
set_option linter.unusedVariables false

def keeps (l : List Rn) : Bool := l.all fun r => decide (knd r = 1)
def idle (l : List Rn) : Bool := good l && keeps l
theorem keeps_snoc (l : List Rn) (r : Rn) : keeps (l ++ [r]) = (keeps l && decide (knd r = 1)) := by unfold keeps; simp
theorem keeps_take {l : List Rn} {j : Nat} (h : j < l.length) : keeps (l.take (j + 1)) = (keeps (l.take j) && decide (knd (l.getD j z37) = 1)) := by
  rw [List.take_add_one, List.getElem?_eq_getElem h, Option.toList_some, keeps_snoc, List.getD_eq_getElem?_getD, List.getElem?_eq_getElem h]; rfl
theorem keeps_no {l : List Rn} {j : Nat} (h : j < l.length) (hk : knd (l.getD j z37) ≠ 1) : keeps l = false := by
  have hm : l.getD j z37 ∈ l := by rw [List.getD_eq_getElem?_getD, List.getElem?_eq_getElem h]; exact List.getElem_mem h
  rw [Bool.eq_false_iff]
  intro e
  unfold keeps at e
  rw [List.all_eq_true] at e
  exact hk (by simpa using e _ hm)
set_option maxHeartbeats 4000000 in
set_option maxRecDepth 100000 in
theorem fn_c (r : Rn) (w : World) : Calls Try.prog 63 #[.agg #[.int .i64 r.f0, .string r.f1, .int .i64 r.f2]] w fun e w' => e = .returned (.bool (!decide (knd r = 1))) ∧ Below w.heap.size w w' := by
  have HB0 := Aside0.mk (below_alloc (Below.refl w.heap.size w) (.cells #[.int .i64 r.f0, .string r.f1, .int .i64 r.f2] 37))
  have HK := Aside0.mk (kind_c r)
  obtain ⟨K, hK⟩ : ∃ K, K = knd r := ⟨_, rfl⟩
  rw [← hK] at HK ⊢
  clear hK
  go_enter Try.func63, Try.ntmps63
  go_wp2_with (first | (go_at_call 54; refine (HK.out _).mono ?_; rintro e w1 ⟨rfl, hb⟩; have HB := Aside0.mk (below_step HB0.out hb); clear hb))
  go_ret
  exact ⟨by by_cases h : K = 1 <;> simp [h], HB.out⟩
set_option maxHeartbeats 4000000 in
set_option maxRecDepth 100000 in
theorem index_c (A0 : Option Addr) (c0 : Nat) (l0 : List Rn) (w : World) (h : RC w A0 l0) (hc : l0.length ≤ c0) (hl : l0.length ≤ 140737488351232) :
    Calls Try.prog 69 #[.slice A0 l0.length c0, .func (.func 63) #[] #[]] w fun e w' => ∃ i : Int, e = .returned (.int .i64 i) ∧ (decide (i ≥ 0) = !(keeps l0)) ∧ Below w.heap.size w w' := by
  have H0 := Aside0.mk h
  clear h
  go_enter Try.func69, Try.ntmps69
  go_wp2_with fail
  go_loopw [8] (fun iv wr => ∃ j : Nat, j ≤ l0.length ∧ iv = .int .i64 (j : Int) ∧ keeps (l0.take j) = true ∧ Below w.heap.size w wr) (fun iv _ => l0.length - (intOf iv).toNat)
  case atStart => exact ⟨0, Nat.zero_le _, rfl, rfl, Below.refl _ _⟩
  case round =>
    obtain ⟨j, hj, rfl, ho, hb⟩ := hrel
    have HB := Aside0.mk hb
    have HO := Aside0.mk ho
    clear hb ho
    by_cases hlt : j < l0.length
    · have hlt' : (j : Int) < (l0.length : Int) := by omega
      obtain ⟨ad, rfl, x0, x1, x2⟩ := at_nat (Kd.C_below H0.out HB.out) j hlt
      have HT := Aside0.mk (keeps_take hlt)
      have HNO := Aside0.mk (keeps_no hlt)
      obtain ⟨r, hr⟩ : ∃ r, r = l0.getD j z37 := ⟨_, rfl⟩
      rw [← hr] at x0 x1 x2 HT HNO
      clear hr
      by_cases hk : knd r = 1
      · have HF := fn_c r
        rw [decide_eq_true hk] at HF
        rw [decide_eq_true hk, HO.out] at HT
        have HFA := Aside0.mk HF
        clear HF hk HNO
        go_wp2_with (first | (go_at_call 63; refine (HFA.out _).mono ?_; rintro e w1 ⟨rfl, hb⟩; have HB1 := Aside0.mk (below_step HB.out hb); clear hb x0 x1 x2))
        go_roundw
        case rel => exact ⟨j + 1, by omega, by go_num, HT.out, HB1.out⟩
        case measure => simp [intOf]; omega
      · have HF := fn_c r
        rw [decide_eq_false hk] at HF
        have HFA := Aside0.mk HF
        have HN := Aside0.mk (HNO.out hk)
        clear HF hk HNO HT
        go_wp2_with (first | (go_at_call 63; refine (HFA.out _).mono ?_; rintro e w1 ⟨rfl, hb⟩; have HB1 := Aside0.mk (below_step HB.out hb); clear hb x0 x1 x2))
        go_ret
        exact ⟨_, rfl, by rw [HN.out]; simp, HB1.out⟩
    · obtain rfl : j = l0.length := by omega
      have h3 := HO.out
      rw [List.take_length] at h3
      have HE := Aside0.mk h3
      clear h3
      have hlt' : ¬ ((l0.length : Int) < (l0.length : Int)) := by omega
      go_wp2_with fail
      go_ret
      exact ⟨_, rfl, by rw [HE.out]; rfl, HB.out⟩
set_option maxHeartbeats 4000000 in
set_option maxRecDepth 100000 in
theorem contains_c (A0 : Option Addr) (c0 : Nat) (l0 : List Rn) (w : World) (h : RC w A0 l0) (hc : l0.length ≤ c0) (hl : l0.length ≤ 140737488351232) :
    Calls Try.prog 62 #[.slice A0 l0.length c0, .func (.func 63) #[] #[]] w fun e w' => e = .returned (.bool (!(keeps l0))) ∧ Below w.heap.size w w' := by
  have HI := Aside0.mk (index_c A0 c0 l0 w h hc hl)
  clear h
  go_enter Try.func62, Try.ntmps62
  go_wp2_with (first | (go_at_call 69; refine (HI.out).mono ?_; rintro e w1 ⟨i, rfl, hi, hb⟩; have HB1 := Aside0.mk hb; have HN := Aside0.mk hi; clear hb hi))
  go_ret
  exact ⟨by rw [← HN.out]; rfl, HB1.out⟩
set_option maxHeartbeats 4000000 in
set_option maxRecDepth 100000 in
theorem idle_c (A0 : Option Addr) (c0 : Nat) (l0 : List Rn) (w : World) (h : Kd.C k37 w A0 l0.length l0) (hc : l0.length ≤ c0) (hl : l0.length ≤ 140737488351232) :
    Calls Try.prog 45 #[.slice A0 l0.length c0] w fun e w' => e = .returned (.bool (idle l0)) ∧ Below w.heap.size w w' := by
  have HG := edit_Good.calls (l0.length + 1) A0 c0 l0 _ w h hc (good_f hl _ (Nat.lt_succ_self _))
  have HC := Aside0.mk (fun W hb => contains_c A0 c0 l0 W (Kd.C_below (w1 := W) h hb) hc hl)
  have HI := Aside0.mk (show idle l0 = (good l0 && keeps l0) from rfl)
  clear h
  cases hg : good l0 with
  | false =>
    rw [hg] at HG HI
    have HGA := Aside0.mk HG
    clear HG hg
    go_enter Try.func45, Try.ntmps45
    go_wp2_with (first | (go_at_call 24; refine (HGA.out).mono ?_; rintro e w1 ⟨rfl, hb⟩; have HB1 := Aside0.mk hb; clear hb))
    go_ret
    exact ⟨by rw [HI.out]; rfl, HB1.out⟩
  | true =>
    rw [hg] at HG HI
    have HGA := Aside0.mk HG
    clear HG hg
    go_enter Try.func45, Try.ntmps45
    go_wp2_with (first | (go_at_call 24; refine (HGA.out).mono ?_; rintro e w1 ⟨rfl, hb⟩; have HB1 := Aside0.mk hb; clear hb) | (go_at_call 62; refine (HC.out _ HB1.out).mono ?_; rintro e w2 ⟨rfl, hb⟩; have HB2 := Aside0.mk (below_step HB1.out hb); clear hb))
    go_ret
    exact ⟨by rw [HI.out]; simp, HB2.out⟩
end Go.Proofs.Ythocalfgeaclgaa.EditIdle
end
-- MERGED YthocalfgeaclgaaPeditIdle
section
-- Written by wip/myprint.py of this session, over the kit's print.py: a Lean function for each Go function, and the proof that the code comes to it.
namespace Go.Proofs.Ythocalfgeaclgaa.P
open Go.RowKit Go.Proofs.YthocalfgeaclgaaW.PrintWords Go.Proofs.YthocalfgeaclgaaW.PrintLast Go.Proofs.YthocalfgeaclgaaW.PrintMore
attribute [local go_sem] max2_int min2_int max_two min_two max_three min_three max_four min_four   -- for this text's walks alone
set_option linter.unusedVariables false
set_option linter.unusedSimpArgs false

/-! ### edit_Idle: function 45 -/
-- NEEDS Derived.Test.YthocalfgeaclgaaEditIdle
def edit_Idle.f (l0 : List (S37)) : Option Bool := if l0.length ≤ 140737488351232 then some (EditIdle.idle l0) else none
theorem edit_Idle.calls (A0 : Option Addr) (c0 : Nat) (l0 : List (S37)) (r : Bool) (w : World) (hr0 : Kd.C k37 w A0 l0.length l0) (hc0 : l0.length ≤ c0) (h : edit_Idle.f l0 = some r) :
    Calls Try.prog 45 #[.slice A0 l0.length c0] w fun e w' => e = .returned (.bool r) ∧ Below w.heap.size w w' := by
  unfold edit_Idle.f at h
  by_cases hl : l0.length ≤ 140737488351232
  · rw [if_pos hl] at h
    obtain rfl := Option.some.inj h
    exact EditIdle.idle_c A0 c0 l0 w hr0 hc0 hl
  · rw [if_neg hl] at h; cases h

end Go.Proofs.Ythocalfgeaclgaa.P
end
-- MERGED YthocalfgeaclgaaPvariorumlaw07RunBetween
section
-- Written by wip/myprint.py of this session, over the kit's print.py: a Lean function for each Go function, and the proof that the code comes to it.
namespace Go.Proofs.Ythocalfgeaclgaa.P
open Go.RowKit Go.Proofs.YthocalfgeaclgaaW.PrintWords Go.Proofs.YthocalfgeaclgaaW.PrintLast Go.Proofs.YthocalfgeaclgaaW.PrintMore
attribute [local go_sem] max2_int min2_int max_two min_two max_three min_three max_four min_four   -- for this text's walks alone
set_option linter.unusedVariables false
set_option linter.unusedSimpArgs false

/-! ### variorumlaw07_RunBetween: function 9 -/
def variorumlaw07_RunBetween.j0 : Nat → ByteArray → ByteArray → Bool → Option (Bool)
  | 0, _, _, _ => none
  | k + 1, x0, x1, x15 => if x15 = true then ((variorumlaw07_lives.f k).bind fun t526 => (some t526)) else ((run_Between.f k x0 x1).bind fun t527 => ((run_Apply.f t527 x0).bind fun bt530 => ((variorumref07_Between.f k x0 x1).bind fun t532 => ((variorumref06_Same.f k t527 t532).bind fun t535 => (if t535 = true then (if bt530.2 = 0 then (if bt530.1.toList = x1.toList then ((run_Between.f k x0 x0).bind fun t536 => ((edit_Idle.f t536).bind fun t539 => (if t539 = true then ((variorumlaw07_lives.f k).bind fun t540 => (some t540)) else (some false)))) else (some false)) else (some false)) else (some false))))))
def variorumlaw07_RunBetween.f (k : Nat) (a0 : ByteArray) (a1 : ByteArray) : Option (Bool) := if (a0.size : Int) > 2000 then (variorumlaw07_RunBetween.j0 k a0 a1 true) else (variorumlaw07_RunBetween.j0 k a0 a1 (decide ((a1.size : Int) > 2000)))
theorem variorumlaw07_RunBetween.mono_l : ∀ k, (∀ y0 y1 y2, LeO (variorumlaw07_RunBetween.j0 k y0 y1 y2) (variorumlaw07_RunBetween.j0 (k + 1) y0 y1 y2))
  | 0 => fun _ _ _ r h => by simp [variorumlaw07_RunBetween.j0] at h
  | k + 1 => by
    have ih0 := variorumlaw07_RunBetween.mono_l k
    · intro y0 y1 y2
      unfold variorumlaw07_RunBetween.j0
      repeat' first
      | (with_reducible exact ih0 _ _ _)
      | (with_reducible exact run_Between.mono _ _ _)
      | (with_reducible exact variorumlaw07_lives.mono _)
      | (with_reducible exact variorumref06_Same.mono _ _ _)
      | (with_reducible exact variorumref07_Between.mono _ _ _)
      | (with_reducible exact LeO.refl _)
      | (with_reducible exact LeO.none _)
      | (with_reducible refine LeO.ite ?_ ?_)
      | (with_reducible refine LeO.bind ?_ (fun _ => ?_))
      | exact ih0 _ _ _
      | exact run_Between.mono _ _ _
      | exact variorumlaw07_lives.mono _
      | exact variorumref06_Same.mono _ _ _
      | exact variorumref07_Between.mono _ _ _
      | exact LeO.none _
      | refine LeO.ite ?_ ?_
      | refine LeO.bind ?_ (fun _ => ?_)
theorem variorumlaw07_RunBetween.mono : ∀ a0 a1 k, LeO (variorumlaw07_RunBetween.f k a0 a1) (variorumlaw07_RunBetween.f (k + 1) a0 a1) := by
  intro a0 a1 k
  have ih0 := variorumlaw07_RunBetween.mono_l k
  unfold variorumlaw07_RunBetween.f
  repeat' first
      | (with_reducible exact ih0 _ _ _)
      | (with_reducible exact run_Between.mono _ _ _)
      | (with_reducible exact variorumlaw07_lives.mono _)
      | (with_reducible exact variorumref06_Same.mono _ _ _)
      | (with_reducible exact variorumref07_Between.mono _ _ _)
      | (with_reducible exact LeO.refl _)
      | (with_reducible exact LeO.none _)
      | (with_reducible refine LeO.ite ?_ ?_)
      | (with_reducible refine LeO.bind ?_ (fun _ => ?_))
      | exact ih0 _ _ _
      | exact run_Between.mono _ _ _
      | exact variorumlaw07_lives.mono _
      | exact variorumref06_Same.mono _ _ _
      | exact variorumref07_Between.mono _ _ _
      | exact LeO.none _
      | refine LeO.ite ?_ ?_
      | refine LeO.bind ?_ (fun _ => ?_)
set_option maxHeartbeats 8000000 in
set_option maxRecDepth 100000 in
theorem variorumlaw07_RunBetween.calls (k : Nat) (a0 : ByteArray) (a1 : ByteArray) (r : Bool) (w : World) (h : variorumlaw07_RunBetween.f k a0 a1 = some r) :
    Calls Try.prog 9 #[.string a0, .string a1] w fun e w' => e = .returned (.bool r) ∧ Below w.heap.size w w' := by
  have HB := Aside0.mk (Below.refl w.heap.size w)
  have H : (if (a0.size : Int) > 2000 then (variorumlaw07_RunBetween.j0 k a0 a1 true) else (variorumlaw07_RunBetween.j0 k a0 a1 (decide ((a1.size : Int) > 2000)))) = some r := h
  clear h
  have HC3 := Aside0.mk H
  clear H
  go_enter Try.func9, Try.ntmps9
  go_upto_region 1 with (fail)
  go_cut [15] (fun v15 wc => ∃ (kq : Nat) (x15_2 : Bool), v15 = .bool x15_2 ∧ Aside0 (variorumlaw07_RunBetween.j0 kq a0 a1 x15_2 = some r) ∧ Aside0 (kq ≤ k) ∧ Aside0 (Below w.heap.size w wc))
  case first =>
    have H := HC3.out
    clear HC3
    by_cases c4 : (a0.size : Int) > 2000
    · rw [if_pos c4] at H
      have c4b0 : decide (2000 < (a0.size : Int)) = true := decide_eq_true c4
      have c4b1 : decide (2000 < a0.size) = true := decide_eq_true (by omega)
      clear c4
      (first | rw [c4b0] | (simp only [i64_w, i32_w]; rw [c4b0]) | skip)
      have H' := Aside0.mk H
      clear H
      go_wp2
      go_meet
      case rel => exact ⟨_, (true), (by first | rfl | (simp; done) | (simp [*]; done)), H', ⟨by first | omega | exact Nat.le_refl _⟩, ⟨by repeat (first | (with_reducible first | exact HB.out | apply below_alloc | apply pw_below_drewN | apply below_drew1) | exact HB.out)⟩⟩
    · rw [if_neg c4] at H
      have c4b0 : decide (2000 < (a0.size : Int)) = false := decide_eq_false c4
      have c4b1 : decide (2000 < a0.size) = false := decide_eq_false (by omega)
      clear c4
      (first | rw [c4b0] | (simp only [i64_w, i32_w]; rw [c4b0]) | skip)
      have H' := Aside0.mk H
      clear H
      go_wp2
      go_meet
      case rel => exact ⟨_, (decide ((a1.size : Int) > 2000)), (by first | rfl | (simp; done) | (simp [*]; done)), H', ⟨by first | omega | exact Nat.le_refl _⟩, ⟨by repeat (first | (with_reducible first | exact HB.out | apply below_alloc | apply pw_below_drewN | apply below_drew1) | exact HB.out)⟩⟩
  case rest =>
    clear HC3
    try clear p2
    try clear c4
    try clear c4b0
    try clear c4b1
    obtain ⟨kq, x15_2, rfl, HA, HJ2, HB⟩ := hcut
    cases kq with
    | zero => exact absurd HA.out (by simp [variorumlaw07_RunBetween.j0])
    | succ kj2 =>
      have H := HA.out
      clear HA
      simp only [variorumlaw07_RunBetween.j0] at H
      by_cases c5 : x15_2 = true
      · subst c5
        have H1 : ((variorumlaw07_lives.f kj2).bind fun t526 => (some t526)) = some r := by rw [if_pos rfl] at H; exact H
        clear H
        have H := H1
        clear H1
        replace H := Option.bind_eq_some_iff.mp H
        obtain ⟨t526, A60, H⟩ := H
        replace H : (some t526) = some r := H
        have A6 := Aside0.mk A60
        clear A60
        obtain rfl := Option.some.inj H
        go_wp2_with (first | ((with_reducible refine gate_callee (f := 42) rfl ?_); refine goesL_ (some 16) rfl rfl Try.func42 (by kernel_rfl) rfl #[] rfl (by (try simp only [List.map_toArray, List.map_cons, List.map_nil]); first | done | rfl | (simp only [List.length_drop, List.length_take]; rfl)) ?_; (with_reducible refine (variorumlaw07_lives.calls kj2  t526 _ A6.out).mono ?_); rintro e w7 ⟨rfl, hb⟩; refine ⟨_, rfl, ?_⟩; have n0_ := Aside0.mk (below_step (by repeat (first | (with_reducible first | exact HB.out | apply below_alloc | apply pw_below_drewN | apply below_drew1) | exact HB.out)) hb); clear HB; have HB := n0_; clear n0_; (try clear hb); (try clear hb2); (try clear hk); (try clear hi)))
        go_ret
        exact ⟨by first | rfl | (simp [errW_none, errW_some] <;> rfl) | (simp [*, errW_none, errW_some] <;> rfl), by repeat (first | (with_reducible first | exact HB.out | apply below_alloc | apply pw_below_drewN | apply below_drew1) | exact HB.out)⟩
      · replace c5 := Bool.eq_false_iff.mpr c5
        subst c5
        have H1 : ((run_Between.f kj2 a0 a1).bind fun t527 => ((run_Apply.f t527 a0).bind fun bt530 => ((variorumref07_Between.f kj2 a0 a1).bind fun t532 => ((variorumref06_Same.f kj2 t527 t532).bind fun t535 => (if t535 = true then (if bt530.2 = 0 then (if bt530.1.toList = a1.toList then ((run_Between.f kj2 a0 a0).bind fun t536 => ((edit_Idle.f t536).bind fun t539 => (if t539 = true then ((variorumlaw07_lives.f kj2).bind fun t540 => (some t540)) else (some false)))) else (some false)) else (some false)) else (some false)))))) = some r := by rw [if_neg (show ¬ (false = true) by decide)] at H; exact H
        clear H
        have H := H1
        clear H1
        replace H := Option.bind_eq_some_iff.mp H
        obtain ⟨t527, A80, H⟩ := H
        replace H : ((run_Apply.f t527 a0).bind fun bt530 => ((variorumref07_Between.f kj2 a0 a1).bind fun t532 => ((variorumref06_Same.f kj2 t527 t532).bind fun t535 => (if t535 = true then (if bt530.2 = 0 then (if bt530.1.toList = a1.toList then ((run_Between.f kj2 a0 a0).bind fun t536 => ((edit_Idle.f t536).bind fun t539 => (if t539 = true then ((variorumlaw07_lives.f kj2).bind fun t540 => (some t540)) else (some false)))) else (some false)) else (some false)) else (some false))))) = some r := H
        have A8 := Aside0.mk A80
        clear A80
        replace H := Option.bind_eq_some_iff.mp H
        obtain ⟨⟨t530, t531⟩, A90, H⟩ := H
        replace H : ((variorumref07_Between.f kj2 a0 a1).bind fun t532 => ((variorumref06_Same.f kj2 t527 t532).bind fun t535 => (if t535 = true then (if t531 = 0 then (if t530.toList = a1.toList then ((run_Between.f kj2 a0 a0).bind fun t536 => ((edit_Idle.f t536).bind fun t539 => (if t539 = true then ((variorumlaw07_lives.f kj2).bind fun t540 => (some t540)) else (some false)))) else (some false)) else (some false)) else (some false)))) = some r := H
        have A9 := Aside0.mk A90
        clear A90
        replace H := Option.bind_eq_some_iff.mp H
        obtain ⟨t532, A100, H⟩ := H
        replace H : ((variorumref06_Same.f kj2 t527 t532).bind fun t535 => (if t535 = true then (if t531 = 0 then (if t530.toList = a1.toList then ((run_Between.f kj2 a0 a0).bind fun t536 => ((edit_Idle.f t536).bind fun t539 => (if t539 = true then ((variorumlaw07_lives.f kj2).bind fun t540 => (some t540)) else (some false)))) else (some false)) else (some false)) else (some false))) = some r := H
        have A10 := Aside0.mk A100
        clear A100
        replace H := Option.bind_eq_some_iff.mp H
        obtain ⟨t535, A110, H⟩ := H
        replace H : (if t535 = true then (if t531 = 0 then (if t530.toList = a1.toList then ((run_Between.f kj2 a0 a0).bind fun t536 => ((edit_Idle.f t536).bind fun t539 => (if t539 = true then ((variorumlaw07_lives.f kj2).bind fun t540 => (some t540)) else (some false)))) else (some false)) else (some false)) else (some false)) = some r := H
        have A11 := Aside0.mk A110
        clear A110
        by_cases c12 : t535 = true
        · subst c12
          have H1 : (if t531 = 0 then (if t530.toList = a1.toList then ((run_Between.f kj2 a0 a0).bind fun t536 => ((edit_Idle.f t536).bind fun t539 => (if t539 = true then ((variorumlaw07_lives.f kj2).bind fun t540 => (some t540)) else (some false)))) else (some false)) else (some false)) = some r := by rw [if_pos rfl] at H; exact H
          clear H
          have H := H1
          clear H1
          by_cases c13 : t531 = 0
          · rw [if_pos c13] at H
            have c13b0 : (t531 == 0) = true := beq_iff_eq.mpr c13
            have c13b1 : (t531 != 0) = false := bne_eq_false_iff_eq.mpr c13
            clear c13
            by_cases c14 : t530.toList = a1.toList
            · rw [if_pos c14] at H
              have c14b0 : (t530.toList == a1.toList) = true := beq_iff_eq.mpr c14
              have c14b1 : (t530.toList != a1.toList) = false := bne_eq_false_iff_eq.mpr c14
              clear c14
              replace H := Option.bind_eq_some_iff.mp H
              obtain ⟨t536, A150, H⟩ := H
              replace H : ((edit_Idle.f t536).bind fun t539 => (if t539 = true then ((variorumlaw07_lives.f kj2).bind fun t540 => (some t540)) else (some false))) = some r := H
              have A15 := Aside0.mk A150
              clear A150
              replace H := Option.bind_eq_some_iff.mp H
              obtain ⟨t539, A160, H⟩ := H
              replace H : (if t539 = true then ((variorumlaw07_lives.f kj2).bind fun t540 => (some t540)) else (some false)) = some r := H
              have A16 := Aside0.mk A160
              clear A160
              by_cases c17 : t539 = true
              · subst c17
                have H1 : ((variorumlaw07_lives.f kj2).bind fun t540 => (some t540)) = some r := by rw [if_pos rfl] at H; exact H
                clear H
                have H := H1
                clear H1
                replace H := Option.bind_eq_some_iff.mp H
                obtain ⟨t540, A180, H⟩ := H
                replace H : (some t540) = some r := H
                have A18 := Aside0.mk A180
                clear A180
                obtain rfl := Option.some.inj H
                go_wp2_with (first | ((with_reducible refine gate_callee (f := 43) rfl ?_); refine goesL_ (some 19) rfl rfl Try.func43 (by kernel_rfl) rfl #[.string a0, .string a1] rfl (by (try simp only [List.map_toArray, List.map_cons, List.map_nil]); first | done | rfl | (simp only [List.length_drop, List.length_take]; rfl)) ?_; (with_reducible refine (run_Between.calls kj2 a0 a1 t527 _ A8.out).mono ?_); rintro e w19 ⟨v528, rfl, ho0, hb⟩; refine ⟨_, rfl, ?_⟩; have n0_ := Aside0.mk (Kd.R_lower ho0 (below_size (by repeat (first | (with_reducible first | exact HB.out | apply below_alloc | apply pw_below_drewN | apply below_drew1) | exact HB.out)))); have n1_ := Aside0.mk (below_step (by repeat (first | (with_reducible first | exact HB.out | apply below_alloc | apply pw_below_drewN | apply below_drew1) | exact HB.out)) hb); clear HB; have HO529 := n0_; have HB := n1_; clear n0_ n1_; (try clear hb); (try clear hb2); (try clear hk); (try clear hi); (try clear ho0); obtain ⟨Ao20, co20, eo20⟩ := Kd.R_slice HO529.out; subst eo20) | ((with_reducible refine gate_callee (f := 39) rfl ?_); refine goesL_ (some 23) rfl rfl Try.func39 (by kernel_rfl) rfl #[.slice Ao20 t527.length co20, .string a0] rfl (by (try simp only [List.map_toArray, List.map_cons, List.map_nil]); first | done | rfl | (simp only [List.length_drop, List.length_take]; rfl)) ?_; (with_reducible refine (run_Apply.calls _ _ t527 a0 t530 t531 _ ?side1 ?side2 A9.out).mono ?_); (case side1 => repeat (first | exact (Kd.R_reads' HO529.out).2.2 | (with_reducible refine Kd.C_alloc ?_ _) | (with_reducible refine Kd.C_drewN ?_ _) | (with_reducible refine Kd.C_drew ?_))); (case side2 => exact (Kd.R_reads' HO529.out).2.1); rintro e w21 ⟨rfl, hb⟩; refine ⟨_, rfl, ?_⟩; have n0_ := Aside0.mk (Kd.R_below (by (with_reducible repeat (first | apply Kd.R_alloc | apply Kd.R_drewN | apply Kd.R_drew)); exact HO529.out) hb); have n1_ := Aside0.mk (below_step (by repeat (first | (with_reducible first | exact HB.out | apply below_alloc | apply pw_below_drewN | apply below_drew1) | exact HB.out)) hb); clear HO529; clear HB; have HO529 := n0_; have HB := n1_; clear n0_ n1_; (try clear hb); (try clear hb2); (try clear hk); (try clear hi)) | ((with_reducible refine gate_callee (f := 44) rfl ?_); refine goesL_ (some 29) rfl rfl Try.func44 (by kernel_rfl) rfl #[.string a0, .string a1] rfl (by (try simp only [List.map_toArray, List.map_cons, List.map_nil]); first | done | rfl | (simp only [List.length_drop, List.length_take]; rfl)) ?_; (with_reducible refine (variorumref07_Between.calls kj2 a0 a1 t532 _ A10.out).mono ?_); rintro e w22 ⟨v533, rfl, ho0, hb⟩; refine ⟨_, rfl, ?_⟩; have n0_ := Aside0.mk (Kd.R_elder' (by (with_reducible repeat (first | apply Kd.R_alloc | apply Kd.R_drewN | apply Kd.R_drew)); exact HO529.out) (Kd.R_base ho0) hb); have n1_ := Aside0.mk (Kd.R_lower (Kd.R_new' ho0 (Kd.R_lt (by (with_reducible repeat (first | apply Kd.R_alloc | apply Kd.R_drewN | apply Kd.R_drew)); exact HO529.out))) (below_size (by repeat (first | (with_reducible first | exact HB.out | apply below_alloc | apply pw_below_drewN | apply below_drew1) | exact HB.out)))); have n2_ := Aside0.mk (below_step (by repeat (first | (with_reducible first | exact HB.out | apply below_alloc | apply pw_below_drewN | apply below_drew1) | exact HB.out)) hb); clear HO529; clear HB; have HO529 := n0_; have HO534 := n1_; have HB := n2_; clear n0_ n1_ n2_; (try clear hb); (try clear hb2); (try clear hk); (try clear hi); (try clear ho0); obtain ⟨Ao23, co23, eo23⟩ := Kd.R_slice HO534.out; subst eo23) | ((with_reducible refine gate_callee (f := 25) rfl ?_); refine goesL_ (some 30) rfl rfl Try.func25 (by kernel_rfl) rfl #[.slice Ao20 t527.length co20, .slice Ao23 t532.length co23] rfl (by (try simp only [List.map_toArray, List.map_cons, List.map_nil]); first | done | rfl | (simp only [List.length_drop, List.length_take]; rfl)) ?_; (with_reducible refine (variorumref06_Same.calls kj2 _ _ t527 _ _ t532 true _ ?side1 ?side2 ?side3 ?side4 A11.out).mono ?_); (case side1 => repeat (first | exact (Kd.R_reads' HO529.out).2.2 | (with_reducible refine Kd.C_alloc ?_ _) | (with_reducible refine Kd.C_drewN ?_ _) | (with_reducible refine Kd.C_drew ?_))); (case side2 => exact (Kd.R_reads' HO529.out).2.1); (case side3 => repeat (first | exact (Kd.R_reads' HO534.out).2.2 | (with_reducible refine Kd.C_alloc ?_ _) | (with_reducible refine Kd.C_drewN ?_ _) | (with_reducible refine Kd.C_drew ?_))); (case side4 => exact (Kd.R_reads' HO534.out).2.1); rintro e w' ⟨rfl, ⟨nd, rfl⟩⟩; refine ⟨_, rfl, ?_⟩) | (go_at_call 43; (with_reducible refine (run_Between.calls kj2 a0 a0 t536 _ A15.out).mono ?_); rintro e w24 ⟨v537, rfl, ho0, hb⟩; have n0_ := Aside0.mk (Kd.R_elder' (by (with_reducible repeat (first | apply Kd.R_alloc | apply Kd.R_drewN | apply Kd.R_drew)); exact HO529.out) (Kd.R_base ho0) hb); have n1_ := Aside0.mk (Kd.R_elder' (by (with_reducible repeat (first | apply Kd.R_alloc | apply Kd.R_drewN | apply Kd.R_drew)); exact HO534.out) (Kd.R_base ho0) hb); have n2_ := Aside0.mk (Kd.R_lower (Kd.R_new' (Kd.R_new' ho0 (Kd.R_lt (by (with_reducible repeat (first | apply Kd.R_alloc | apply Kd.R_drewN | apply Kd.R_drew)); exact HO529.out))) (Kd.R_lt (by (with_reducible repeat (first | apply Kd.R_alloc | apply Kd.R_drewN | apply Kd.R_drew)); exact HO534.out))) (below_size (by repeat (first | (with_reducible first | exact HB.out | apply below_alloc | apply pw_below_drewN | apply below_drew1) | exact HB.out)))); have n3_ := Aside0.mk (below_step (by repeat (first | (with_reducible first | exact HB.out | apply below_alloc | apply pw_below_drewN | apply below_drew1) | exact HB.out)) hb); clear HO529; clear HO534; clear HB; have HO529 := n0_; have HO534 := n1_; have HO538 := n2_; have HB := n3_; clear n0_ n1_ n2_ n3_; (try clear hb); (try clear hb2); (try clear hk); (try clear hi); (try clear ho0); obtain ⟨Ao25, co25, eo25⟩ := Kd.R_slice HO538.out; subst eo25) | (go_at_call 45; (with_reducible refine (edit_Idle.calls _ _ t536 true _ ?side1 ?side2 A16.out).mono ?_); (case side1 => repeat (first | exact (Kd.R_reads' HO538.out).2.2 | (with_reducible refine Kd.C_alloc ?_ _) | (with_reducible refine Kd.C_drewN ?_ _) | (with_reducible refine Kd.C_drew ?_))); (case side2 => exact (Kd.R_reads' HO538.out).2.1); rintro e w26 ⟨rfl, hb⟩; have n0_ := Aside0.mk (Kd.R_below (by (with_reducible repeat (first | apply Kd.R_alloc | apply Kd.R_drewN | apply Kd.R_drew)); exact HO529.out) hb); have n1_ := Aside0.mk (Kd.R_below (by (with_reducible repeat (first | apply Kd.R_alloc | apply Kd.R_drewN | apply Kd.R_drew)); exact HO534.out) hb); have n2_ := Aside0.mk (Kd.R_below (by (with_reducible repeat (first | apply Kd.R_alloc | apply Kd.R_drewN | apply Kd.R_drew)); exact HO538.out) hb); have n3_ := Aside0.mk (below_step (by repeat (first | (with_reducible first | exact HB.out | apply below_alloc | apply pw_below_drewN | apply below_drew1) | exact HB.out)) hb); clear HO529; clear HO534; clear HO538; clear HB; have HO529 := n0_; have HO534 := n1_; have HO538 := n2_; have HB := n3_; clear n0_ n1_ n2_ n3_; (try clear hb); (try clear hb2); (try clear hk); (try clear hi)) | (go_at_call 42; (with_reducible refine (variorumlaw07_lives.calls kj2  t540 _ A18.out).mono ?_); rintro e w27 ⟨rfl, hb⟩; have n0_ := Aside0.mk (Kd.R_below (by (with_reducible repeat (first | apply Kd.R_alloc | apply Kd.R_drewN | apply Kd.R_drew)); exact HO529.out) hb); have n1_ := Aside0.mk (Kd.R_below (by (with_reducible repeat (first | apply Kd.R_alloc | apply Kd.R_drewN | apply Kd.R_drew)); exact HO534.out) hb); have n2_ := Aside0.mk (Kd.R_below (by (with_reducible repeat (first | apply Kd.R_alloc | apply Kd.R_drewN | apply Kd.R_drew)); exact HO538.out) hb); have n3_ := Aside0.mk (below_step (by repeat (first | (with_reducible first | exact HB.out | apply below_alloc | apply pw_below_drewN | apply below_drew1) | exact HB.out)) hb); clear HO529; clear HO534; clear HO538; clear HB; have HO529 := n0_; have HO534 := n1_; have HO538 := n2_; have HB := n3_; clear n0_ n1_ n2_ n3_; (try clear hb); (try clear hb2); (try clear hk); (try clear hi)))
                go_ret
                exact ⟨by first | rfl | (simp [errW_none, errW_some] <;> rfl) | (simp [*, errW_none, errW_some] <;> rfl), by repeat (first | (with_reducible first | exact HB.out | apply below_alloc | apply pw_below_drewN | apply below_drew1) | exact HB.out)⟩
              · replace c17 := Bool.eq_false_iff.mpr c17
                subst c17
                have H1 : (some false) = some r := by rw [if_neg (show ¬ (false = true) by decide)] at H; exact H
                clear H
                have H := H1
                clear H1
                obtain rfl := Option.some.inj H
                go_wp2_with (first | ((with_reducible refine gate_callee (f := 43) rfl ?_); refine goesL_ (some 19) rfl rfl Try.func43 (by kernel_rfl) rfl #[.string a0, .string a1] rfl (by (try simp only [List.map_toArray, List.map_cons, List.map_nil]); first | done | rfl | (simp only [List.length_drop, List.length_take]; rfl)) ?_; (with_reducible refine (run_Between.calls kj2 a0 a1 t527 _ A8.out).mono ?_); rintro e w28 ⟨v528, rfl, ho0, hb⟩; refine ⟨_, rfl, ?_⟩; have n0_ := Aside0.mk (Kd.R_lower ho0 (below_size (by repeat (first | (with_reducible first | exact HB.out | apply below_alloc | apply pw_below_drewN | apply below_drew1) | exact HB.out)))); have n1_ := Aside0.mk (below_step (by repeat (first | (with_reducible first | exact HB.out | apply below_alloc | apply pw_below_drewN | apply below_drew1) | exact HB.out)) hb); clear HB; have HO529 := n0_; have HB := n1_; clear n0_ n1_; (try clear hb); (try clear hb2); (try clear hk); (try clear hi); (try clear ho0); obtain ⟨Ao29, co29, eo29⟩ := Kd.R_slice HO529.out; subst eo29) | ((with_reducible refine gate_callee (f := 39) rfl ?_); refine goesL_ (some 23) rfl rfl Try.func39 (by kernel_rfl) rfl #[.slice Ao29 t527.length co29, .string a0] rfl (by (try simp only [List.map_toArray, List.map_cons, List.map_nil]); first | done | rfl | (simp only [List.length_drop, List.length_take]; rfl)) ?_; (with_reducible refine (run_Apply.calls _ _ t527 a0 t530 t531 _ ?side1 ?side2 A9.out).mono ?_); (case side1 => repeat (first | exact (Kd.R_reads' HO529.out).2.2 | (with_reducible refine Kd.C_alloc ?_ _) | (with_reducible refine Kd.C_drewN ?_ _) | (with_reducible refine Kd.C_drew ?_))); (case side2 => exact (Kd.R_reads' HO529.out).2.1); rintro e w30 ⟨rfl, hb⟩; refine ⟨_, rfl, ?_⟩; have n0_ := Aside0.mk (Kd.R_below (by (with_reducible repeat (first | apply Kd.R_alloc | apply Kd.R_drewN | apply Kd.R_drew)); exact HO529.out) hb); have n1_ := Aside0.mk (below_step (by repeat (first | (with_reducible first | exact HB.out | apply below_alloc | apply pw_below_drewN | apply below_drew1) | exact HB.out)) hb); clear HO529; clear HB; have HO529 := n0_; have HB := n1_; clear n0_ n1_; (try clear hb); (try clear hb2); (try clear hk); (try clear hi)) | ((with_reducible refine gate_callee (f := 44) rfl ?_); refine goesL_ (some 29) rfl rfl Try.func44 (by kernel_rfl) rfl #[.string a0, .string a1] rfl (by (try simp only [List.map_toArray, List.map_cons, List.map_nil]); first | done | rfl | (simp only [List.length_drop, List.length_take]; rfl)) ?_; (with_reducible refine (variorumref07_Between.calls kj2 a0 a1 t532 _ A10.out).mono ?_); rintro e w31 ⟨v533, rfl, ho0, hb⟩; refine ⟨_, rfl, ?_⟩; have n0_ := Aside0.mk (Kd.R_elder' (by (with_reducible repeat (first | apply Kd.R_alloc | apply Kd.R_drewN | apply Kd.R_drew)); exact HO529.out) (Kd.R_base ho0) hb); have n1_ := Aside0.mk (Kd.R_lower (Kd.R_new' ho0 (Kd.R_lt (by (with_reducible repeat (first | apply Kd.R_alloc | apply Kd.R_drewN | apply Kd.R_drew)); exact HO529.out))) (below_size (by repeat (first | (with_reducible first | exact HB.out | apply below_alloc | apply pw_below_drewN | apply below_drew1) | exact HB.out)))); have n2_ := Aside0.mk (below_step (by repeat (first | (with_reducible first | exact HB.out | apply below_alloc | apply pw_below_drewN | apply below_drew1) | exact HB.out)) hb); clear HO529; clear HB; have HO529 := n0_; have HO534 := n1_; have HB := n2_; clear n0_ n1_ n2_; (try clear hb); (try clear hb2); (try clear hk); (try clear hi); (try clear ho0); obtain ⟨Ao32, co32, eo32⟩ := Kd.R_slice HO534.out; subst eo32) | ((with_reducible refine gate_callee (f := 25) rfl ?_); refine goesL_ (some 30) rfl rfl Try.func25 (by kernel_rfl) rfl #[.slice Ao29 t527.length co29, .slice Ao32 t532.length co32] rfl (by (try simp only [List.map_toArray, List.map_cons, List.map_nil]); first | done | rfl | (simp only [List.length_drop, List.length_take]; rfl)) ?_; (with_reducible refine (variorumref06_Same.calls kj2 _ _ t527 _ _ t532 true _ ?side1 ?side2 ?side3 ?side4 A11.out).mono ?_); (case side1 => repeat (first | exact (Kd.R_reads' HO529.out).2.2 | (with_reducible refine Kd.C_alloc ?_ _) | (with_reducible refine Kd.C_drewN ?_ _) | (with_reducible refine Kd.C_drew ?_))); (case side2 => exact (Kd.R_reads' HO529.out).2.1); (case side3 => repeat (first | exact (Kd.R_reads' HO534.out).2.2 | (with_reducible refine Kd.C_alloc ?_ _) | (with_reducible refine Kd.C_drewN ?_ _) | (with_reducible refine Kd.C_drew ?_))); (case side4 => exact (Kd.R_reads' HO534.out).2.1); rintro e w' ⟨rfl, ⟨nd, rfl⟩⟩; refine ⟨_, rfl, ?_⟩) | (go_at_call 43; (with_reducible refine (run_Between.calls kj2 a0 a0 t536 _ A15.out).mono ?_); rintro e w33 ⟨v537, rfl, ho0, hb⟩; have n0_ := Aside0.mk (Kd.R_elder' (by (with_reducible repeat (first | apply Kd.R_alloc | apply Kd.R_drewN | apply Kd.R_drew)); exact HO529.out) (Kd.R_base ho0) hb); have n1_ := Aside0.mk (Kd.R_elder' (by (with_reducible repeat (first | apply Kd.R_alloc | apply Kd.R_drewN | apply Kd.R_drew)); exact HO534.out) (Kd.R_base ho0) hb); have n2_ := Aside0.mk (Kd.R_lower (Kd.R_new' (Kd.R_new' ho0 (Kd.R_lt (by (with_reducible repeat (first | apply Kd.R_alloc | apply Kd.R_drewN | apply Kd.R_drew)); exact HO529.out))) (Kd.R_lt (by (with_reducible repeat (first | apply Kd.R_alloc | apply Kd.R_drewN | apply Kd.R_drew)); exact HO534.out))) (below_size (by repeat (first | (with_reducible first | exact HB.out | apply below_alloc | apply pw_below_drewN | apply below_drew1) | exact HB.out)))); have n3_ := Aside0.mk (below_step (by repeat (first | (with_reducible first | exact HB.out | apply below_alloc | apply pw_below_drewN | apply below_drew1) | exact HB.out)) hb); clear HO529; clear HO534; clear HB; have HO529 := n0_; have HO534 := n1_; have HO538 := n2_; have HB := n3_; clear n0_ n1_ n2_ n3_; (try clear hb); (try clear hb2); (try clear hk); (try clear hi); (try clear ho0); obtain ⟨Ao34, co34, eo34⟩ := Kd.R_slice HO538.out; subst eo34) | (go_at_call 45; (with_reducible refine (edit_Idle.calls _ _ t536 false _ ?side1 ?side2 A16.out).mono ?_); (case side1 => repeat (first | exact (Kd.R_reads' HO538.out).2.2 | (with_reducible refine Kd.C_alloc ?_ _) | (with_reducible refine Kd.C_drewN ?_ _) | (with_reducible refine Kd.C_drew ?_))); (case side2 => exact (Kd.R_reads' HO538.out).2.1); rintro e w35 ⟨rfl, hb⟩; have n0_ := Aside0.mk (Kd.R_below (by (with_reducible repeat (first | apply Kd.R_alloc | apply Kd.R_drewN | apply Kd.R_drew)); exact HO529.out) hb); have n1_ := Aside0.mk (Kd.R_below (by (with_reducible repeat (first | apply Kd.R_alloc | apply Kd.R_drewN | apply Kd.R_drew)); exact HO534.out) hb); have n2_ := Aside0.mk (Kd.R_below (by (with_reducible repeat (first | apply Kd.R_alloc | apply Kd.R_drewN | apply Kd.R_drew)); exact HO538.out) hb); have n3_ := Aside0.mk (below_step (by repeat (first | (with_reducible first | exact HB.out | apply below_alloc | apply pw_below_drewN | apply below_drew1) | exact HB.out)) hb); clear HO529; clear HO534; clear HO538; clear HB; have HO529 := n0_; have HO534 := n1_; have HO538 := n2_; have HB := n3_; clear n0_ n1_ n2_ n3_; (try clear hb); (try clear hb2); (try clear hk); (try clear hi)))
                go_ret
                exact ⟨by first | rfl | (simp [errW_none, errW_some] <;> rfl) | (simp [*, errW_none, errW_some] <;> rfl), by repeat (first | (with_reducible first | exact HB.out | apply below_alloc | apply pw_below_drewN | apply below_drew1) | exact HB.out)⟩
            · rw [if_neg c14] at H
              have c14b0 : (t530.toList == a1.toList) = false := beq_eq_false_iff_ne.mpr c14
              have c14b1 : (t530.toList != a1.toList) = true := bne_iff_ne.mpr c14
              obtain rfl := Option.some.inj H
              go_wp2_with (first | ((with_reducible refine gate_callee (f := 43) rfl ?_); refine goesL_ (some 19) rfl rfl Try.func43 (by kernel_rfl) rfl #[.string a0, .string a1] rfl (by (try simp only [List.map_toArray, List.map_cons, List.map_nil]); first | done | rfl | (simp only [List.length_drop, List.length_take]; rfl)) ?_; (with_reducible refine (run_Between.calls kj2 a0 a1 t527 _ A8.out).mono ?_); rintro e w36 ⟨v528, rfl, ho0, hb⟩; refine ⟨_, rfl, ?_⟩; have n0_ := Aside0.mk (Kd.R_lower ho0 (below_size (by repeat (first | (with_reducible first | exact HB.out | apply below_alloc | apply pw_below_drewN | apply below_drew1) | exact HB.out)))); have n1_ := Aside0.mk (below_step (by repeat (first | (with_reducible first | exact HB.out | apply below_alloc | apply pw_below_drewN | apply below_drew1) | exact HB.out)) hb); clear HB; have HO529 := n0_; have HB := n1_; clear n0_ n1_; (try clear hb); (try clear hb2); (try clear hk); (try clear hi); (try clear ho0); obtain ⟨Ao37, co37, eo37⟩ := Kd.R_slice HO529.out; subst eo37) | ((with_reducible refine gate_callee (f := 39) rfl ?_); refine goesL_ (some 23) rfl rfl Try.func39 (by kernel_rfl) rfl #[.slice Ao37 t527.length co37, .string a0] rfl (by (try simp only [List.map_toArray, List.map_cons, List.map_nil]); first | done | rfl | (simp only [List.length_drop, List.length_take]; rfl)) ?_; (with_reducible refine (run_Apply.calls _ _ t527 a0 t530 t531 _ ?side1 ?side2 A9.out).mono ?_); (case side1 => repeat (first | exact (Kd.R_reads' HO529.out).2.2 | (with_reducible refine Kd.C_alloc ?_ _) | (with_reducible refine Kd.C_drewN ?_ _) | (with_reducible refine Kd.C_drew ?_))); (case side2 => exact (Kd.R_reads' HO529.out).2.1); rintro e w38 ⟨rfl, hb⟩; refine ⟨_, rfl, ?_⟩; have n0_ := Aside0.mk (Kd.R_below (by (with_reducible repeat (first | apply Kd.R_alloc | apply Kd.R_drewN | apply Kd.R_drew)); exact HO529.out) hb); have n1_ := Aside0.mk (below_step (by repeat (first | (with_reducible first | exact HB.out | apply below_alloc | apply pw_below_drewN | apply below_drew1) | exact HB.out)) hb); clear HO529; clear HB; have HO529 := n0_; have HB := n1_; clear n0_ n1_; (try clear hb); (try clear hb2); (try clear hk); (try clear hi)) | ((with_reducible refine gate_callee (f := 44) rfl ?_); refine goesL_ (some 29) rfl rfl Try.func44 (by kernel_rfl) rfl #[.string a0, .string a1] rfl (by (try simp only [List.map_toArray, List.map_cons, List.map_nil]); first | done | rfl | (simp only [List.length_drop, List.length_take]; rfl)) ?_; (with_reducible refine (variorumref07_Between.calls kj2 a0 a1 t532 _ A10.out).mono ?_); rintro e w39 ⟨v533, rfl, ho0, hb⟩; refine ⟨_, rfl, ?_⟩; have n0_ := Aside0.mk (Kd.R_elder' (by (with_reducible repeat (first | apply Kd.R_alloc | apply Kd.R_drewN | apply Kd.R_drew)); exact HO529.out) (Kd.R_base ho0) hb); have n1_ := Aside0.mk (Kd.R_lower (Kd.R_new' ho0 (Kd.R_lt (by (with_reducible repeat (first | apply Kd.R_alloc | apply Kd.R_drewN | apply Kd.R_drew)); exact HO529.out))) (below_size (by repeat (first | (with_reducible first | exact HB.out | apply below_alloc | apply pw_below_drewN | apply below_drew1) | exact HB.out)))); have n2_ := Aside0.mk (below_step (by repeat (first | (with_reducible first | exact HB.out | apply below_alloc | apply pw_below_drewN | apply below_drew1) | exact HB.out)) hb); clear HO529; clear HB; have HO529 := n0_; have HO534 := n1_; have HB := n2_; clear n0_ n1_ n2_; (try clear hb); (try clear hb2); (try clear hk); (try clear hi); (try clear ho0); obtain ⟨Ao40, co40, eo40⟩ := Kd.R_slice HO534.out; subst eo40) | ((with_reducible refine gate_callee (f := 25) rfl ?_); refine goesL_ (some 30) rfl rfl Try.func25 (by kernel_rfl) rfl #[.slice Ao37 t527.length co37, .slice Ao40 t532.length co40] rfl (by (try simp only [List.map_toArray, List.map_cons, List.map_nil]); first | done | rfl | (simp only [List.length_drop, List.length_take]; rfl)) ?_; (with_reducible refine (variorumref06_Same.calls kj2 _ _ t527 _ _ t532 true _ ?side1 ?side2 ?side3 ?side4 A11.out).mono ?_); (case side1 => repeat (first | exact (Kd.R_reads' HO529.out).2.2 | (with_reducible refine Kd.C_alloc ?_ _) | (with_reducible refine Kd.C_drewN ?_ _) | (with_reducible refine Kd.C_drew ?_))); (case side2 => exact (Kd.R_reads' HO529.out).2.1); (case side3 => repeat (first | exact (Kd.R_reads' HO534.out).2.2 | (with_reducible refine Kd.C_alloc ?_ _) | (with_reducible refine Kd.C_drewN ?_ _) | (with_reducible refine Kd.C_drew ?_))); (case side4 => exact (Kd.R_reads' HO534.out).2.1); rintro e w' ⟨rfl, ⟨nd, rfl⟩⟩; refine ⟨_, rfl, ?_⟩))
              go_ret
              exact ⟨by first | rfl | (simp [errW_none, errW_some] <;> rfl) | (simp [*, errW_none, errW_some] <;> rfl), by repeat (first | (with_reducible first | exact HB.out | apply below_alloc | apply pw_below_drewN | apply below_drew1) | exact HB.out)⟩
          · rw [if_neg c13] at H
            have c13b0 : (t531 == 0) = false := beq_eq_false_iff_ne.mpr c13
            have c13b1 : (t531 != 0) = true := bne_iff_ne.mpr c13
            obtain rfl := Option.some.inj H
            go_wp2_with (first | ((with_reducible refine gate_callee (f := 43) rfl ?_); refine goesL_ (some 19) rfl rfl Try.func43 (by kernel_rfl) rfl #[.string a0, .string a1] rfl (by (try simp only [List.map_toArray, List.map_cons, List.map_nil]); first | done | rfl | (simp only [List.length_drop, List.length_take]; rfl)) ?_; (with_reducible refine (run_Between.calls kj2 a0 a1 t527 _ A8.out).mono ?_); rintro e w41 ⟨v528, rfl, ho0, hb⟩; refine ⟨_, rfl, ?_⟩; have n0_ := Aside0.mk (Kd.R_lower ho0 (below_size (by repeat (first | (with_reducible first | exact HB.out | apply below_alloc | apply pw_below_drewN | apply below_drew1) | exact HB.out)))); have n1_ := Aside0.mk (below_step (by repeat (first | (with_reducible first | exact HB.out | apply below_alloc | apply pw_below_drewN | apply below_drew1) | exact HB.out)) hb); clear HB; have HO529 := n0_; have HB := n1_; clear n0_ n1_; (try clear hb); (try clear hb2); (try clear hk); (try clear hi); (try clear ho0); obtain ⟨Ao42, co42, eo42⟩ := Kd.R_slice HO529.out; subst eo42) | ((with_reducible refine gate_callee (f := 39) rfl ?_); refine goesL_ (some 23) rfl rfl Try.func39 (by kernel_rfl) rfl #[.slice Ao42 t527.length co42, .string a0] rfl (by (try simp only [List.map_toArray, List.map_cons, List.map_nil]); first | done | rfl | (simp only [List.length_drop, List.length_take]; rfl)) ?_; (with_reducible refine (run_Apply.calls _ _ t527 a0 t530 t531 _ ?side1 ?side2 A9.out).mono ?_); (case side1 => repeat (first | exact (Kd.R_reads' HO529.out).2.2 | (with_reducible refine Kd.C_alloc ?_ _) | (with_reducible refine Kd.C_drewN ?_ _) | (with_reducible refine Kd.C_drew ?_))); (case side2 => exact (Kd.R_reads' HO529.out).2.1); rintro e w43 ⟨rfl, hb⟩; refine ⟨_, rfl, ?_⟩; have n0_ := Aside0.mk (Kd.R_below (by (with_reducible repeat (first | apply Kd.R_alloc | apply Kd.R_drewN | apply Kd.R_drew)); exact HO529.out) hb); have n1_ := Aside0.mk (below_step (by repeat (first | (with_reducible first | exact HB.out | apply below_alloc | apply pw_below_drewN | apply below_drew1) | exact HB.out)) hb); clear HO529; clear HB; have HO529 := n0_; have HB := n1_; clear n0_ n1_; (try clear hb); (try clear hb2); (try clear hk); (try clear hi)) | ((with_reducible refine gate_callee (f := 44) rfl ?_); refine goesL_ (some 29) rfl rfl Try.func44 (by kernel_rfl) rfl #[.string a0, .string a1] rfl (by (try simp only [List.map_toArray, List.map_cons, List.map_nil]); first | done | rfl | (simp only [List.length_drop, List.length_take]; rfl)) ?_; (with_reducible refine (variorumref07_Between.calls kj2 a0 a1 t532 _ A10.out).mono ?_); rintro e w44 ⟨v533, rfl, ho0, hb⟩; refine ⟨_, rfl, ?_⟩; have n0_ := Aside0.mk (Kd.R_elder' (by (with_reducible repeat (first | apply Kd.R_alloc | apply Kd.R_drewN | apply Kd.R_drew)); exact HO529.out) (Kd.R_base ho0) hb); have n1_ := Aside0.mk (Kd.R_lower (Kd.R_new' ho0 (Kd.R_lt (by (with_reducible repeat (first | apply Kd.R_alloc | apply Kd.R_drewN | apply Kd.R_drew)); exact HO529.out))) (below_size (by repeat (first | (with_reducible first | exact HB.out | apply below_alloc | apply pw_below_drewN | apply below_drew1) | exact HB.out)))); have n2_ := Aside0.mk (below_step (by repeat (first | (with_reducible first | exact HB.out | apply below_alloc | apply pw_below_drewN | apply below_drew1) | exact HB.out)) hb); clear HO529; clear HB; have HO529 := n0_; have HO534 := n1_; have HB := n2_; clear n0_ n1_ n2_; (try clear hb); (try clear hb2); (try clear hk); (try clear hi); (try clear ho0); obtain ⟨Ao45, co45, eo45⟩ := Kd.R_slice HO534.out; subst eo45) | ((with_reducible refine gate_callee (f := 25) rfl ?_); refine goesL_ (some 30) rfl rfl Try.func25 (by kernel_rfl) rfl #[.slice Ao42 t527.length co42, .slice Ao45 t532.length co45] rfl (by (try simp only [List.map_toArray, List.map_cons, List.map_nil]); first | done | rfl | (simp only [List.length_drop, List.length_take]; rfl)) ?_; (with_reducible refine (variorumref06_Same.calls kj2 _ _ t527 _ _ t532 true _ ?side1 ?side2 ?side3 ?side4 A11.out).mono ?_); (case side1 => repeat (first | exact (Kd.R_reads' HO529.out).2.2 | (with_reducible refine Kd.C_alloc ?_ _) | (with_reducible refine Kd.C_drewN ?_ _) | (with_reducible refine Kd.C_drew ?_))); (case side2 => exact (Kd.R_reads' HO529.out).2.1); (case side3 => repeat (first | exact (Kd.R_reads' HO534.out).2.2 | (with_reducible refine Kd.C_alloc ?_ _) | (with_reducible refine Kd.C_drewN ?_ _) | (with_reducible refine Kd.C_drew ?_))); (case side4 => exact (Kd.R_reads' HO534.out).2.1); rintro e w' ⟨rfl, ⟨nd, rfl⟩⟩; refine ⟨_, rfl, ?_⟩))
            go_ret
            exact ⟨by first | rfl | (simp [errW_none, errW_some] <;> rfl) | (simp [*, errW_none, errW_some] <;> rfl), by repeat (first | (with_reducible first | exact HB.out | apply below_alloc | apply pw_below_drewN | apply below_drew1) | exact HB.out)⟩
        · replace c12 := Bool.eq_false_iff.mpr c12
          subst c12
          have H1 : (some false) = some r := by rw [if_neg (show ¬ (false = true) by decide)] at H; exact H
          clear H
          have H := H1
          clear H1
          obtain rfl := Option.some.inj H
          go_wp2_with (first | ((with_reducible refine gate_callee (f := 43) rfl ?_); refine goesL_ (some 19) rfl rfl Try.func43 (by kernel_rfl) rfl #[.string a0, .string a1] rfl (by (try simp only [List.map_toArray, List.map_cons, List.map_nil]); first | done | rfl | (simp only [List.length_drop, List.length_take]; rfl)) ?_; (with_reducible refine (run_Between.calls kj2 a0 a1 t527 _ A8.out).mono ?_); rintro e w46 ⟨v528, rfl, ho0, hb⟩; refine ⟨_, rfl, ?_⟩; have n0_ := Aside0.mk (Kd.R_lower ho0 (below_size (by repeat (first | (with_reducible first | exact HB.out | apply below_alloc | apply pw_below_drewN | apply below_drew1) | exact HB.out)))); have n1_ := Aside0.mk (below_step (by repeat (first | (with_reducible first | exact HB.out | apply below_alloc | apply pw_below_drewN | apply below_drew1) | exact HB.out)) hb); clear HB; have HO529 := n0_; have HB := n1_; clear n0_ n1_; (try clear hb); (try clear hb2); (try clear hk); (try clear hi); (try clear ho0); obtain ⟨Ao47, co47, eo47⟩ := Kd.R_slice HO529.out; subst eo47) | ((with_reducible refine gate_callee (f := 39) rfl ?_); refine goesL_ (some 23) rfl rfl Try.func39 (by kernel_rfl) rfl #[.slice Ao47 t527.length co47, .string a0] rfl (by (try simp only [List.map_toArray, List.map_cons, List.map_nil]); first | done | rfl | (simp only [List.length_drop, List.length_take]; rfl)) ?_; (with_reducible refine (run_Apply.calls _ _ t527 a0 t530 t531 _ ?side1 ?side2 A9.out).mono ?_); (case side1 => repeat (first | exact (Kd.R_reads' HO529.out).2.2 | (with_reducible refine Kd.C_alloc ?_ _) | (with_reducible refine Kd.C_drewN ?_ _) | (with_reducible refine Kd.C_drew ?_))); (case side2 => exact (Kd.R_reads' HO529.out).2.1); rintro e w48 ⟨rfl, hb⟩; refine ⟨_, rfl, ?_⟩; have n0_ := Aside0.mk (Kd.R_below (by (with_reducible repeat (first | apply Kd.R_alloc | apply Kd.R_drewN | apply Kd.R_drew)); exact HO529.out) hb); have n1_ := Aside0.mk (below_step (by repeat (first | (with_reducible first | exact HB.out | apply below_alloc | apply pw_below_drewN | apply below_drew1) | exact HB.out)) hb); clear HO529; clear HB; have HO529 := n0_; have HB := n1_; clear n0_ n1_; (try clear hb); (try clear hb2); (try clear hk); (try clear hi)) | ((with_reducible refine gate_callee (f := 44) rfl ?_); refine goesL_ (some 29) rfl rfl Try.func44 (by kernel_rfl) rfl #[.string a0, .string a1] rfl (by (try simp only [List.map_toArray, List.map_cons, List.map_nil]); first | done | rfl | (simp only [List.length_drop, List.length_take]; rfl)) ?_; (with_reducible refine (variorumref07_Between.calls kj2 a0 a1 t532 _ A10.out).mono ?_); rintro e w49 ⟨v533, rfl, ho0, hb⟩; refine ⟨_, rfl, ?_⟩; have n0_ := Aside0.mk (Kd.R_elder' (by (with_reducible repeat (first | apply Kd.R_alloc | apply Kd.R_drewN | apply Kd.R_drew)); exact HO529.out) (Kd.R_base ho0) hb); have n1_ := Aside0.mk (Kd.R_lower (Kd.R_new' ho0 (Kd.R_lt (by (with_reducible repeat (first | apply Kd.R_alloc | apply Kd.R_drewN | apply Kd.R_drew)); exact HO529.out))) (below_size (by repeat (first | (with_reducible first | exact HB.out | apply below_alloc | apply pw_below_drewN | apply below_drew1) | exact HB.out)))); have n2_ := Aside0.mk (below_step (by repeat (first | (with_reducible first | exact HB.out | apply below_alloc | apply pw_below_drewN | apply below_drew1) | exact HB.out)) hb); clear HO529; clear HB; have HO529 := n0_; have HO534 := n1_; have HB := n2_; clear n0_ n1_ n2_; (try clear hb); (try clear hb2); (try clear hk); (try clear hi); (try clear ho0); obtain ⟨Ao50, co50, eo50⟩ := Kd.R_slice HO534.out; subst eo50) | ((with_reducible refine gate_callee (f := 25) rfl ?_); refine goesL_ (some 30) rfl rfl Try.func25 (by kernel_rfl) rfl #[.slice Ao47 t527.length co47, .slice Ao50 t532.length co50] rfl (by (try simp only [List.map_toArray, List.map_cons, List.map_nil]); first | done | rfl | (simp only [List.length_drop, List.length_take]; rfl)) ?_; (with_reducible refine (variorumref06_Same.calls kj2 _ _ t527 _ _ t532 false _ ?side1 ?side2 ?side3 ?side4 A11.out).mono ?_); (case side1 => repeat (first | exact (Kd.R_reads' HO529.out).2.2 | (with_reducible refine Kd.C_alloc ?_ _) | (with_reducible refine Kd.C_drewN ?_ _) | (with_reducible refine Kd.C_drew ?_))); (case side2 => exact (Kd.R_reads' HO529.out).2.1); (case side3 => repeat (first | exact (Kd.R_reads' HO534.out).2.2 | (with_reducible refine Kd.C_alloc ?_ _) | (with_reducible refine Kd.C_drewN ?_ _) | (with_reducible refine Kd.C_drew ?_))); (case side4 => exact (Kd.R_reads' HO534.out).2.1); rintro e w' ⟨rfl, ⟨nd, rfl⟩⟩; refine ⟨_, rfl, ?_⟩))
          go_ret
          exact ⟨by first | rfl | (simp [errW_none, errW_some] <;> rfl) | (simp [*, errW_none, errW_some] <;> rfl), by repeat (first | (with_reducible first | exact HB.out | apply below_alloc | apply pw_below_drewN | apply below_drew1) | exact HB.out)⟩

/-- THE ONE PURE STATEMENT of variorumlaw07_RunBetween: yours. -/
def variorumlaw07_RunBetween.Pure : Prop := ∀ (a0 : ByteArray) (a1 : ByteArray), a0.size ≤ 140737488351232 → a1.size ≤ 140737488351232 → ∃ k, variorumlaw07_RunBetween.f k a0 a1 = some true
theorem variorumlaw07_RunBetween.walk (P : variorumlaw07_RunBetween.Pure) (a0 : ByteArray) (a1 : ByteArray) (w : World) (w0 : a0.size ≤ 140737488351232) (w1 : a1.size ≤ 140737488351232) :
    Calls Try.prog 9 #[.string a0, .string a1] w fun e w' => e = .returned (.bool true) ∧ Below w.heap.size w w' := by
  obtain ⟨k, h⟩ := P a0 a1 w0 w1
  refine (variorumlaw07_RunBetween.calls k a0 a1 true w h).mono ?_
  rintro e w' ⟨rfl, hd⟩
  exact ⟨rfl, hd⟩

end Go.Proofs.Ythocalfgeaclgaa.P
end
-- MERGED YthocalfgeaclgaaEditH
section
/- What the reference's Norm, Insert and Delete of edits come to (their printed forms), and whether two edits are the same. -/
namespace Go.Proofs.Ythocalfgeaclgaa.EditH
open Go.RowKit Go.Proofs.Ythocalfgeaclgaa.P Go.Proofs.YthocalfgeaclgaaW.PrintWords Go.Proofs.YthocalfgeaclgaaW.PrintLast Go.Proofs.YthocalfgeaclgaaW.PrintMore Go.Proofs.Ythocalfgeaclgaa.EditL Go.Proofs.Ythocalfgeaclgaa.EditK Go.Proofs.Ythocalfgeaclgaa.EditF Go.Proofs.Ythocalfgeaclgaa.EditG
set_option linter.unusedSimpArgs false
set_option linter.unusedVariables false

theorem rgood_f {l : List Rn} (hb : l.length ≤ 140737488351232) : variorumref06_Good.f l = some (good l) := by unfold variorumref06_Good.f; rw [if_pos hb]
theorem rin_f {l : List Rn} (hb : l.length ≤ 140737488351232) (k : Nat) (hk : l.length < k) : variorumref06_In.f k l = some (if good l then inL l else 0) := by
  unfold variorumref06_In.f
  rw [rgood_f hb, Option.bind_some]
  cases h : good l with
  | false => rfl
  | true =>
    obtain ⟨_, _, h2, h3⟩ := good_ok h
    rw [if_pos rfl, rsums_f hb h3 k hk, Option.bind_some, h2]; rfl
theorem rout_f {l : List Rn} (hb : l.length ≤ 140737488351232) (k : Nat) (hk : l.length < k) : variorumref06_Out.f k l = some (if good l then outL l else 0) := by
  unfold variorumref06_Out.f
  rw [rgood_f hb, Option.bind_some]
  cases h : good l with
  | false => rfl
  | true =>
    obtain ⟨_, _, h2, h3⟩ := good_ok h
    rw [if_pos rfl, rsums_f hb h3 k hk, Option.bind_some, h2]; rfl
theorem rkind_k (r : Rn) {k : Nat} (hk : 2 ≤ k) : variorumref06_Kind.f k r.f0 r.f1 r.f2 = some (knd r) := by
  obtain ⟨k, rfl⟩ : ∃ m, k = m + 2 := ⟨k - 2, by omega⟩
  exact rkind_f r k
def fin (o : List Rn) : List Rn := if good o then o else []
theorem fin_bind (o : List Rn) (ho : o.length ≤ 140737488351232) : ((variorumref06_Good.f o).bind fun t => if t = true then some o else some []) = some (fin o) := by
  rw [rgood_f ho, Option.bind_some]
  unfold fin
  split <;> rfl
theorem j3_f (k : Nat) (o : List Rn) (d : Int) (hk : 1 ≤ k) (ho : o.length ≤ 4000000000000) : variorumref06_Norm.j3 k o d = some (fin (o ++ (if 0 < d then [⟨0, E, d⟩] else []))) := by
  obtain ⟨k, rfl⟩ : ∃ m, k = m + 1 := ⟨k - 1, by omega⟩
  simp only [variorumref06_Norm.j3]
  by_cases h : d > 0
  · rw [if_pos h, if_pos (show 0 < d from h), if_pos (by omega), Option.bind_some]
    exact fin_bind _ (by simp; omega)
  · rw [if_neg h, if_neg (show ¬ 0 < d from h), List.append_nil]
    exact fin_bind _ (by omega)
theorem l1_end (f : List Rn) (hf : f.length ≤ 4000000) (k : Nat) (o : List Rn) (a : ByteArray) (d : Int) (hk : 2 ≤ k) (ho : o.length ≤ 3000000000000) :
    variorumref06_Norm.l1 k f o a d 0 ((f.length : Int) + 1) = some (fin (o ++ fl 0 a d)) := by
  obtain ⟨k, rfl⟩ : ∃ m, k = m + 1 := ⟨k - 1, by omega⟩
  simp only [variorumref06_Norm.l1]
  rw [if_neg (by omega)]
  by_cases h : a.size = 0
  · rw [if_pos (tl_nil.2 h), j3_f k o d (by omega) (by omega)]
    unfold fl
    rw [if_neg (show ¬ (0 : Int) < 0 by decide), if_neg (show ¬ a.size ≠ 0 from fun h2 => h2 h)]
    rfl
  · rw [if_neg (fun h2 => h (tl_nil.1 h2)), if_pos (by omega), j3_f k _ d (by omega) (by simp; omega)]
    unfold fl
    rw [if_neg (show ¬ (0 : Int) < 0 by decide), if_pos h, List.append_assoc]
    rfl
theorem jn_keep (l : List Rn) (h : ∀ r ∈ l, knd r ≠ 0) : ∀ (k : Int) (a : ByteArray) (d : Int), 0 ≤ k → 0 ≤ d → (a.size ≠ 0 ∨ 0 < d) → jn l k a d = (if 0 < k then [⟨k, E, 0⟩] else []) ++ jn l 0 a d := by
  have hfl : ∀ (k : Int) (a : ByteArray) (d : Int), fl k a d = (if 0 < k then [⟨k, E, 0⟩] else []) ++ fl 0 a d := fun k a d => by
    show _ = _ ++ ((if (0 : Int) < 0 then _ else _) ++ _)
    rw [if_neg (show ¬ (0 : Int) < 0 by decide)]; rfl
  induction l with
  | nil => intro k a d _ _ _; exact hfl k a d
  | cons r l ih =>
    intro k a d hk hd hp
    have h2 : ∀ x ∈ l, knd x ≠ 0 := fun x hx => h x (List.mem_cons_of_mem _ hx)
    have hpos := knd_pos (h r List.mem_cons_self)
    by_cases c : knd r = 1
    · rw [jn_flush c hp, jn_flush c hp, hfl k a d, List.append_assoc]
    · have h0 : r.f0 = 0 := by
        rcases knd_three (h r List.mem_cons_self) with c2 | c2 | c2
        · exact absurd c2 c
        · exact (run_eq2 c2).2.1
        · exact (run_eq3 c2).2.1
      rw [jn_on (fun h => c h.1), jn_on (fun h => c h.1), h0, Int.add_zero, Int.add_zero]
      refine ih h2 k _ _ hk (by omega) ?_
      rw [size_add]
      omega
set_option maxHeartbeats 4000000 in
theorem l1_f (f : List Rn) (hf : ∀ r ∈ f, knd r ≠ 0) (hl : f.length ≤ 4000000) : ∀ (suf pre : List Rn) (k : Nat) (o : List Rn) (a : ByteArray) (d kp : Int), f = pre ++ suf → 2 * suf.length + 8 ≤ k → (kp = 0 ∨ (a.size = 0 ∧ d = 0)) → 0 ≤ kp → 0 ≤ d →
    kp + d + inL suf ≤ 16777216 → kp + (a.size : Int) + outL suf ≤ 16777216 → o.length + 3 * suf.length ≤ 2000000000000 → variorumref06_Norm.l1 k f o a d kp (pre.length : Int) = some (fin (o ++ jn suf kp a d)) := by
  intro suf
  induction suf with
  | nil =>
    intro pre k o a d kp hfe hk hst hkp hd hi ho hol
    have hpl : f.length = pre.length := by rw [hfe]; simp
    obtain ⟨k, rfl⟩ : ∃ m, k = m + 2 := ⟨k - 2, by simp at hk; omega⟩
    have hend := fun (o' : List Rn) (h : o'.length ≤ 3000000000000) => l1_end f hl k o' a d (by simp at hk; omega) h
    simp only [variorumref06_Norm.l1]
    rw [if_pos (by omega), if_neg (by omega)]
    simp only [variorumref06_Norm.j2]
    rw [if_neg (by simp)]
    rw [w64 (x := (pre.length : Int) + 1) (by omega) (by omega), show (pre.length : Int) + 1 = (f.length : Int) + 1 by omega]
    by_cases h : kp > 0
    · rw [if_pos h, if_pos (by simp at hol; omega), Option.bind_some, if_neg (by omega), hend _ (by simp at hol ⊢; omega)]
      show _ = some (fin (o ++ fl kp a d))
      rw [List.append_assoc]
      unfold fl
      rw [if_pos (show 0 < kp from h), if_neg (show ¬ (0 : Int) < 0 by decide)]
      rfl
    · obtain rfl : kp = 0 := by omega
      rw [if_neg h, if_neg (by omega), hend _ (by simp at hol; omega)]
      rfl
  | cons r suf ih =>
    intro pre k o a d kp hfe hk hst hkp hd hi ho hol
    obtain ⟨k, rfl⟩ : ∃ m, k = m + 2 := ⟨k - 2, by simp at hk; omega⟩
    obtain ⟨hl2, hn, hlt⟩ := snoc hfe
    have hne := hf r (by rw [hfe]; simp)
    have hsuf : ∀ x ∈ suf, knd x ≠ 0 := fun x hx => hf x (by rw [hfe]; simp [hx])
    have hp := knd_pos hne
    have hs := inL_nonneg hsuf
    have hz := rd_at hfe
    simp only [inL, outL] at hi ho
    have next := fun o' a' d' kp' => ih (pre ++ [r]) k o' a' d' kp' hl2 (by simp at hk; omega)
    rw [hn] at next
    simp only [List.length_cons] at hol hk
    simp only [variorumref06_Norm.l1]
    rw [if_pos (by omega), if_pos hlt, if_pos (by omega), hz, rkind_k r (by omega), Option.bind_some]
    simp only [variorumref06_Norm.j2]
    rw [hz, w64 (x := (pre.length : Int) + 1) (by omega) (by omega)]
    rcases knd_three hne with c | c | c
    · obtain ⟨e, e0, e1, e2⟩ := run_eq c
      rw [c, if_pos (show ((1 : Int) == 1) = true from rfl)]
      have hE : r.f1 = (⟨#[]⟩ : ByteArray) := e1
      have hr1 : (r.f1.size : Int) = 0 := by rw [e1]; rfl
      by_cases ha : a.size = 0
      · obtain rfl : a = E := eq_E ha
        rw [if_pos (tl_nil.2 ha)]
        by_cases hdp : d > 0
        · rw [if_pos hdp, if_pos (by omega), if_pos (by omega), if_pos hlt]
          have hk0 : kp = 0 := by omega
          subst hk0
          rw [w64 (x := 0 + r.f0) (by omega) (by omega), Int.zero_add, next _ _ _ _ (.inr ⟨rfl, rfl⟩) (by omega) (by omega) (by omega) (by show _ + ((E.size : Nat) : Int) + _ ≤ _; rw [E_size]; omega) (by simp; omega), jn_flush c (.inr hdp), e1, e2, List.append_assoc]
          unfold fl
          rw [if_neg (show ¬ (0 : Int) < 0 by decide), if_neg (show ¬ E.size ≠ 0 by decide), if_pos (show 0 < d from hdp)]
          rfl
        · obtain rfl : d = 0 := by omega
          rw [if_neg hdp, if_pos (by omega), if_pos hlt, w64 (x := kp + r.f0) (by omega) (by omega), next _ _ _ _ (.inr ⟨rfl, rfl⟩) (by omega) (by omega) (by omega) (by show _ + ((E.size : Nat) : Int) + _ ≤ _; rw [E_size]; rw [E_size] at ho; omega) (by omega),
            jn_on (fun h => h.2.elim (fun h => h rfl) (fun h => absurd h (by decide))), e1, e2, E_add]
          rfl
      · have hk0 : kp = 0 := by omega
        subst hk0
        rw [if_neg (fun h2 => ha (tl_nil.1 h2)), if_pos (by omega), Option.bind_some, w64 (x := 0 + r.f0) (by omega) (by omega), Int.zero_add, jn_flush c (.inl ha), e1, e2]
        by_cases hdp : d > 0
        · rw [if_pos hdp, if_pos (by simp; omega), if_pos (by omega), if_pos hlt, next _ _ _ _ (.inr ⟨rfl, rfl⟩) (by omega) (by omega) (by omega) (by show _ + ((E.size : Nat) : Int) + _ ≤ _; rw [E_size]; omega) (by simp; omega)]
          unfold fl
          rw [if_neg (show ¬ (0 : Int) < 0 by decide), if_pos ha, if_pos (show 0 < d from hdp)]
          simp [E]
        · obtain rfl : d = 0 := by omega
          rw [if_neg hdp, if_pos (by omega), if_pos hlt, next _ _ _ _ (.inr ⟨rfl, rfl⟩) (by omega) (by omega) (by omega) (by show _ + ((E.size : Nat) : Int) + _ ≤ _; rw [E_size]; omega) (by simp; omega)]
          unfold fl
          rw [if_neg (show ¬ (0 : Int) < 0 by decide), if_pos ha]
          simp [E]
    all_goals
      have c1 : ((knd r == 1) = true) = False := by rw [c]; simp
      have hr0 : r.f0 = 0 := by first | exact (run_eq2 c).2.1 | exact (run_eq3 c).2.1
      have hr2 : (r.f1.size : Int) + r.f2 > 0 := by
        first
        | (have := (run_eq2 c).2.2.1; have := (run_eq2 c).2.2.2; omega)
        | (have := (run_eq3 c).2.2.2; have h9 := (run_eq3 c).2.2.1; rw [h9, E_size]; omega)
      rw [if_neg (by rw [c1]; exact id)]
      have hnew : (a ++ r.f1).size ≠ 0 ∨ 0 < d + r.f2 := by rw [size_add]; omega
      have hon : jn (r :: suf) kp a d = (if 0 < kp then [⟨kp, E, 0⟩] else []) ++ jn suf 0 (a ++ r.f1) (d + r.f2) := by
        rw [jn_on (fun h => by rw [c] at h; exact absurd h.1 (by decide)), hr0, Int.add_zero]
        exact jn_keep suf hsuf kp _ _ hkp (by omega) hnew
      have hgo := fun o' h => next o' (a ++ r.f1) (d + r.f2) 0 (.inl rfl) (by decide) (by omega) (by omega) (by rw [size_add]; omega) h
      rw [hon, w64 (x := d + r.f2) (by omega) (by omega)]
      by_cases h : kp > 0
      · rw [if_pos h, if_pos (by omega), Option.bind_some, if_pos hlt, if_pos (by omega), if_pos (by omega), hgo _ (by simp; omega), if_pos (show 0 < kp from h), List.append_assoc]
        rfl
      · rw [if_neg h, if_pos hlt, if_pos (by omega), if_pos (by omega), hgo _ (by omega), if_neg (show ¬ 0 < kp from h)]
        rfl
theorem l0_f (l : List Rn) (hl : l.length ≤ 4000000) : ∀ (suf pre : List Rn) (k : Nat), l = pre ++ suf → suf.length + 2 * l.length + 12 ≤ k → variorumref06_Norm.l0 k l (fine pre) (pre.length : Int) = some (norm l) := by
  intro suf
  induction suf with
  | nil =>
    intro pre k hfe hk
    obtain rfl : l = pre := by rw [hfe]; simp
    obtain ⟨k, rfl⟩ : ∃ m, k = m + 1 := ⟨k - 1, by simp at hk; omega⟩
    have hfl := fine_len l
    simp only [List.length_nil] at hk
    simp only [variorumref06_Norm.l0]
    rw [if_neg (by omega), rsums_f (by omega) (fine_ok l) k (by omega), Option.bind_some]
    unfold norm
    cases h : fits (fine l) 0 0 with
    | false => rfl
    | true =>
      have hs := (fits_iff (fine_ok l) 0 0 (by decide) (by decide)).1 h
      have := l1_f (fine l) (fine_ok l) (by omega) (fine l) [] k [] E 0 0 rfl (by omega) (.inl rfl) (by decide) (by decide) (by omega) (by rw [E_size]; omega) (by simp; omega)
      rw [show ((([] : List Rn).length : Nat) : Int) = 0 from rfl] at this
      simp only [cond_true, if_true]
      exact this
  | cons r suf ih =>
    intro pre k hfe hk
    obtain ⟨k, rfl⟩ : ∃ m, k = m + 1 := ⟨k - 1, by simp at hk; omega⟩
    obtain ⟨hl2, hn, hlt⟩ := snoc hfe
    simp only [List.length_cons] at hk
    have next := ih (pre ++ [r]) k hl2 (by omega)
    rw [hn, fine_append] at next
    have hpl := fine_len pre
    simp only [variorumref06_Norm.l0]
    rw [if_pos hlt, if_pos (by omega), rd_at hfe, rkind_k r (by omega), Option.bind_some, w64 (x := (pre.length : Int) + 1) (by omega) (by omega)]
    by_cases c : knd r = 0
    · have hfr : fine [r] = [] := by rw [fine_cons, if_neg (fun h => h c)]; rfl
      rw [hfr, List.append_nil] at next
      rw [c, if_neg (by decide), next]
    · have hfr : fine [r] = [r] := by rw [fine_cons, if_pos c]; rfl
      rw [hfr] at next
      rw [if_pos (by rcases knd_three c with h | h | h <;> omega), if_pos (by omega)]
      exact next
theorem rnorm_f {l : List Rn} (hl : l.length ≤ 4000000) (k : Nat) (hk : 3 * l.length + 12 ≤ k) : variorumref06_Norm.f k l = some (norm l) := by
  unfold variorumref06_Norm.f
  exact l0_f l hl l [] k rfl (by omega)
theorem norm_f {l : List Rn} (hl : l.length ≤ 4000000) : edit_Norm.f l = some (norm l) := by unfold edit_Norm.f; rw [if_pos hl]
/-- Whether two edits are the same. -/
theorem tl_inj {a b : ByteArray} (h : a.toList = b.toList) : a = b := by
  rw [ByteArray.toList_eq, ByteArray.toList_eq] at h
  obtain ⟨⟨x⟩⟩ := a
  obtain ⟨⟨y⟩⟩ := b
  have : x = y := h
  rw [this]
theorem run_ne {x y : Rn} : (!(x.f0 == y.f0) || (!(x.f1.toList == y.f1.toList) || (!(x.f2 == y.f2)))) = true ↔ x ≠ y := by
  rw [Bool.or_eq_true, Bool.or_eq_true, Bool.not_eq_true', Bool.not_eq_true', Bool.not_eq_true', beq_eq_false_iff_ne, beq_eq_false_iff_ne, beq_eq_false_iff_ne]
  obtain ⟨a, b, c⟩ := x
  obtain ⟨a', b', c'⟩ := y
  simp only
  constructor
  · rintro h e
    injection e with e1 e2 e3
    subst e1; subst e2; subst e3
    rcases h with h | h | h <;> exact h rfl
  · intro h
    by_cases h1 : a = a'
    · by_cases h3 : c = c'
      · refine .inr (.inl fun e => h ?_)
        rw [h1, h3, tl_inj e]
      · exact .inr (.inr h3)
    · exact .inl h1
theorem same_l (x y : List Rn) (hx : x.length ≤ 140737488351232) : ∀ (s t pre pre' : List Rn) (k : Nat), x = pre ++ s → y = pre' ++ t → pre.length = pre'.length → s.length = t.length → s.length < k →
    ∃ b, variorumref06_Same.l0 k x y (pre.length : Int) = some b ∧ (b = true ↔ s = t) := by
  intro s
  induction s with
  | nil =>
    intro t pre pre' k hxe hye hpp hst hk
    obtain ⟨k, rfl⟩ : ∃ m, k = m + 1 := ⟨k - 1, by omega⟩
    obtain rfl : t = [] := List.eq_nil_of_length_eq_zero hst.symm
    have : x.length = pre.length := by rw [hxe]; simp
    simp only [variorumref06_Same.l0]
    rw [if_neg (by omega)]
    exact ⟨true, rfl, by simp⟩
  | cons r s ih =>
    intro t pre pre' k hxe hye hpp hst hk
    obtain ⟨k, rfl⟩ : ∃ m, k = m + 1 := ⟨k - 1, by omega⟩
    cases t with
    | nil => simp at hst
    | cons q t =>
      obtain ⟨hl2, hn, hlt⟩ := snoc hxe
      obtain ⟨hl2', hn', hlt'⟩ := snoc hye
      obtain ⟨b, hb, hb2⟩ := ih t (pre ++ [r]) (pre' ++ [q]) k hl2 hl2' (by simp [hpp]) (by simpa using hst) (by simp at hk; omega)
      rw [hn] at hb
      simp only [variorumref06_Same.l0]
      rw [if_pos hlt, if_pos (by omega), if_pos (by omega), rd_at hxe, w64 (x := (pre.length : Int) + 1) (by omega) (by omega), hb]
      have e2 : rd_T37 y (pre.length : Int) = q := by rw [hpp]; exact rd_at hye
      rw [e2]
      by_cases h : r = q
      · rw [if_neg (fun h2 => run_ne.1 h2 h)]
        exact ⟨b, rfl, by rw [hb2]; simp [h]⟩
      · rw [if_pos (run_ne.2 h)]
        exact ⟨false, rfl, by simp [h]⟩
theorem same_f {x y : List Rn} (hx : x.length ≤ 140737488351232) (k : Nat) (hk : x.length < k) : ∃ b, variorumref06_Same.f k x y = some b ∧ (b = true ↔ x = y) := by
  unfold variorumref06_Same.f
  by_cases h : x.length = y.length
  · rw [if_pos (by omega)]
    exact same_l x y hx x y [] [] k rfl rfl rfl h hk
  · rw [if_neg (by omega)]
    exact ⟨false, rfl, by simp; intro e; exact h (by rw [e])⟩
theorem same_eq (x : List Rn) (hx : x.length ≤ 140737488351232) (k : Nat) (hk : x.length < k) : variorumref06_Same.f k x x = some true := by
  obtain ⟨b, h1, h2⟩ := same_f (y := x) hx k hk
  rw [h1, h2.2 rfl]
end Go.Proofs.Ythocalfgeaclgaa.EditH
end
-- MERGED YthocalfgeaclgaaPureRunBetween
section
/- The edit between any two texts is the one that the document says; applied to the first one it makes the second one; the edit between a text and itself changes nothing: for every two strings; no condition. -/
namespace Go.Proofs.Ythocalfgeaclgaa.Pure
open Go.RowKit Go.Proofs.Ythocalfgeaclgaa.P Go.Proofs.YthocalfgeaclgaaW.PrintWords Go.Proofs.YthocalfgeaclgaaW.PrintLast Go.Proofs.YthocalfgeaclgaaW.PrintMore Go.Proofs.Ythocalfgeaclgaa.EditL Go.Proofs.Ythocalfgeaclgaa.EditK Go.Proofs.Ythocalfgeaclgaa.EditF Go.Proofs.Ythocalfgeaclgaa.EditG Go.Proofs.Ythocalfgeaclgaa.RunA Go.Proofs.Ythocalfgeaclgaa.RunL Go.Proofs.Ythocalfgeaclgaa.RunF
theorem rl_0 (a b : ByteArray) (ha : a.size ≤ 16777216) (hb : b.size ≤ 16777216) : ∀ (d i k : Nat), i + d = most a b → d < k → ∃ k', k ≤ k' + d + 1 ∧ variorumref07_Between.l0 k a b (i : Int) = variorumref07_Between.j2 k' a b (cnt (preP a b) d i : Int) := by
  have hm : most a b ≤ a.size ∧ most a b ≤ b.size ∧ (most a b = a.size ∨ most a b = b.size) := by unfold most; omega
  generalize most a b = m at hm
  intro d
  induction d with
  | zero =>
    intro i k hi hk
    obtain ⟨k, rfl⟩ : ∃ m, k = m + 1 := ⟨k - 1, by omega⟩
    refine ⟨k, by omega, ?_⟩
    simp only [variorumref07_Between.l0, cnt]
    by_cases h : (i : Int) < (a.size : Int)
    · rw [if_pos h, if_neg (by omega)]
    · rw [if_neg h]
  | succ d ih =>
    intro i k hi hk
    obtain ⟨k, rfl⟩ : ∃ m, k = m + 1 := ⟨k - 1, by omega⟩
    simp only [variorumref07_Between.l0, cnt]
    rw [if_pos (by omega), if_pos (by omega), if_pos (by omega)]
    by_cases h : bt a (i : Int) = bt b (i : Int)
    · obtain ⟨k', h1, h2⟩ := ih (i + 1) k (by omega) (by omega)
      refine ⟨k', by omega, ?_⟩
      rw [if_pos h, w64 (x := (i : Int) + 1) (by omega) (by omega), if_pos (show preP a b i = true from decide_eq_true h), ← h2]
      congr 1
    · refine ⟨k, by omega, ?_⟩
      rw [if_neg h, if_neg (show ¬ preP a b i = true from fun e => h (of_decide_eq_true e))]
theorem rl_1 (a b : ByteArray) (ha : a.size ≤ 16777216) (hb : b.size ≤ 16777216) (K : Nat) (hK : K ≤ most a b) : ∀ (d i k : Nat), i + d = most a b - K → d + 40 < k → variorumref07_Between.l1 k a b (K : Int) (i : Int) = some (norm (btw a b K (cnt (sufP a b) d i))) := by
  have hm : most a b ≤ a.size ∧ most a b ≤ b.size ∧ (most a b = a.size ∨ most a b = b.size) := by unfold most; omega
  generalize most a b = m at hm hK
  intro d
  have hend : ∀ (i k : Nat), K + i ≤ m → 40 ≤ k → (if 0 ≤ (K : Int) then (if (K : Int) ≤ (wrap64 ((b.size : Int) - (i : Int))) then (if (wrap64 ((b.size : Int) - (i : Int))) ≤ (b.size : Int) then ((variorumref06_Norm.f k (([(⟨(K : Int), (⟨#[]⟩ : ByteArray), 0⟩ : Rn), (⟨0, b.extract (K : Int).toNat ((wrap64 ((b.size : Int) - (i : Int))) : Int).toNat, 0⟩ : Rn), (⟨0, (⟨#[]⟩ : ByteArray), wrap64 ((wrap64 ((a.size : Int) - (i : Int))) - (K : Int))⟩ : Rn), (⟨(i : Int), (⟨#[]⟩ : ByteArray), 0⟩ : Rn)] : List Rn))).bind fun t487 => (some t487)) else (none)) else (none)) else (none)) = some (norm (btw a b K i)) := by
    intro i k hi hk
    rw [if_pos (by omega), w64 (x := (b.size : Int) - (i : Int)) (by omega) (by omega), if_pos (by omega), if_pos (by omega), w64 (x := (a.size : Int) - (i : Int)) (by omega) (by omega), w64 (x := (a.size : Int) - (i : Int) - (K : Int)) (by omega) (by omega), EditH.rnorm_f (by simp) k (by simp; omega), Option.bind_some, Int.toNat_natCast, show ((b.size : Int) - (i : Int)).toNat = b.size - i by omega]
    rfl
  induction d with
  | zero =>
    intro i k hi hk
    obtain ⟨k, rfl⟩ : ∃ m, k = m + 1 := ⟨k - 1, by omega⟩
    simp only [variorumref07_Between.l1, cnt]
    rw [w64 (x := (a.size : Int) - (K : Int)) (by omega) (by omega), w64 (x := (b.size : Int) - (K : Int)) (by omega) (by omega)]
    by_cases h : (i : Int) < (a.size : Int) - (K : Int)
    · rw [if_pos h, if_neg (by omega), hend i k (by omega) (by omega)]
    · rw [if_neg h, hend i k (by omega) (by omega)]
  | succ d ih =>
    intro i k hi hk
    obtain ⟨k, rfl⟩ : ∃ m, k = m + 1 := ⟨k - 1, by omega⟩
    simp only [variorumref07_Between.l1, cnt]
    rw [w64 (x := (a.size : Int) - (K : Int)) (by omega) (by omega), w64 (x := (b.size : Int) - (K : Int)) (by omega) (by omega), if_pos (by omega), if_pos (by omega), w64 (x := (a.size : Int) - 1) (by omega) (by omega), w64 (x := (b.size : Int) - 1) (by omega) (by omega), w64 (x := (a.size : Int) - 1 - (i : Int)) (by omega) (by omega), w64 (x := (b.size : Int) - 1 - (i : Int)) (by omega) (by omega), if_pos (by omega), if_pos (by omega), if_pos (by omega), if_pos (by omega)]
    by_cases h : bt a ((a.size : Int) - 1 - (i : Int)) = bt b ((b.size : Int) - 1 - (i : Int))
    · rw [if_pos h, w64 (x := (i : Int) + 1) (by omega) (by omega), if_pos (show sufP a b i = true from decide_eq_true h), ← ih (i + 1) k (by omega) (by omega)]
      congr 1
    · rw [if_neg h, if_neg (show ¬ sufP a b i = true from fun e => h (of_decide_eq_true e)), hend i k (by omega) (by omega)]
theorem rbetween_f (a b : ByteArray) (ha : a.size ≤ 16777216) (hb : b.size ≤ 16777216) (k : Nat) (hk : 2 * most a b + 60 < k) : variorumref07_Between.f k a b = some (between a b) := by
  unfold variorumref07_Between.f
  rw [if_neg (by omega), decide_eq_false (by omega)]
  obtain ⟨k, rfl⟩ : ∃ m, k = m + 1 := ⟨k - 1, by omega⟩
  simp only [variorumref07_Between.j0]
  rw [if_neg Bool.false_ne_true]
  obtain ⟨k1, h1, h2⟩ := rl_0 a b ha hb (most a b) 0 k (by omega) (by omega)
  rw [show (0 : Int) = ((0 : Nat) : Int) from rfl]
  rw [h2]
  obtain ⟨k1, rfl⟩ : ∃ m, k1 = m + 1 := ⟨k1 - 1, by omega⟩
  simp only [variorumref07_Between.j2]
  exact rl_1 a b ha hb _ (Kk_le a b) _ 0 k1 (by omega) (by omega)
theorem RunBetween : variorumlaw07_RunBetween.Pure := by
  intro a b _ _
  refine ⟨69999 + 1, ?_⟩
  have hj : variorumlaw07_RunBetween.j0 (69999 + 1) a b true = some true := by
    simp only [variorumlaw07_RunBetween.j0]
    rw [if_pos (by trivial)]; exact lives_b _ (by decide)
  unfold variorumlaw07_RunBetween.f
  by_cases c1 : (a.size : Int) > 2000
  · rw [if_pos c1]; exact hj
  · rw [if_neg c1]
    by_cases c2 : (b.size : Int) > 2000
    · rw [decide_eq_true c2]; exact hj
    · rw [decide_eq_false c2]
      obtain ⟨g, i, p, l⟩ := between_ok a b (by omega) (by omega)
      have f1 : fitsL (between a b) a.size = true := fitsL_iff.2 ⟨g, i⟩
      have hm : most a b ≤ a.size := Nat.min_le_left _ _
      have hm2 : most a a ≤ a.size := Nat.min_le_left _ _
      obtain ⟨m, hm⟩ : ∃ m, m = 69999 := ⟨_, rfl⟩
      have hid : edit_Idle.f (between a a) = some true := by
        unfold edit_Idle.f
        rw [between_same a (by omega)]
        by_cases h : 0 < a.size
        · rw [if_pos h, if_pos (by simp)]
          have e1 : knd ⟨(a.size : Int), E, 0⟩ = 1 := knd_keep (by omega)
          have hg := (between_ok a a (by omega) (by omega)).1
          rw [between_same a (by omega), if_pos h] at hg
          unfold EditIdle.idle EditIdle.keeps
          rw [hg]
          simp [e1]
        · rw [if_neg h, if_pos (by simp)]; rfl
      rw [← hm]
      simp only [variorumlaw07_RunBetween.j0]
      rw [if_neg (by simp), between_f a b (by omega) (by omega) m (by omega), Option.bind_some, apply_f (by omega) (by omega), Option.bind_some, app_yes f1, rbetween_f a b (by omega) (by omega) m (by omega), Option.bind_some, SameF.same_eq _ (by omega) m (by omega), Option.bind_some, if_pos rfl]
      simp only []
      rw [if_pos trivial, p, if_pos rfl, between_f a a (by omega) (by omega) m (by omega), Option.bind_some, hid, Option.bind_some, if_pos rfl]
      exact lives_b _ (by omega)
end Go.Proofs.Ythocalfgeaclgaa.Pure
end
-- MERGED YthocalfgeaclgaaLawRunBetween
section
-- Written by wip/myprint.py of this session, over the kit's print.py: a Lean function for each Go function, and the proof that the code comes to it.
namespace Go.Proofs.Ythocalfgeaclgaa.runBetween
open Go.ChangeShapes Go.WideShapes Go.ChangeAt Go.RowKit
open Go.ChangeMaps (open_string shut_string)
set_option linter.unusedVariables false
theorem own : ownKnob Try.prog.godebug = none := by kernel_rfl
set_option maxRecDepth 100000 in
theorem lifted (os : Os) (started : os.Started) (H : Type) (enc : TypeId × Value → H) :
    ReturnsInHanded {} Try.checked os 9 .any (Rows.runBetweenSpec.pre6 enc Try.prog Try.f9 Rows.runBetweenRow.domain false) (Rows.runBetweenSpec.post enc Try.prog Try.f9 false true false false) := by
  refine returnsInHanded_of_change_sized (C := Try.checked) own started (by kernel_rfl) Try.func9
    (ChangeSpec.witness6 (enc := enc) (C := Try.checked) false ⟨#[], #[.string ByteArray.empty, .string ByteArray.empty], []⟩ 8 (by kernel_rfl) (by kernel_rfl) (by kernel_rfl) (by kernel_rfl)) ?_
  intro W base args ds gs before hval0 hW hcnd hsz0 _
  have hsz : (DataW.weightsEach Try.prog (Try.f9.params.toList ++ Rows.runBetweenSpec.plain.varTypes Try.prog) (ds ++ gs)).all (· ≤ reachBytes) = true := hsz0
  have hval : ∀ (j : Nat) t v, Try.f9.params[j]? = some t → args[j]? = some v → Value.okWide Try.prog W .any base t v := hval0
  have hW' := hW
  obtain ⟨p, q, hA0, hV, rfl, hfz, hnd⟩ := hW
  have hA : DataW.TrodAll enc Try.prog W 0 (fun _ => true) true Try.f9.params.toList args.toList ds p := hA0
  rw [Try.params9] at hA hval hsz
  obtain ⟨v0, vs0, d0, ds0, p0, q0, hargs, rfl, rfl, h0, r0⟩ := trodAll_cons hA
  obtain ⟨v1, vs1, d1, ds1, p1, q1, rfl, rfl, rfl, h1, r1⟩ := trodAll_cons r0
  obtain ⟨rfl, rfl, rfl⟩ := trodAll_nil r1
  obtain rfl : args = #[v0, v1] := by cases args; simp_all
  obtain ⟨rfl, rfl⟩ := trodVars_none hV
  obtain ⟨a0, rfl, rfl, rfl, y0⟩ := open_string Try.underlying9 (hval 0 9 v0 rfl rfl) h0
  have w0 : a0.size ≤ 140737488351232 := by
    have z := sized_string hsz (j := 0) (t := 9) rfl rfl
    rw [Array.length_toList] at z
    exact z
  obtain ⟨a1, rfl, rfl, rfl, y1⟩ := open_string Try.underlying9 (hval 1 9 v1 rfl rfl) h1
  have w1 : a1.size ≤ 140737488351232 := by
    have z := sized_string hsz (j := 1) (t := 9) rfl rfl
    rw [Array.length_toList] at z
    exact z
  clear hA0 hval0 hsz0 hsz
  refine (P.variorumlaw07_RunBetween.walk Pure.RunBetween a0 a1 W w0 w1).mono fun e W' ⟨he, bel⟩ => ?_
  subst he
  exact ⟨_, rfl, _, _, _, [], _, [], hW', trodAll_mk1 (shut_bool Try.underlying4 _), (trodAll_cons_mk (shut_string Try.underlying9 y0) (trodAll_cons_mk (shut_string Try.underlying9 y1) trodAll_mk0)), rfl, bel.frame _, fun h => by cases h⟩
theorem over : Rows.runBetweenRow.holds Try.pinned (OpenSpec.ofChange Rows.runBetweenSpec) :=
  OpenClaim.holds_of_wide 9 Try.f9 rfl rfl rfl rfl rfl rfl rfl ⟨rfl, rfl, rfl, rfl, rfl⟩ rfl rfl rfl rfl rfl (by kernel_rfl) Try.func9 (by kernel_rfl)
    (of_decide_eq_true (by kernel_rfl)) (by unfold Func.isWrapper; first | (rw [if_pos (by decide +kernel)]; kernel_rfl) | (rw [if_neg (by decide +kernel)]; exact ⟨rfl, rfl⟩))
    (fun os started H enc _ => lifted os started H enc)
theorem proved : Rows.RunBetweenSaid := over
#print axioms proved
end Go.Proofs.Ythocalfgeaclgaa.runBetween
namespace Go.Proofs.Ythocalfgeaclgaa
/-- The row, under a short name, for the claim. -/
theorem runBetween_holds : Rows.RunBetweenSaid := runBetween.proved
end Go.Proofs.Ythocalfgeaclgaa
end

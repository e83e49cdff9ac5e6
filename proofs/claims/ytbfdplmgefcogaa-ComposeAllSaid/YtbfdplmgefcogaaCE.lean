import Derived.Test.YtbfdplmgefcogaaCC
import Derived.Test.YtbfdplmgefcogaaCB
import Derived.Test.YtbfdplmgefcogaaCA
import Derived.Test.YtbfdplmgefcogaaCW
import Derived.Test.YtbfdplmgefcogaaCD
-- MERGED YtbfdplmgefcogaaPvariorumref06Norm
section

namespace Go.Proofs.Ytbfdplmgefcogaa.P
open Go.RowKit Go.Proofs.YtbfdplmgefcogaaW.PrintWords Go.Proofs.YtbfdplmgefcogaaW.PrintLast Go.Proofs.YtbfdplmgefcogaaW.PrintMore
attribute [local go_sem] max2_int min2_int max_two min_two max_three min_three max_four min_four
set_option linter.unusedVariables false
set_option linter.unusedSimpArgs false
mutual
def variorumref06_Norm.l0 : Nat → List (S43) → List (S43) → Int → Option ((List (S43)))
 | 0, _, _, _ => none
 | k + 1, x0, x3, x4 => if x4 < (x0.length : Int) then (if 0 ≤ x4 then ((variorumref06_Kind.f k ((rd_T43 x0 x4).f0) ((rd_T43 x0 x4).f1) ((rd_T43 x0 x4).f2)).bind fun t174 => (if t174 > 0 then (if x3.length < 4398046511104 then (variorumref06_Norm.l0 k x0 (x3 ++ [(⟨(rd_T43 x0 x4).f0, (rd_T43 x0 x4).f1, (rd_T43 x0 x4).f2⟩ : S43)]) (wrap64 (x4 + 1))) else (none)) else (variorumref06_Norm.l0 k x0 x3 (wrap64 (x4 + 1))))) else (none)) else ((variorumref06_sums.f k x3).bind fun bt179 => (if bt179.2.2 = true then (variorumref06_Norm.l1 k x3 ([] : List (S43)) (⟨#[]⟩ : ByteArray) 0 0 0) else (some ([] : List (S43)))))
def variorumref06_Norm.l1 : Nat → List (S43) → List (S43) → ByteArray → Int → Int → Int → Option ((List (S43)))
 | 0, _, _, _, _, _, _ => none
 | k + 1, x3, x8, x9, x10, x11, x12 => if x12 ≤ (x3.length : Int) then (if x12 < (x3.length : Int) then (if 0 ≤ x12 then ((variorumref06_Kind.f k ((rd_T43 x3 x12).f0) ((rd_T43 x3 x12).f1) ((rd_T43 x3 x12).f2)).bind fun t183 => (variorumref06_Norm.j2 k x3 x8 x9 x10 x11 x12 (t183 == 1))) else (none)) else (variorumref06_Norm.j2 k x3 x8 x9 x10 x11 x12 false)) else (if x9.toList = ([] : List UInt8) then (variorumref06_Norm.j3 k x8 x10) else (if x8.length < 4398046511104 then (variorumref06_Norm.j3 k (x8 ++ [(⟨0, x9, 0⟩ : S43)]) x10) else (none)))
def variorumref06_Norm.j2 : Nat → List (S43) → List (S43) → ByteArray → Int → Int → Int → Bool → Option ((List (S43)))
 | 0, _, _, _, _, _, _, _ => none
 | k + 1, x3, x8, x9, x10, x11, x12, x57 => if x57 = true then (if x9.toList = ([] : List UInt8) then (if x10 > 0 then (if x8.length < 4398046511104 then (if 0 ≤ x12 then (if x12 < (x3.length : Int) then (variorumref06_Norm.l1 k x3 (x8 ++ [(⟨0, (⟨#[]⟩ : ByteArray), x10⟩ : S43)]) (⟨#[]⟩ : ByteArray) 0 (wrap64 (x11 + ((rd_T43 x3 x12).f0))) (wrap64 (x12 + 1))) else (none)) else (none)) else (none)) else (if 0 ≤ x12 then (if x12 < (x3.length : Int) then (variorumref06_Norm.l1 k x3 x8 (⟨#[]⟩ : ByteArray) 0 (wrap64 (x11 + ((rd_T43 x3 x12).f0))) (wrap64 (x12 + 1))) else (none)) else (none))) else (if x8.length < 4398046511104 then ((some (x8 ++ [(⟨0, x9, 0⟩ : S43)] : List (S43))).bind fun y189 => (if x10 > 0 then (if y189.length < 4398046511104 then (if 0 ≤ x12 then (if x12 < (x3.length : Int) then (variorumref06_Norm.l1 k x3 (y189 ++ [(⟨0, (⟨#[]⟩ : ByteArray), x10⟩ : S43)]) (⟨#[]⟩ : ByteArray) 0 (wrap64 (x11 + ((rd_T43 x3 x12).f0))) (wrap64 (x12 + 1))) else (none)) else (none)) else (none)) else (if 0 ≤ x12 then (if x12 < (x3.length : Int) then (variorumref06_Norm.l1 k x3 y189 (⟨#[]⟩ : ByteArray) 0 (wrap64 (x11 + ((rd_T43 x3 x12).f0))) (wrap64 (x12 + 1))) else (none)) else (none)))) else (none))) else (if x11 > 0 then (if x8.length < 4398046511104 then ((some (x8 ++ [(⟨x11, (⟨#[]⟩ : ByteArray), 0⟩ : S43)] : List (S43))).bind fun y197 => (if x12 < (x3.length : Int) then (if 0 ≤ x12 then (if x9.size + ((rd_T43 x3 x12).f1).size ≤ 9223372036854775807 then (variorumref06_Norm.l1 k x3 y197 (x9 ++ ((rd_T43 x3 x12).f1)) (wrap64 (x10 + ((rd_T43 x3 x12).f2))) 0 (wrap64 (x12 + 1))) else (none)) else (none)) else (variorumref06_Norm.l1 k x3 y197 x9 x10 0 (wrap64 (x12 + 1))))) else (none)) else (if x12 < (x3.length : Int) then (if 0 ≤ x12 then (if x9.size + ((rd_T43 x3 x12).f1).size ≤ 9223372036854775807 then (variorumref06_Norm.l1 k x3 x8 (x9 ++ ((rd_T43 x3 x12).f1)) (wrap64 (x10 + ((rd_T43 x3 x12).f2))) 0 (wrap64 (x12 + 1))) else (none)) else (none)) else (variorumref06_Norm.l1 k x3 x8 x9 x10 0 (wrap64 (x12 + 1)))))
def variorumref06_Norm.j3 : Nat → List (S43) → Int → Option ((List (S43)))
 | 0, _, _ => none
 | k + 1, x8, x10 => if x10 > 0 then (if x8.length < 4398046511104 then ((some (x8 ++ [(⟨0, (⟨#[]⟩ : ByteArray), x10⟩ : S43)] : List (S43))).bind fun y207 => ((variorumref06_Good.f y207).bind fun t210 => (if t210 = true then (some y207) else (some ([] : List (S43)))))) else (none)) else ((variorumref06_Good.f x8).bind fun t211 => (if t211 = true then (some x8) else (some ([] : List (S43)))))
end
def variorumref06_Norm.f (k : Nat) (l0 : List (S43)) : Option ((List (S43))) := variorumref06_Norm.l0 k l0 ([] : List (S43)) 0
theorem variorumref06_Norm.mono_l : ∀ k, (∀ y0 y1 y2, LeO (variorumref06_Norm.l0 k y0 y1 y2) (variorumref06_Norm.l0 (k + 1) y0 y1 y2)) ∧ (∀ y0 y1 y2 y3 y4 y5, LeO (variorumref06_Norm.l1 k y0 y1 y2 y3 y4 y5) (variorumref06_Norm.l1 (k + 1) y0 y1 y2 y3 y4 y5)) ∧ (∀ y0 y1 y2 y3 y4 y5 y6, LeO (variorumref06_Norm.j2 k y0 y1 y2 y3 y4 y5 y6) (variorumref06_Norm.j2 (k + 1) y0 y1 y2 y3 y4 y5 y6)) ∧ (∀ y0 y1, LeO (variorumref06_Norm.j3 k y0 y1) (variorumref06_Norm.j3 (k + 1) y0 y1))
 | 0 => ⟨fun _ _ _ r h => by simp [variorumref06_Norm.l0] at h, fun _ _ _ _ _ _ r h => by simp [variorumref06_Norm.l1] at h, fun _ _ _ _ _ _ _ r h => by simp [variorumref06_Norm.j2] at h, fun _ _ r h => by simp [variorumref06_Norm.j3] at h⟩
 | k + 1 => by
  obtain ⟨ih0, ih1, ih2, ih3⟩ := variorumref06_Norm.mono_l k
  refine ⟨?_, ?_, ?_, ?_⟩
  ·intro y0 y1 y2
   unfold variorumref06_Norm.l0
   repeat' first | (with_reducible exact ih0 _ _ _) | (with_reducible exact ih1 _ _ _ _ _ _) | (with_reducible exact variorumref06_Kind.mono _ _ _ _) | (with_reducible exact variorumref06_sums.mono _ _) | (with_reducible exact LeO.refl _) | (with_reducible refine LeO.ite ?_ ?_) | (with_reducible refine LeO.bind ?_ (fun _ => ?_))
  ·intro y0 y1 y2 y3 y4 y5
   unfold variorumref06_Norm.l1
   repeat' first | (with_reducible exact ih2 _ _ _ _ _ _ _) | (with_reducible exact ih3 _ _) | (with_reducible exact variorumref06_Kind.mono _ _ _ _) | (with_reducible exact LeO.refl _) | (with_reducible refine LeO.ite ?_ ?_) | (with_reducible refine LeO.bind ?_ (fun _ => ?_))
  ·intro y0 y1 y2 y3 y4 y5 y6
   unfold variorumref06_Norm.j2
   repeat' first | (with_reducible exact ih1 _ _ _ _ _ _) | (with_reducible exact LeO.refl _) | (with_reducible refine LeO.ite ?_ ?_) | (with_reducible refine LeO.bind ?_ (fun _ => ?_))
  ·intro y0 y1
   unfold variorumref06_Norm.j3
   repeat' (with_reducible exact LeO.refl _)
theorem variorumref06_Norm.mono : ∀ a0 k, LeO (variorumref06_Norm.f k a0) (variorumref06_Norm.f (k + 1) a0) := by
 intro a0 k
 obtain ⟨ih0, ih1, ih2, ih3⟩ := variorumref06_Norm.mono_l k
 unfold variorumref06_Norm.f
 repeat' (with_reducible exact ih0 _ _ _)
set_option maxHeartbeats 8000000 in
set_option maxRecDepth 100000 in
theorem variorumref06_Norm.calls (k : Nat) (A0 : Option Addr) (c0 : Nat) (l0 : List (S43)) (r : List (S43)) (w : World) (hr0 : Kd.C k43 w A0 l0.length l0) (hc0 : l0.length ≤ c0) (h : variorumref06_Norm.f k l0 = some r) :
  Calls Try.prog 28 #[.slice A0 l0.length c0] w fun e w' => ∃ v0_ : Value, e = .returned (v0_) ∧ Kd.R k43 43 w' w.heap.size (fun _ => True) v0_ r ∧ Below w.heap.size w w' := by
 have hu43 := Try.underlying43
 have HR0 := Aside0.mk hr0
 have HC0 := Aside0.mk hc0
 clear hr0 hc0
 have HB := Aside0.mk (Below.refl w.heap.size w)
 have H : (variorumref06_Norm.l0 k l0 ([] : List (S43)) 0) = some r := h
 clear h
 have H' := Aside0.mk H
 clear H
 go_enter Try.func28, Try.ntmps28
 go_wp2
 go_loopg [3, 4] k (fun kq v3 v4 w' => ∃ (x3_1 : List (S43)) (x4_1 : Int), v4 = .int .i64 x4_1 ∧ Aside0 (variorumref06_Norm.l0 kq l0 x3_1 x4_1 = some r) ∧ Aside0 (kq ≤ k) ∧ Aside0 (Kd.R k43 43 w' w.heap.size (fun _ => True) v3 x3_1) ∧ Aside0 (Below w.heap.size w w'))
 case atStart => exact ⟨(([] : List (S43))), (0), (by (rfl)), H', ⟨Nat.le_refl _⟩, ⟨by (exact Kd.R_nil _ _ _ _ _)⟩, ⟨by repeat ((with_reducible (exact HB.out)))⟩⟩
 case round =>
  clear H'
  obtain ⟨x3_1, x4_1, rfl, HA, HK1, HO_3, HB⟩ := hrel
  cases gk with
  | zero => exact absurd HA.out (by simp [variorumref06_Norm.l0])
  | succ k1 =>
   have H := HA.out
   clear HA
   simp only [variorumref06_Norm.l0] at H
   by_cases c2 : x4_1 < (l0.length : Int)
   ·rw [if_pos c2] at H
    have c2b0 : decide (x4_1 < (l0.length : Int)) = true := decide_eq_true c2
    clear c2
    by_cases c3 : 0 ≤ x4_1
    ·rw [if_pos c3] at H
     have c3b0 : decide (0 ≤ x4_1) = true := decide_eq_true c3
     clear c3
     replace H := Option.bind_eq_some_iff.mp H
     obtain ⟨t174, A40, H⟩ := H
     replace H : (if t174 > 0 then (if x3_1.length < 4398046511104 then (variorumref06_Norm.l0 k1 l0 (x3_1 ++ [(⟨(rd_T43 l0 x4_1).f0, (rd_T43 l0 x4_1).f1, (rd_T43 l0 x4_1).f2⟩ : S43)]) (wrap64 (x4_1 + 1))) else (none)) else (variorumref06_Norm.l0 k1 l0 x3_1 (wrap64 (x4_1 + 1)))) = some r := H
     have A4 := Aside0.mk A40
     clear A40
     by_cases c5 : t174 > 0
     ·rw [if_pos c5] at H
      have c5b0 : decide (0 < t174) = true := decide_eq_true c5
      clear c5
      by_cases c6 : x3_1.length < 4398046511104
      ·rw [if_pos c6] at H
       have LMc6 := Aside0.mk c6
       clear c6
       obtain ⟨y176, hy176⟩ : ∃ y_ : List (S43), y_ = (x3_1 ++ [(⟨(rd_T43 l0 x4_1).f0, (rd_T43 l0 x4_1).f1, (rd_T43 l0 x4_1).f2⟩ : S43)]) := ⟨_, rfl⟩
       replace H : (variorumref06_Norm.l0 k1 l0 y176 (wrap64 (x4_1 + 1))) = some r := by (rw [hy176]; with_reducible exact H)
       have Ny176 := Aside0.mk hy176
       clear hy176
       have H' := Aside0.mk H
       clear H
       have p173 : 0 ≤ (x4_1 : Int) := of_decide_eq_true (by (with_reducible assumption))
       have q173 : x4_1 < (l0.length : Int) := of_decide_eq_true (by (with_reducible assumption))
       obtain ⟨ad173, e173, hx173_0, hx173_1, hx173_2⟩ := at_T43 HR0.out x4_1 p173 q173
       cases e173
       replace hx173_0 := (HB.out.cell (World.block_lt_of_cell? w _ hx173_0)).trans hx173_0
       replace hx173_1 := (HB.out.cell (World.block_lt_of_cell? w _ hx173_1)).trans hx173_1
       replace hx173_2 := (HB.out.cell (World.block_lt_of_cell? w _ hx173_2)).trans hx173_2
       replace p173 := eq_true p173
       replace q173 := eq_true q173
       go_wp2_with (first | ((with_reducible refine gate_callee (f := 35) rfl ?_); refine goesL_ (some 23) rfl rfl Try.func35 (by kernel_rfl) rfl #[.agg #[.int .i64 ((rd_T43 l0 x4_1).f0), .string ((rd_T43 l0 x4_1).f1), .int .i64 ((rd_T43 l0 x4_1).f2)]] rfl (by (try simp only [List.map_toArray, List.map_cons, List.map_nil]); (rfl)) ?_; (with_reducible refine (variorumref06_Kind.calls k1 ((rd_T43 l0 x4_1).f0) ((rd_T43 l0 x4_1).f1) ((rd_T43 l0 x4_1).f2) t174 _ A4.out).mono ?_); rintro e w7 ⟨rfl, hb⟩; refine ⟨_, rfl, ?_⟩; have n0_ := Aside0.mk (Kd.R_below (by (with_reducible repeat ((apply Kd.R_drew))); exact HO_3.out) hb); have n1_ := Aside0.mk (below_step (by repeat ((with_reducible (exact HB.out)))) hb); clear HO_3; clear HB; have HO_3 := n0_; have HB := n1_; clear n0_ n1_; (try clear hb); (try clear hb2); (try clear hk); (try clear hi); have p175 : 0 ≤ (x4_1 : Int) := of_decide_eq_true (by (with_reducible assumption)); have q175 : x4_1 < (l0.length : Int) := of_decide_eq_true (by (with_reducible assumption)); obtain ⟨ad175, e175, hx175_0, hx175_1, hx175_2⟩ := at_T43 HR0.out x4_1 p175 q175; obtain rfl : ad173 = ad175 := (by injection e175); replace hx175_0 := (HB.out.cell (World.block_lt_of_cell? w _ hx175_0)).trans hx175_0; replace hx175_1 := (HB.out.cell (World.block_lt_of_cell? w _ hx175_1)).trans hx175_1; replace hx175_2 := (HB.out.cell (World.block_lt_of_cell? w _ hx175_2)).trans hx175_2; replace p175 := eq_true p175; replace q175 := eq_true q175) | ((with_reducible refine gate_builtin (b := .append) (xs := #[.tmp 25, .tmp 30]) rfl ?_); at_builtin; refine Kd.R_append k43 (w0 := w) w.heap.size rfl (.tmp 25) (.tmp 30) 22 43 (.agg #[(.int .i64 0), (.string ⟨#[]⟩), (.int .i64 0)]) 32 rfl Try.underlying22 info43 rfl (by decide) (by omega) u3 x3_1 (⟨(rd_T43 l0 x4_1).f0, (rd_T43 l0 x4_1).f1, (rd_T43 l0 x4_1).f2⟩ : S43) [.int .i64 ((rd_T43 l0 x4_1).f0), .string ((rd_T43 l0 x4_1).f1), .int .i64 ((rd_T43 l0 x4_1).f2)] (fun _ => True) (fun _ => False) rfl rfl ?aP (fun _ hk => hk.elim) ?aF ?aO ?aB ?aS ?aL ?_; (case aP => exact k43_mkM _ _ _ (⟨(rd_T43 l0 x4_1).f0, (rd_T43 l0 x4_1).f1, (rd_T43 l0 x4_1).f2⟩ : S43)); (case aB => exact (by repeat ((with_reducible (exact HB.out))))); (case aF => exact (fun _ _ => trivial)); (case aO => exact (by (with_reducible repeat ((apply Kd.R_drew))); exact HO_3.out)); (case aS => exact (below_size (by repeat ((with_reducible (exact HB.out)))))); (case aL => have := LMc6.out; omega); intro v177 w8 ho hb hg hat; rw [← Ny176.out] at ho; have n0_ := Aside0.mk (hb); have n1_ := Aside0.mk (ho); clear HB; clear HO_3; have HB := n0_; have HO178 := n1_; clear n0_ n1_; clear ho hb hg hat))
       go_roundg k1
       case measure => have := HK1.out; omega
       case rel => exact ⟨(y176), (wrap64 (x4_1 + 1)), (by (rfl)), H', ⟨by have := HK1.out; omega⟩, ⟨by (with_reducible repeat ((apply Kd.R_drew))); exact HO178.out⟩, ⟨by repeat ((with_reducible (exact HB.out)))⟩⟩
      ·rw [if_neg c6] at H
       exact absurd H (by simp)
     ·rw [if_neg c5] at H
      have c5b0 : decide (0 < t174) = false := decide_eq_false c5
      clear c5
      have H' := Aside0.mk H
      clear H
      have p173 : 0 ≤ (x4_1 : Int) := of_decide_eq_true (by (with_reducible assumption))
      have q173 : x4_1 < (l0.length : Int) := of_decide_eq_true (by (with_reducible assumption))
      obtain ⟨ad173, e173, hx173_0, hx173_1, hx173_2⟩ := at_T43 HR0.out x4_1 p173 q173
      cases e173
      replace hx173_0 := (HB.out.cell (World.block_lt_of_cell? w _ hx173_0)).trans hx173_0
      replace hx173_1 := (HB.out.cell (World.block_lt_of_cell? w _ hx173_1)).trans hx173_1
      replace hx173_2 := (HB.out.cell (World.block_lt_of_cell? w _ hx173_2)).trans hx173_2
      replace p173 := eq_true p173
      replace q173 := eq_true q173
      go_wp2_with (first | ((with_reducible refine gate_callee (f := 35) rfl ?_); refine goesL_ (some 23) rfl rfl Try.func35 (by kernel_rfl) rfl #[.agg #[.int .i64 ((rd_T43 l0 x4_1).f0), .string ((rd_T43 l0 x4_1).f1), .int .i64 ((rd_T43 l0 x4_1).f2)]] rfl (by (try simp only [List.map_toArray, List.map_cons, List.map_nil]); (rfl)) ?_; (with_reducible refine (variorumref06_Kind.calls k1 ((rd_T43 l0 x4_1).f0) ((rd_T43 l0 x4_1).f1) ((rd_T43 l0 x4_1).f2) t174 _ A4.out).mono ?_); rintro e w9 ⟨rfl, hb⟩; refine ⟨_, rfl, ?_⟩; have n0_ := Aside0.mk (Kd.R_below (by (with_reducible repeat ((apply Kd.R_drew))); exact HO_3.out) hb); have n1_ := Aside0.mk (below_step (by repeat ((with_reducible (exact HB.out)))) hb); clear HO_3; clear HB; have HO_3 := n0_; have HB := n1_; clear n0_ n1_; (try clear hb); (try clear hb2); (try clear hk); (try clear hi)))
      go_roundg k1
      case measure => have := HK1.out; omega
      case rel => exact ⟨(x3_1), (wrap64 (x4_1 + 1)), (by (rfl)), H', ⟨by have := HK1.out; omega⟩, ⟨by (with_reducible repeat ((apply Kd.R_drew))); exact HO_3.out⟩, ⟨by repeat ((with_reducible (exact HB.out)))⟩⟩
    ·rw [if_neg c3] at H
     exact absurd H (by simp)
   ·rw [if_neg c2] at H
    have c2b0 : decide (x4_1 < (l0.length : Int)) = false := decide_eq_false c2
    clear c2
    replace H := Option.bind_eq_some_iff.mp H
    obtain ⟨⟨t179, t180, t181⟩, A100, H⟩ := H
    replace H : (if t181 = true then (variorumref06_Norm.l1 k1 x3_1 ([] : List (S43)) (⟨#[]⟩ : ByteArray) 0 0 0) else (some ([] : List (S43)))) = some r := H
    have A10 := Aside0.mk A100
    clear A100
    by_cases c11 : t181 = true
    ·subst c11
     have H1 : (variorumref06_Norm.l1 k1 x3_1 ([] : List (S43)) (⟨#[]⟩ : ByteArray) 0 0 0) = some r := by rw [if_pos rfl] at H; exact H
     clear H
     have H := H1
     clear H1
     have H' := Aside0.mk H
     clear H
     obtain ⟨Ao12, co12, eo12⟩ := Kd.R_slice HO_3.out
     subst eo12
     go_wp2_with (first | ((with_reducible refine gate_callee (f := 36) rfl ?_); refine goesL_ (some 34) rfl rfl Try.func36 (by kernel_rfl) rfl #[.slice Ao12 x3_1.length co12] rfl (by (try simp only [List.map_toArray, List.map_cons, List.map_nil]); (rfl)) ?_; (with_reducible refine (variorumref06_sums.calls k1 _ _ x3_1 t179 t180 true _ ?side1 ?side2 A10.out).mono ?_); (case side1 => repeat ((exact (Kd.R_reads' HO_3.out).2.2))); (case side2 => exact (Kd.R_reads' HO_3.out).2.1); rintro e w13 ⟨rfl, hb⟩; refine ⟨_, rfl, ?_⟩; have n0_ := Aside0.mk (Kd.R_below (by (with_reducible repeat ((apply Kd.R_drew))); exact HO_3.out) hb); have n1_ := Aside0.mk (below_step (by repeat ((with_reducible (exact HB.out)))) hb); clear HO_3; clear HB; have HO_3 := n0_; have HB := n1_; clear n0_ n1_; (try clear hb); (try clear hb2); (try clear hk); (try clear hi)))
     go_loopg [8, 9, 10, 11, 12] k1 (fun kq v8 v9 v10 v11 v12 w' => ∃ (x8_2 : List (S43)) (x9_2 : ByteArray) (x10_2 : Int) (x11_2 : Int) (x12_2 : Int), v9 = .string x9_2 ∧ v10 = .int .i64 x10_2 ∧ v11 = .int .i64 x11_2 ∧ v12 = .int .i64 x12_2 ∧ Aside0 (variorumref06_Norm.l1 kq x3_1 x8_2 x9_2 x10_2 x11_2 x12_2 = some r) ∧ Aside0 (kq ≤ k1) ∧ Aside0 (Kd.R k43 43 w' w.heap.size (fun k_ => some k_ ≠ (v8 : Value).ownBlock) (.slice Ao12 x3_1.length co12) x3_1) ∧ Aside0 (Kd.R k43 43 w' w.heap.size (fun k_ => some k_ ≠ ((.slice Ao12 x3_1.length co12) : Value).ownBlock) v8 x8_2) ∧ Aside0 (Below w.heap.size w w'))
     case atStart => exact ⟨(([] : List (S43))), ((⟨#[]⟩ : ByteArray)), (0), (0), (0), (by (rfl)), (by (rfl)), (by (rfl)), (by (rfl)), H', ⟨Nat.le_refl _⟩, ⟨by (with_reducible repeat ((apply Kd.R_drew))); exact Kd.R_mono HO_3.out (fun _ hk => (by simp [Value.ownBlock]))⟩, ⟨by (exact Kd.R_nil _ _ _ _ _)⟩, ⟨by repeat ((with_reducible (exact HB.out)))⟩⟩
     case round =>
      clear H'
      try clear c1
      try clear p1
      try clear q1
      try clear hx1
      try clear c2
      try clear c2b0
      try clear p2
      try clear c3
      try clear c3b0
      try clear c5
      try clear c5b0
      try clear c6
      try clear p6
      try clear c11
      try clear hx173_0
      try clear hx173_1
      try clear hx173_2
      try clear hx175_0
      try clear hx175_1
      try clear hx175_2
      try clear p173
      try clear p175
      try clear q173
      try clear q175
      obtain ⟨x8_2, x9_2, x10_2, x11_2, x12_2, rfl, rfl, rfl, rfl, HA, HK2, HO_3, HO_8, HB⟩ := hrel
      cases gk with
      | zero => exact absurd HA.out (by simp [variorumref06_Norm.l1])
      | succ k2 =>
       have H := HA.out
       clear HA
       simp only [variorumref06_Norm.l1] at H
       by_cases c14 : x12_2 ≤ (x3_1.length : Int)
       ·rw [if_pos c14] at H
        have c14b0 : decide (x12_2 ≤ (x3_1.length : Int)) = true := decide_eq_true c14
        clear c14
        have HC15 := Aside0.mk H
        clear H
        go_upto_region 17 with (fail)
        go_cut [57] (fun v57 wc => ∃ (kq : Nat) (x57_14 : Bool), v57 = .bool x57_14 ∧ Aside0 (variorumref06_Norm.j2 kq x3_1 x8_2 x9_2 x10_2 x11_2 x12_2 x57_14 = some r) ∧ Aside0 (kq ≤ k2) ∧ Aside0 (Kd.R k43 43 wc w.heap.size (fun k_ => some k_ ≠ (u8 : Value).ownBlock) (.slice Ao12 x3_1.length co12) x3_1) ∧ Aside0 (Kd.R k43 43 wc w.heap.size (fun k_ => some k_ ≠ ((.slice Ao12 x3_1.length co12) : Value).ownBlock) u8 x8_2) ∧ Aside0 (Below w.heap.size w wc))
        case first =>
         have H := HC15.out
         clear HC15
         by_cases c16 : x12_2 < (x3_1.length : Int)
         ·rw [if_pos c16] at H
          have c16b0 : decide (x12_2 < (x3_1.length : Int)) = true := decide_eq_true c16
          clear c16
          ((skip))
          by_cases c17 : 0 ≤ x12_2
          ·rw [if_pos c17] at H
           have c17b0 : decide (0 ≤ x12_2) = true := decide_eq_true c17
           clear c17
           replace H := Option.bind_eq_some_iff.mp H
           obtain ⟨t183, A180, H⟩ := H
           replace H : (variorumref06_Norm.j2 k2 x3_1 x8_2 x9_2 x10_2 x11_2 x12_2 (t183 == 1)) = some r := H
           have A18 := Aside0.mk A180
           clear A180
           have H' := Aside0.mk H
           clear H
           have p182 : 0 ≤ (x12_2 : Int) := of_decide_eq_true (by (with_reducible assumption))
           have q182 : x12_2 < (x3_1.length : Int) := of_decide_eq_true (by (with_reducible assumption))
           obtain ⟨ad182, e182, hx182_0, hx182_1, hx182_2⟩ := at_T43 (Kd.R_reads' HO_3.out).2.2 x12_2 p182 q182
           cases e182
           replace p182 := eq_true p182
           replace q182 := eq_true q182
           go_wp2_with (first | (go_at_call 35; (with_reducible refine (variorumref06_Kind.calls k2 ((rd_T43 x3_1 x12_2).f0) ((rd_T43 x3_1 x12_2).f1) ((rd_T43 x3_1 x12_2).f2) t183 _ A18.out).mono ?_); rintro e w19 ⟨rfl, hb⟩; have n0_ := Aside0.mk (Kd.R_below (by (with_reducible repeat ((apply Kd.R_drew))); exact HO_3.out) hb); have n1_ := Aside0.mk (Kd.R_below (by (with_reducible repeat ((apply Kd.R_drew))); exact HO_8.out) hb); have n2_ := Aside0.mk (below_step (by repeat ((with_reducible (exact HB.out)))) hb); clear HO_3; clear HO_8; clear HB; have HO_3 := n0_; have HO_8 := n1_; have HB := n2_; clear n0_ n1_ n2_; (try clear hb); (try clear hb2); (try clear hk); (try clear hi)))
           go_meet
           case rel => exact ⟨_, ((t183 == 1)), (by (rfl)), H', ⟨by have := HK1.out; have := HK2.out; (omega)⟩, ⟨by (with_reducible repeat ((apply Kd.R_drew))); exact HO_3.out⟩, ⟨by (with_reducible repeat ((apply Kd.R_drew))); exact HO_8.out⟩, ⟨by repeat ((with_reducible (exact HB.out)))⟩⟩
          ·rw [if_neg c17] at H
           exact absurd H (by simp)
         ·rw [if_neg c16] at H
          have c16b0 : decide (x12_2 < (x3_1.length : Int)) = false := decide_eq_false c16
          clear c16
          ((skip))
          have H' := Aside0.mk H
          clear H
          go_wp2
          go_meet
          case rel => exact ⟨_, (false), (by (rfl)), H', ⟨by have := HK1.out; have := HK2.out; (omega)⟩, ⟨by (with_reducible repeat ((apply Kd.R_drew))); exact HO_3.out⟩, ⟨by (with_reducible repeat ((apply Kd.R_drew))); exact HO_8.out⟩, ⟨by repeat ((with_reducible (exact HB.out)))⟩⟩
        case rest =>
         clear HC15
         try clear c1
         try clear p1
         try clear q1
         try clear hx1
         try clear c2
         try clear c2b0
         try clear p2
         try clear c3
         try clear c3b0
         try clear c5
         try clear c5b0
         try clear c6
         try clear p6
         try clear c11
         try clear c14
         try clear c14b0
         try clear c16
         try clear c16b0
         try clear c17
         try clear c17b0
         try clear p17
         try clear q17
         try clear hx17
         try clear p18
         try clear q18
         try clear hx18
         try clear hx173_0
         try clear hx173_1
         try clear hx173_2
         try clear hx175_0
         try clear hx175_1
         try clear hx175_2
         try clear hx182_0
         try clear hx182_1
         try clear hx182_2
         try clear p1
         try clear p173
         try clear p175
         try clear p182
         try clear p2
         try clear p6
         try clear q1
         try clear q173
         try clear q175
         try clear q182
         obtain ⟨kq, x57_14, rfl, HA, HJ14, HO_3, HO_8, HB⟩ := hcut
         cases kq with
         | zero => exact absurd HA.out (by simp [variorumref06_Norm.j2])
         | succ kj14 =>
          have H := HA.out
          clear HA
          simp only [variorumref06_Norm.j2] at H
          by_cases c20 : x57_14 = true
          ·subst c20
           have H1 : (if x9_2.toList = ([] : List UInt8) then (if x10_2 > 0 then (if x8_2.length < 4398046511104 then (if 0 ≤ x12_2 then (if x12_2 < (x3_1.length : Int) then (variorumref06_Norm.l1 kj14 x3_1 (x8_2 ++ [(⟨0, (⟨#[]⟩ : ByteArray), x10_2⟩ : S43)]) (⟨#[]⟩ : ByteArray) 0 (wrap64 (x11_2 + ((rd_T43 x3_1 x12_2).f0))) (wrap64 (x12_2 + 1))) else (none)) else (none)) else (none)) else (if 0 ≤ x12_2 then (if x12_2 < (x3_1.length : Int) then (variorumref06_Norm.l1 kj14 x3_1 x8_2 (⟨#[]⟩ : ByteArray) 0 (wrap64 (x11_2 + ((rd_T43 x3_1 x12_2).f0))) (wrap64 (x12_2 + 1))) else (none)) else (none))) else (if x8_2.length < 4398046511104 then ((some (x8_2 ++ [(⟨0, x9_2, 0⟩ : S43)] : List (S43))).bind fun y189 => (if x10_2 > 0 then (if y189.length < 4398046511104 then (if 0 ≤ x12_2 then (if x12_2 < (x3_1.length : Int) then (variorumref06_Norm.l1 kj14 x3_1 (y189 ++ [(⟨0, (⟨#[]⟩ : ByteArray), x10_2⟩ : S43)]) (⟨#[]⟩ : ByteArray) 0 (wrap64 (x11_2 + ((rd_T43 x3_1 x12_2).f0))) (wrap64 (x12_2 + 1))) else (none)) else (none)) else (none)) else (if 0 ≤ x12_2 then (if x12_2 < (x3_1.length : Int) then (variorumref06_Norm.l1 kj14 x3_1 y189 (⟨#[]⟩ : ByteArray) 0 (wrap64 (x11_2 + ((rd_T43 x3_1 x12_2).f0))) (wrap64 (x12_2 + 1))) else (none)) else (none)))) else (none))) = some r := by rw [if_pos rfl] at H; exact H
           clear H
           have H := H1
           clear H1
           by_cases c21 : x9_2.toList = ([] : List UInt8)
           ·rw [if_pos c21] at H
            have c21b0 : (x9_2.toList == ([] : List UInt8)) = true := beq_iff_eq.mpr c21
            have c21e : x9_2.toList.isEmpty = true := List.isEmpty_iff.mpr c21
            have c21b1 : (x9_2.toList != ([] : List UInt8)) = false := bne_eq_false_iff_eq.mpr c21
            clear c21
            by_cases c22 : x10_2 > 0
            ·rw [if_pos c22] at H
             have c22b0 : decide (0 < x10_2) = true := decide_eq_true c22
             clear c22
             by_cases c23 : x8_2.length < 4398046511104
             ·rw [if_pos c23] at H
              have LMc23 := Aside0.mk c23
              clear c23
              obtain ⟨y184, hy184⟩ : ∃ y_ : List (S43), y_ = (x8_2 ++ [(⟨0, (⟨#[]⟩ : ByteArray), x10_2⟩ : S43)]) := ⟨_, rfl⟩
              replace H : (if 0 ≤ x12_2 then (if x12_2 < (x3_1.length : Int) then (variorumref06_Norm.l1 kj14 x3_1 y184 (⟨#[]⟩ : ByteArray) 0 (wrap64 (x11_2 + ((rd_T43 x3_1 x12_2).f0))) (wrap64 (x12_2 + 1))) else (none)) else (none)) = some r := by (rw [hy184]; with_reducible exact H)
              have Ny184 := Aside0.mk hy184
              clear hy184
              by_cases c24 : 0 ≤ x12_2
              ·rw [if_pos c24] at H
               have c24b0 : decide (0 ≤ x12_2) = true := decide_eq_true c24
               clear c24
               by_cases c25 : x12_2 < (x3_1.length : Int)
               ·rw [if_pos c25] at H
                have c25b0 : decide (x12_2 < (x3_1.length : Int)) = true := decide_eq_true c25
                clear c25
                have H' := Aside0.mk H
                clear H
                go_wp2_with (first | ((with_reducible refine gate_builtin (b := .append) (xs := #[.tmp 67, .tmp 70]) rfl ?_); at_builtin; refine Kd.R_append k43 (w0 := w) w.heap.size rfl (.tmp 67) (.tmp 70) 22 43 (.agg #[(.int .i64 0), (.string ⟨#[]⟩), (.int .i64 0)]) 32 rfl Try.underlying22 info43 rfl (by decide) (by omega) u8 x8_2 (⟨0, (⟨#[]⟩ : ByteArray), x10_2⟩ : S43) [.int .i64 0, .string (⟨#[]⟩ : ByteArray), .int .i64 x10_2] (fun k_ => some k_ ≠ (.slice Ao12 x3_1.length co12 : Value).ownBlock) (fun _ => False) rfl rfl ?aP (fun _ hk => hk.elim) ?aF ?aO ?aB ?aS ?aL ?_; (case aP => exact k43_mkM _ _ _ (⟨0, (⟨#[]⟩ : ByteArray), x10_2⟩ : S43)); (case aB => exact (by repeat ((with_reducible (exact HB.out))))); (case aF => exact (fun k_ hk => Kd.fresh' (Kd.R_lt (by (with_reducible repeat ((apply Kd.R_drew))); exact HO_3.out)) k_ hk)); (case aO => exact (by (with_reducible repeat ((apply Kd.R_drew))); exact HO_8.out)); (case aS => exact (below_size (by repeat ((with_reducible (exact HB.out)))))); (case aL => have := LMc23.out; omega); intro v185 w26 ho hb hg hat; rw [← Ny184.out] at ho; have n0_ := Aside0.mk (Kd.R_after (ok := (fun _ => True)) (by (with_reducible repeat ((apply Kd.R_drew))); exact Kd.R_mono HO_3.out (fun _ hk => ⟨trivial, hk⟩)) hg hat); have n1_ := Aside0.mk (hb); have n2_ := Aside0.mk (ho); clear HO_3; clear HB; clear HO_8; have HO_3 := n0_; have HB := n1_; have HO186 := n2_; clear n0_ n1_ n2_; clear ho hb hg hat; have p187 : 0 ≤ (x12_2 : Int) := of_decide_eq_true (by (with_reducible assumption)); have q187 : x12_2 < (x3_1.length : Int) := of_decide_eq_true (by (with_reducible assumption)); obtain ⟨ad187, e187, hx187_0, hx187_1, hx187_2⟩ := at_T43 (Kd.R_reads' HO_3.out).2.2 x12_2 p187 q187; cases e187; replace p187 := eq_true p187; replace q187 := eq_true q187))
                go_roundg kj14
                case measure => have := HK1.out; have := HK2.out; have := HJ14.out; omega
                case rel => exact ⟨(y184), ((⟨#[]⟩ : ByteArray)), (0), (wrap64 (x11_2 + ((rd_T43 x3_1 x12_2).f0))), (wrap64 (x12_2 + 1)), (by (rfl)), (by (rfl)), (by (rfl)), (by (rfl)), H', ⟨by have := HK1.out; have := HK2.out; have := HJ14.out; omega⟩, ⟨by (with_reducible repeat ((apply Kd.R_drew))); exact Kd.R_mono HO_3.out (fun _ hk => hk.2)⟩, ⟨by (with_reducible repeat ((apply Kd.R_drew))); exact HO186.out⟩, ⟨by repeat ((with_reducible (exact HB.out)))⟩⟩
               ·rw [if_neg c25] at H
                exact absurd H (by simp)
              ·rw [if_neg c24] at H
               exact absurd H (by simp)
             ·rw [if_neg c23] at H
              exact absurd H (by simp)
            ·rw [if_neg c22] at H
             have c22b0 : decide (0 < x10_2) = false := decide_eq_false c22
             clear c22
             by_cases c27 : 0 ≤ x12_2
             ·rw [if_pos c27] at H
              have c27b0 : decide (0 ≤ x12_2) = true := decide_eq_true c27
              clear c27
              by_cases c28 : x12_2 < (x3_1.length : Int)
              ·rw [if_pos c28] at H
               have c28b0 : decide (x12_2 < (x3_1.length : Int)) = true := decide_eq_true c28
               clear c28
               have H' := Aside0.mk H
               clear H
               have p188 : 0 ≤ (x12_2 : Int) := of_decide_eq_true (by (with_reducible assumption))
               have q188 : x12_2 < (x3_1.length : Int) := of_decide_eq_true (by (with_reducible assumption))
               obtain ⟨ad188, e188, hx188_0, hx188_1, hx188_2⟩ := at_T43 (Kd.R_reads' HO_3.out).2.2 x12_2 p188 q188
               cases e188
               replace p188 := eq_true p188
               replace q188 := eq_true q188
               go_wp2
               go_roundg kj14
               case measure => have := HK1.out; have := HK2.out; have := HJ14.out; omega
               case rel => exact ⟨(x8_2), ((⟨#[]⟩ : ByteArray)), (0), (wrap64 (x11_2 + ((rd_T43 x3_1 x12_2).f0))), (wrap64 (x12_2 + 1)), (by (rfl)), (by (rfl)), (by (rfl)), (by (rfl)), H', ⟨by have := HK1.out; have := HK2.out; have := HJ14.out; omega⟩, ⟨by (with_reducible repeat ((apply Kd.R_drew))); exact HO_3.out⟩, ⟨by (with_reducible repeat ((apply Kd.R_drew))); exact HO_8.out⟩, ⟨by repeat ((with_reducible (exact HB.out)))⟩⟩
              ·rw [if_neg c28] at H
               exact absurd H (by simp)
             ·rw [if_neg c27] at H
              exact absurd H (by simp)
           ·rw [if_neg c21] at H
            have c21b0 : (x9_2.toList == ([] : List UInt8)) = false := beq_eq_false_iff_ne.mpr c21
            have c21e : x9_2.toList.isEmpty = false := List.isEmpty_eq_false_iff.mpr c21
            have c21b1 : (x9_2.toList != ([] : List UInt8)) = true := bne_iff_ne.mpr c21
            by_cases c29 : x8_2.length < 4398046511104
            ·rw [if_pos c29] at H
             have LMc29 := Aside0.mk c29
             clear c29
             obtain ⟨y189, hy189⟩ : ∃ y_ : List (S43), y_ = (x8_2 ++ [(⟨0, x9_2, 0⟩ : S43)]) := ⟨_, rfl⟩
             replace H : (if x10_2 > 0 then (if y189.length < 4398046511104 then (if 0 ≤ x12_2 then (if x12_2 < (x3_1.length : Int) then (variorumref06_Norm.l1 kj14 x3_1 (y189 ++ [(⟨0, (⟨#[]⟩ : ByteArray), x10_2⟩ : S43)]) (⟨#[]⟩ : ByteArray) 0 (wrap64 (x11_2 + ((rd_T43 x3_1 x12_2).f0))) (wrap64 (x12_2 + 1))) else (none)) else (none)) else (none)) else (if 0 ≤ x12_2 then (if x12_2 < (x3_1.length : Int) then (variorumref06_Norm.l1 kj14 x3_1 y189 (⟨#[]⟩ : ByteArray) 0 (wrap64 (x11_2 + ((rd_T43 x3_1 x12_2).f0))) (wrap64 (x12_2 + 1))) else (none)) else (none))) = some r := by (have H2_ := (Option.bind_some _ _).symm.trans H; rw [hy189]; with_reducible exact H2_)
             have Ny189 := Aside0.mk hy189
             clear hy189
             by_cases c30 : x10_2 > 0
             ·rw [if_pos c30] at H
              have c30b0 : decide (0 < x10_2) = true := decide_eq_true c30
              clear c30
              by_cases c31 : y189.length < 4398046511104
              ·rw [if_pos c31] at H
               have LMc31 := Aside0.mk c31
               clear c31
               obtain ⟨y192, hy192⟩ : ∃ y_ : List (S43), y_ = (y189 ++ [(⟨0, (⟨#[]⟩ : ByteArray), x10_2⟩ : S43)]) := ⟨_, rfl⟩
               replace H : (if 0 ≤ x12_2 then (if x12_2 < (x3_1.length : Int) then (variorumref06_Norm.l1 kj14 x3_1 y192 (⟨#[]⟩ : ByteArray) 0 (wrap64 (x11_2 + ((rd_T43 x3_1 x12_2).f0))) (wrap64 (x12_2 + 1))) else (none)) else (none)) = some r := by (rw [hy192]; with_reducible exact H)
               have Ny192 := Aside0.mk hy192
               clear hy192
               by_cases c32 : 0 ≤ x12_2
               ·rw [if_pos c32] at H
                have c32b0 : decide (0 ≤ x12_2) = true := decide_eq_true c32
                clear c32
                by_cases c33 : x12_2 < (x3_1.length : Int)
                ·rw [if_pos c33] at H
                 have c33b0 : decide (x12_2 < (x3_1.length : Int)) = true := decide_eq_true c33
                 clear c33
                 have H' := Aside0.mk H
                 clear H
                 go_wp2_with (first | ((with_reducible refine gate_builtin (b := .append) (xs := #[.tmp 60, .tmp 63]) rfl ?_); at_builtin; refine Kd.R_append k43 (w0 := w) w.heap.size rfl (.tmp 60) (.tmp 63) 22 43 (.agg #[(.int .i64 0), (.string ⟨#[]⟩), (.int .i64 0)]) 32 rfl Try.underlying22 info43 rfl (by decide) (by omega) u8 x8_2 (⟨0, x9_2, 0⟩ : S43) [.int .i64 0, .string x9_2, .int .i64 0] (fun k_ => some k_ ≠ (.slice Ao12 x3_1.length co12 : Value).ownBlock) (fun _ => False) rfl rfl ?aP (fun _ hk => hk.elim) ?aF ?aO ?aB ?aS ?aL ?_; (case aP => exact k43_mkM _ _ _ (⟨0, x9_2, 0⟩ : S43)); (case aB => exact (by repeat ((with_reducible (exact HB.out))))); (case aF => exact (fun k_ hk => Kd.fresh' (Kd.R_lt (by (with_reducible repeat ((apply Kd.R_drew))); exact HO_3.out)) k_ hk)); (case aO => exact (by (with_reducible repeat ((apply Kd.R_drew))); exact HO_8.out)); (case aS => exact (below_size (by repeat ((with_reducible (exact HB.out)))))); (case aL => have := LMc29.out; omega); intro v190 w34 ho hb hg hat; rw [← Ny189.out] at ho; have n0_ := Aside0.mk (Kd.R_after (ok := (fun _ => True)) (by (with_reducible repeat ((apply Kd.R_drew))); exact Kd.R_mono HO_3.out (fun _ hk => ⟨trivial, hk⟩)) hg hat); have n1_ := Aside0.mk (hb); have n2_ := Aside0.mk (ho); clear HO_3; clear HB; clear HO_8; have HO_3 := n0_; have HB := n1_; have HO191 := n2_; clear n0_ n1_ n2_; clear ho hb hg hat) | ((with_reducible refine gate_builtin (b := .append) (xs := #[.tmp 67, .tmp 70]) rfl ?_); at_builtin; refine Kd.R_append k43 (w0 := w) w.heap.size rfl (.tmp 67) (.tmp 70) 22 43 (.agg #[(.int .i64 0), (.string ⟨#[]⟩), (.int .i64 0)]) 32 rfl Try.underlying22 info43 rfl (by decide) (by omega) v190 y189 (⟨0, (⟨#[]⟩ : ByteArray), x10_2⟩ : S43) [.int .i64 0, .string (⟨#[]⟩ : ByteArray), .int .i64 x10_2] (fun k_ => some k_ ≠ (.slice Ao12 x3_1.length co12 : Value).ownBlock) (fun _ => False) rfl rfl ?aP (fun _ hk => hk.elim) ?aF ?aO ?aB ?aS ?aL ?_; (case aP => exact k43_mkM _ _ _ (⟨0, (⟨#[]⟩ : ByteArray), x10_2⟩ : S43)); (case aB => exact (by repeat ((with_reducible (exact HB.out))))); (case aF => exact (fun k_ hk => Kd.fresh' (Kd.R_lt (by (with_reducible repeat ((apply Kd.R_drew))); exact HO_3.out)) k_ hk)); (case aO => exact (by (with_reducible repeat ((apply Kd.R_drew))); exact HO191.out)); (case aS => exact (below_size (by repeat ((with_reducible (exact HB.out)))))); (case aL => have := LMc31.out; omega); intro v193 w35 ho hb hg hat; rw [← Ny192.out] at ho; have n0_ := Aside0.mk (Kd.R_after (ok := (fun _ => True)) (by (with_reducible repeat ((apply Kd.R_drew))); exact HO_3.out) hg hat); have n1_ := Aside0.mk (hb); have n2_ := Aside0.mk (ho); clear HO_3; clear HB; clear HO191; have HO_3 := n0_; have HB := n1_; have HO194 := n2_; clear n0_ n1_ n2_; clear ho hb hg hat; have p195 : 0 ≤ (x12_2 : Int) := of_decide_eq_true (by (with_reducible assumption)); have q195 : x12_2 < (x3_1.length : Int) := of_decide_eq_true (by (with_reducible assumption)); obtain ⟨ad195, e195, hx195_0, hx195_1, hx195_2⟩ := at_T43 (Kd.R_reads' HO_3.out).2.2 x12_2 p195 q195; cases e195; replace p195 := eq_true p195; replace q195 := eq_true q195))
                 go_roundg kj14
                 case measure => have := HK1.out; have := HK2.out; have := HJ14.out; omega
                 case rel => exact ⟨(y192), ((⟨#[]⟩ : ByteArray)), (0), (wrap64 (x11_2 + ((rd_T43 x3_1 x12_2).f0))), (wrap64 (x12_2 + 1)), (by (rfl)), (by (rfl)), (by (rfl)), (by (rfl)), H', ⟨by have := HK1.out; have := HK2.out; have := HJ14.out; omega⟩, ⟨by (with_reducible repeat ((apply Kd.R_drew))); exact Kd.R_mono HO_3.out (fun _ hk => hk.2)⟩, ⟨by (with_reducible repeat ((apply Kd.R_drew))); exact HO194.out⟩, ⟨by repeat ((with_reducible (exact HB.out)))⟩⟩
                ·rw [if_neg c33] at H
                 exact absurd H (by simp)
               ·rw [if_neg c32] at H
                exact absurd H (by simp)
              ·rw [if_neg c31] at H
               exact absurd H (by simp)
             ·rw [if_neg c30] at H
              have c30b0 : decide (0 < x10_2) = false := decide_eq_false c30
              clear c30
              by_cases c36 : 0 ≤ x12_2
              ·rw [if_pos c36] at H
               have c36b0 : decide (0 ≤ x12_2) = true := decide_eq_true c36
               clear c36
               by_cases c37 : x12_2 < (x3_1.length : Int)
               ·rw [if_pos c37] at H
                have c37b0 : decide (x12_2 < (x3_1.length : Int)) = true := decide_eq_true c37
                clear c37
                have H' := Aside0.mk H
                clear H
                go_wp2_with (first | ((with_reducible refine gate_builtin (b := .append) (xs := #[.tmp 60, .tmp 63]) rfl ?_); at_builtin; refine Kd.R_append k43 (w0 := w) w.heap.size rfl (.tmp 60) (.tmp 63) 22 43 (.agg #[(.int .i64 0), (.string ⟨#[]⟩), (.int .i64 0)]) 32 rfl Try.underlying22 info43 rfl (by decide) (by omega) u8 x8_2 (⟨0, x9_2, 0⟩ : S43) [.int .i64 0, .string x9_2, .int .i64 0] (fun k_ => some k_ ≠ (.slice Ao12 x3_1.length co12 : Value).ownBlock) (fun _ => False) rfl rfl ?aP (fun _ hk => hk.elim) ?aF ?aO ?aB ?aS ?aL ?_; (case aP => exact k43_mkM _ _ _ (⟨0, x9_2, 0⟩ : S43)); (case aB => exact (by repeat ((with_reducible (exact HB.out))))); (case aF => exact (fun k_ hk => Kd.fresh' (Kd.R_lt (by (with_reducible repeat ((apply Kd.R_drew))); exact HO_3.out)) k_ hk)); (case aO => exact (by (with_reducible repeat ((apply Kd.R_drew))); exact HO_8.out)); (case aS => exact (below_size (by repeat ((with_reducible (exact HB.out)))))); (case aL => have := LMc29.out; omega); intro v190 w38 ho hb hg hat; rw [← Ny189.out] at ho; have n0_ := Aside0.mk (Kd.R_after (ok := (fun _ => True)) (by (with_reducible repeat ((apply Kd.R_drew))); exact Kd.R_mono HO_3.out (fun _ hk => ⟨trivial, hk⟩)) hg hat); have n1_ := Aside0.mk (hb); have n2_ := Aside0.mk (ho); clear HO_3; clear HB; clear HO_8; have HO_3 := n0_; have HB := n1_; have HO191 := n2_; clear n0_ n1_ n2_; clear ho hb hg hat; have p196 : 0 ≤ (x12_2 : Int) := of_decide_eq_true (by (with_reducible assumption)); have q196 : x12_2 < (x3_1.length : Int) := of_decide_eq_true (by (with_reducible assumption)); obtain ⟨ad196, e196, hx196_0, hx196_1, hx196_2⟩ := at_T43 (Kd.R_reads' HO_3.out).2.2 x12_2 p196 q196; cases e196; replace p196 := eq_true p196; replace q196 := eq_true q196))
                go_roundg kj14
                case measure => have := HK1.out; have := HK2.out; have := HJ14.out; omega
                case rel => exact ⟨(y189), ((⟨#[]⟩ : ByteArray)), (0), (wrap64 (x11_2 + ((rd_T43 x3_1 x12_2).f0))), (wrap64 (x12_2 + 1)), (by (rfl)), (by (rfl)), (by (rfl)), (by (rfl)), H', ⟨by have := HK1.out; have := HK2.out; have := HJ14.out; omega⟩, ⟨by (with_reducible repeat ((apply Kd.R_drew))); exact Kd.R_mono HO_3.out (fun _ hk => hk.2)⟩, ⟨by (with_reducible repeat ((apply Kd.R_drew))); exact HO191.out⟩, ⟨by repeat ((with_reducible (exact HB.out)))⟩⟩
               ·rw [if_neg c37] at H
                exact absurd H (by simp)
              ·rw [if_neg c36] at H
               exact absurd H (by simp)
            ·rw [if_neg c29] at H
             exact absurd H (by simp)
          ·replace c20 := Bool.eq_false_iff.mpr c20
           subst c20
           have H1 : (if x11_2 > 0 then (if x8_2.length < 4398046511104 then ((some (x8_2 ++ [(⟨x11_2, (⟨#[]⟩ : ByteArray), 0⟩ : S43)] : List (S43))).bind fun y197 => (if x12_2 < (x3_1.length : Int) then (if 0 ≤ x12_2 then (if x9_2.size + ((rd_T43 x3_1 x12_2).f1).size ≤ 9223372036854775807 then (variorumref06_Norm.l1 kj14 x3_1 y197 (x9_2 ++ ((rd_T43 x3_1 x12_2).f1)) (wrap64 (x10_2 + ((rd_T43 x3_1 x12_2).f2))) 0 (wrap64 (x12_2 + 1))) else (none)) else (none)) else (variorumref06_Norm.l1 kj14 x3_1 y197 x9_2 x10_2 0 (wrap64 (x12_2 + 1))))) else (none)) else (if x12_2 < (x3_1.length : Int) then (if 0 ≤ x12_2 then (if x9_2.size + ((rd_T43 x3_1 x12_2).f1).size ≤ 9223372036854775807 then (variorumref06_Norm.l1 kj14 x3_1 x8_2 (x9_2 ++ ((rd_T43 x3_1 x12_2).f1)) (wrap64 (x10_2 + ((rd_T43 x3_1 x12_2).f2))) 0 (wrap64 (x12_2 + 1))) else (none)) else (none)) else (variorumref06_Norm.l1 kj14 x3_1 x8_2 x9_2 x10_2 0 (wrap64 (x12_2 + 1))))) = some r := by rw [if_neg (show ¬ (false = true) by decide)] at H; exact H
           clear H
           have H := H1
           clear H1
           by_cases c39 : x11_2 > 0
           ·rw [if_pos c39] at H
            have c39b0 : decide (0 < x11_2) = true := decide_eq_true c39
            clear c39
            by_cases c40 : x8_2.length < 4398046511104
            ·rw [if_pos c40] at H
             have LMc40 := Aside0.mk c40
             clear c40
             obtain ⟨y197, hy197⟩ : ∃ y_ : List (S43), y_ = (x8_2 ++ [(⟨x11_2, (⟨#[]⟩ : ByteArray), 0⟩ : S43)]) := ⟨_, rfl⟩
             replace H : (if x12_2 < (x3_1.length : Int) then (if 0 ≤ x12_2 then (if x9_2.size + ((rd_T43 x3_1 x12_2).f1).size ≤ 9223372036854775807 then (variorumref06_Norm.l1 kj14 x3_1 y197 (x9_2 ++ ((rd_T43 x3_1 x12_2).f1)) (wrap64 (x10_2 + ((rd_T43 x3_1 x12_2).f2))) 0 (wrap64 (x12_2 + 1))) else (none)) else (none)) else (variorumref06_Norm.l1 kj14 x3_1 y197 x9_2 x10_2 0 (wrap64 (x12_2 + 1)))) = some r := by (have H2_ := (Option.bind_some _ _).symm.trans H; rw [hy197]; with_reducible exact H2_)
             have Ny197 := Aside0.mk hy197
             clear hy197
             by_cases c41 : x12_2 < (x3_1.length : Int)
             ·rw [if_pos c41] at H
              have c41b0 : decide (x12_2 < (x3_1.length : Int)) = true := decide_eq_true c41
              clear c41
              by_cases c42 : 0 ≤ x12_2
              ·rw [if_pos c42] at H
               have c42b0 : decide (0 ≤ x12_2) = true := decide_eq_true c42
               clear c42
               by_cases c43 : x9_2.size + ((rd_T43 x3_1 x12_2).f1).size ≤ 9223372036854775807
               ·rw [if_pos c43] at H
                have c43b0 := eq_true c43
                have c43b1 : decide (x9_2.size + ((rd_T43 x3_1 x12_2).f1).size ≤ 9223372036854775807) = true := decide_eq_true c43
                try have c43b2 : (9223372036854775807 < x9_2.size + ((rd_T43 x3_1 x12_2).f1).size) = False := eq_false (Nat.not_lt.2 c43)
                have H' := Aside0.mk H
                clear H
                go_wp2_with (first | ((with_reducible refine gate_builtin (b := .append) (xs := #[.tmp 81, .tmp 84]) rfl ?_); at_builtin; refine Kd.R_append k43 (w0 := w) w.heap.size rfl (.tmp 81) (.tmp 84) 22 43 (.agg #[(.int .i64 0), (.string ⟨#[]⟩), (.int .i64 0)]) 32 rfl Try.underlying22 info43 rfl (by decide) (by omega) u8 x8_2 (⟨x11_2, (⟨#[]⟩ : ByteArray), 0⟩ : S43) [.int .i64 x11_2, .string (⟨#[]⟩ : ByteArray), .int .i64 0] (fun k_ => some k_ ≠ (.slice Ao12 x3_1.length co12 : Value).ownBlock) (fun _ => False) rfl rfl ?aP (fun _ hk => hk.elim) ?aF ?aO ?aB ?aS ?aL ?_; (case aP => exact k43_mkM _ _ _ (⟨x11_2, (⟨#[]⟩ : ByteArray), 0⟩ : S43)); (case aB => exact (by repeat ((with_reducible (exact HB.out))))); (case aF => exact (fun k_ hk => Kd.fresh' (Kd.R_lt (by (with_reducible repeat ((apply Kd.R_drew))); exact HO_3.out)) k_ hk)); (case aO => exact (by (with_reducible repeat ((apply Kd.R_drew))); exact HO_8.out)); (case aS => exact (below_size (by repeat ((with_reducible (exact HB.out)))))); (case aL => have := LMc40.out; omega); intro v198 w44 ho hb hg hat; rw [← Ny197.out] at ho; have n0_ := Aside0.mk (Kd.R_after (ok := (fun _ => True)) (by (with_reducible repeat ((apply Kd.R_drew))); exact Kd.R_mono HO_3.out (fun _ hk => ⟨trivial, hk⟩)) hg hat); have n1_ := Aside0.mk (hb); have n2_ := Aside0.mk (ho); clear HO_3; clear HB; clear HO_8; have HO_3 := n0_; have HB := n1_; have HO199 := n2_; clear n0_ n1_ n2_; clear ho hb hg hat; have p200 : 0 ≤ (x12_2 : Int) := of_decide_eq_true (by (with_reducible assumption)); have q200 : x12_2 < (x3_1.length : Int) := of_decide_eq_true (by (with_reducible assumption)); obtain ⟨ad200, e200, hx200_0, hx200_1, hx200_2⟩ := at_T43 (Kd.R_reads' HO_3.out).2.2 x12_2 p200 q200; cases e200; replace p200 := eq_true p200; replace q200 := eq_true q200; have p201 : 0 ≤ (x12_2 : Int) := of_decide_eq_true (by (with_reducible assumption)); have q201 : x12_2 < (x3_1.length : Int) := of_decide_eq_true (by (with_reducible assumption)); obtain ⟨ad201, e201, hx201_0, hx201_1, hx201_2⟩ := at_T43 (Kd.R_reads' HO_3.out).2.2 x12_2 p201 q201; obtain rfl : ad200 = ad201 := (by injection e201); replace p201 := eq_true p201; replace q201 := eq_true q201))
                go_roundg kj14
                case measure => have := HK1.out; have := HK2.out; have := HJ14.out; omega
                case rel => exact ⟨(y197), (x9_2 ++ ((rd_T43 x3_1 x12_2).f1)), (wrap64 (x10_2 + ((rd_T43 x3_1 x12_2).f2))), (0), (wrap64 (x12_2 + 1)), (by (rfl)), (by (rfl)), (by (rfl)), (by (rfl)), H', ⟨by have := HK1.out; have := HK2.out; have := HJ14.out; omega⟩, ⟨by (with_reducible repeat ((apply Kd.R_drew))); exact Kd.R_mono HO_3.out (fun _ hk => hk.2)⟩, ⟨by (with_reducible repeat ((apply Kd.R_drew))); exact HO199.out⟩, ⟨by repeat ((with_reducible (exact HB.out)))⟩⟩
               ·rw [if_neg c43] at H
                exact absurd H (by simp)
              ·rw [if_neg c42] at H
               exact absurd H (by simp)
             ·rw [if_neg c41] at H
              have c41b0 : decide (x12_2 < (x3_1.length : Int)) = false := decide_eq_false c41
              clear c41
              have H' := Aside0.mk H
              clear H
              go_wp2_with (first | ((with_reducible refine gate_builtin (b := .append) (xs := #[.tmp 81, .tmp 84]) rfl ?_); at_builtin; refine Kd.R_append k43 (w0 := w) w.heap.size rfl (.tmp 81) (.tmp 84) 22 43 (.agg #[(.int .i64 0), (.string ⟨#[]⟩), (.int .i64 0)]) 32 rfl Try.underlying22 info43 rfl (by decide) (by omega) u8 x8_2 (⟨x11_2, (⟨#[]⟩ : ByteArray), 0⟩ : S43) [.int .i64 x11_2, .string (⟨#[]⟩ : ByteArray), .int .i64 0] (fun k_ => some k_ ≠ (.slice Ao12 x3_1.length co12 : Value).ownBlock) (fun _ => False) rfl rfl ?aP (fun _ hk => hk.elim) ?aF ?aO ?aB ?aS ?aL ?_; (case aP => exact k43_mkM _ _ _ (⟨x11_2, (⟨#[]⟩ : ByteArray), 0⟩ : S43)); (case aB => exact (by repeat ((with_reducible (exact HB.out))))); (case aF => exact (fun k_ hk => Kd.fresh' (Kd.R_lt (by (with_reducible repeat ((apply Kd.R_drew))); exact HO_3.out)) k_ hk)); (case aO => exact (by (with_reducible repeat ((apply Kd.R_drew))); exact HO_8.out)); (case aS => exact (below_size (by repeat ((with_reducible (exact HB.out)))))); (case aL => have := LMc40.out; omega); intro v198 w45 ho hb hg hat; rw [← Ny197.out] at ho; have n0_ := Aside0.mk (Kd.R_after (ok := (fun _ => True)) (by (with_reducible repeat ((apply Kd.R_drew))); exact Kd.R_mono HO_3.out (fun _ hk => ⟨trivial, hk⟩)) hg hat); have n1_ := Aside0.mk (hb); have n2_ := Aside0.mk (ho); clear HO_3; clear HB; clear HO_8; have HO_3 := n0_; have HB := n1_; have HO199 := n2_; clear n0_ n1_ n2_; clear ho hb hg hat))
              go_roundg kj14
              case measure => have := HK1.out; have := HK2.out; have := HJ14.out; omega
              case rel => exact ⟨(y197), (x9_2), (x10_2), (0), (wrap64 (x12_2 + 1)), (by (rfl)), (by (rfl)), (by (rfl)), (by (rfl)), H', ⟨by have := HK1.out; have := HK2.out; have := HJ14.out; omega⟩, ⟨by (with_reducible repeat ((apply Kd.R_drew))); exact Kd.R_mono HO_3.out (fun _ hk => hk.2)⟩, ⟨by (with_reducible repeat ((apply Kd.R_drew))); exact HO199.out⟩, ⟨by repeat ((with_reducible (exact HB.out)))⟩⟩
            ·rw [if_neg c40] at H
             exact absurd H (by simp)
           ·rw [if_neg c39] at H
            have c39b0 : decide (0 < x11_2) = false := decide_eq_false c39
            clear c39
            by_cases c46 : x12_2 < (x3_1.length : Int)
            ·rw [if_pos c46] at H
             have c46b0 : decide (x12_2 < (x3_1.length : Int)) = true := decide_eq_true c46
             clear c46
             by_cases c47 : 0 ≤ x12_2
             ·rw [if_pos c47] at H
              have c47b0 : decide (0 ≤ x12_2) = true := decide_eq_true c47
              clear c47
              by_cases c48 : x9_2.size + ((rd_T43 x3_1 x12_2).f1).size ≤ 9223372036854775807
              ·rw [if_pos c48] at H
               have c48b0 := eq_true c48
               have c48b1 : decide (x9_2.size + ((rd_T43 x3_1 x12_2).f1).size ≤ 9223372036854775807) = true := decide_eq_true c48
               try have c48b2 : (9223372036854775807 < x9_2.size + ((rd_T43 x3_1 x12_2).f1).size) = False := eq_false (Nat.not_lt.2 c48)
               have H' := Aside0.mk H
               clear H
               have p202 : 0 ≤ (x12_2 : Int) := of_decide_eq_true (by (with_reducible assumption))
               have q202 : x12_2 < (x3_1.length : Int) := of_decide_eq_true (by (with_reducible assumption))
               obtain ⟨ad202, e202, hx202_0, hx202_1, hx202_2⟩ := at_T43 (Kd.R_reads' HO_3.out).2.2 x12_2 p202 q202
               cases e202
               replace p202 := eq_true p202
               replace q202 := eq_true q202
               have p203 : 0 ≤ (x12_2 : Int) := of_decide_eq_true (by (with_reducible assumption))
               have q203 : x12_2 < (x3_1.length : Int) := of_decide_eq_true (by (with_reducible assumption))
               obtain ⟨ad203, e203, hx203_0, hx203_1, hx203_2⟩ := at_T43 (Kd.R_reads' HO_3.out).2.2 x12_2 p203 q203
               obtain rfl : ad202 = ad203 := (by injection e203)
               replace p203 := eq_true p203
               replace q203 := eq_true q203
               go_wp2
               go_roundg kj14
               case measure => have := HK1.out; have := HK2.out; have := HJ14.out; omega
               case rel => exact ⟨(x8_2), (x9_2 ++ ((rd_T43 x3_1 x12_2).f1)), (wrap64 (x10_2 + ((rd_T43 x3_1 x12_2).f2))), (0), (wrap64 (x12_2 + 1)), (by (rfl)), (by (rfl)), (by (rfl)), (by (rfl)), H', ⟨by have := HK1.out; have := HK2.out; have := HJ14.out; omega⟩, ⟨by (with_reducible repeat ((apply Kd.R_drew))); exact HO_3.out⟩, ⟨by (with_reducible repeat ((apply Kd.R_drew))); exact HO_8.out⟩, ⟨by repeat ((with_reducible (exact HB.out)))⟩⟩
              ·rw [if_neg c48] at H
               exact absurd H (by simp)
             ·rw [if_neg c47] at H
              exact absurd H (by simp)
            ·rw [if_neg c46] at H
             have c46b0 : decide (x12_2 < (x3_1.length : Int)) = false := decide_eq_false c46
             clear c46
             have H' := Aside0.mk H
             clear H
             go_wp2
             go_roundg kj14
             case measure => have := HK1.out; have := HK2.out; have := HJ14.out; omega
             case rel => exact ⟨(x8_2), (x9_2), (x10_2), (0), (wrap64 (x12_2 + 1)), (by (rfl)), (by (rfl)), (by (rfl)), (by (rfl)), H', ⟨by have := HK1.out; have := HK2.out; have := HJ14.out; omega⟩, ⟨by (with_reducible repeat ((apply Kd.R_drew))); exact HO_3.out⟩, ⟨by (with_reducible repeat ((apply Kd.R_drew))); exact HO_8.out⟩, ⟨by repeat ((with_reducible (exact HB.out)))⟩⟩
       ·rw [if_neg c14] at H
        have c14b0 : decide (x12_2 ≤ (x3_1.length : Int)) = false := decide_eq_false c14
        clear c14
        have HC49 := Aside0.mk H
        clear H
        go_upto_if 105 with (fail)
        go_cut [8] (fun v8 wc => ∃ (kq : Nat) (x8_48 : List (S43)), Aside0 (variorumref06_Norm.j3 kq x8_48 x10_2 = some r) ∧ Aside0 (kq ≤ k2) ∧ Aside0 (Kd.R k43 43 wc w.heap.size (fun _ => True) v8 x8_48) ∧ Aside0 (Below w.heap.size w wc))
        case first =>
         have H := HC49.out
         clear HC49
         by_cases c50 : x9_2.toList = ([] : List UInt8)
         ·rw [if_pos c50] at H
          have c50b0 : (x9_2.toList == ([] : List UInt8)) = true := beq_iff_eq.mpr c50
          have c50e : x9_2.toList.isEmpty = true := List.isEmpty_iff.mpr c50
          have c50b1 : (x9_2.toList != ([] : List UInt8)) = false := bne_eq_false_iff_eq.mpr c50
          clear c50
          ((rw [c50e]; simp only [Bool.not_true, Bool.not_false]))
          have H' := Aside0.mk H
          clear H
          go_wp2
          go_meet
          case rel => exact ⟨_, (x8_2), H', ⟨by have := HK1.out; have := HK2.out; (omega)⟩, ⟨by (with_reducible repeat ((apply Kd.R_drew))); exact Kd.R_mono HO_8.out (fun _ hk => trivial)⟩, ⟨by repeat ((with_reducible (exact HB.out)))⟩⟩
         ·rw [if_neg c50] at H
          have c50b0 : (x9_2.toList == ([] : List UInt8)) = false := beq_eq_false_iff_ne.mpr c50
          have c50e : x9_2.toList.isEmpty = false := List.isEmpty_eq_false_iff.mpr c50
          have c50b1 : (x9_2.toList != ([] : List UInt8)) = true := bne_iff_ne.mpr c50
          ((rw [c50e]; simp only [Bool.not_true, Bool.not_false]))
          by_cases c51 : x8_2.length < 4398046511104
          ·rw [if_pos c51] at H
           have LMc51 := Aside0.mk c51
           clear c51
           obtain ⟨y204, hy204⟩ : ∃ y_ : List (S43), y_ = (x8_2 ++ [(⟨0, x9_2, 0⟩ : S43)]) := ⟨_, rfl⟩
           replace H : (variorumref06_Norm.j3 k2 y204 x10_2) = some r := by (rw [hy204]; with_reducible exact H)
           have Ny204 := Aside0.mk hy204
           clear hy204
           have H' := Aside0.mk H
           clear H
           go_wp2_with (first | ((with_reducible refine gate_builtin (b := .append) (xs := #[.tmp 106, .tmp 109]) rfl ?_); at_builtin; refine Kd.R_append k43 (w0 := w) w.heap.size rfl (.tmp 106) (.tmp 109) 22 43 (.agg #[(.int .i64 0), (.string ⟨#[]⟩), (.int .i64 0)]) 32 rfl Try.underlying22 info43 rfl (by decide) (by omega) u8 x8_2 (⟨0, x9_2, 0⟩ : S43) [.int .i64 0, .string x9_2, .int .i64 0] (fun k_ => some k_ ≠ (.slice Ao12 x3_1.length co12 : Value).ownBlock) (fun _ => False) rfl rfl ?aP (fun _ hk => hk.elim) ?aF ?aO ?aB ?aS ?aL ?_; (case aP => exact k43_mkM _ _ _ (⟨0, x9_2, 0⟩ : S43)); (case aB => exact (by repeat ((with_reducible (exact HB.out))))); (case aF => exact (fun k_ hk => Kd.fresh' (Kd.R_lt (by (with_reducible repeat ((apply Kd.R_drew))); exact HO_3.out)) k_ hk)); (case aO => exact (by (with_reducible repeat ((apply Kd.R_drew))); exact HO_8.out)); (case aS => exact (below_size (by repeat ((with_reducible (exact HB.out)))))); (case aL => have := LMc51.out; omega); intro v205 w52 ho hb hg hat; rw [← Ny204.out] at ho; have n0_ := Aside0.mk (Kd.R_after (ok := (fun _ => True)) (by (with_reducible repeat ((apply Kd.R_drew))); exact Kd.R_mono HO_3.out (fun _ hk => ⟨trivial, hk⟩)) hg hat); have n1_ := Aside0.mk (hb); have n2_ := Aside0.mk (ho); clear HO_3; clear HB; clear HO_8; have HO_3 := n0_; have HB := n1_; have HO206 := n2_; clear n0_ n1_ n2_; clear ho hb hg hat))
           go_meet
           case rel => exact ⟨_, (y204), H', ⟨by have := HK1.out; have := HK2.out; (omega)⟩, ⟨by (with_reducible repeat ((apply Kd.R_drew))); exact Kd.R_mono HO206.out (fun _ hk => trivial)⟩, ⟨by repeat ((with_reducible (exact HB.out)))⟩⟩
          ·rw [if_neg c51] at H
           exact absurd H (by simp)
        case rest =>
         clear HC49
         try clear c1
         try clear p1
         try clear q1
         try clear hx1
         try clear c2
         try clear c2b0
         try clear p2
         try clear q2
         try clear hx2
         try clear c3
         try clear c3b0
         try clear c4
         try clear c5
         try clear c5b0
         try clear c6
         try clear p6
         try clear c11
         try clear c14
         try clear c14b0
         try clear c16
         try clear c16b0
         try clear c17
         try clear c17b0
         try clear p17
         try clear q17
         try clear hx17
         try clear p18
         try clear q18
         try clear hx18
         try clear p19
         try clear q19
         try clear hx19
         try clear c20
         try clear p20
         try clear q20
         try clear hx20
         try clear c21
         try clear c21b0
         try clear c21b1
         try clear c22
         try clear c22b0
         try clear c23
         try clear c24
         try clear c24b0
         try clear c25
         try clear c25b0
         try clear c27
         try clear c27b0
         try clear c28
         try clear c28b0
         try clear c29
         try clear c30
         try clear c30b0
         try clear c31
         try clear c32
         try clear c32b0
         try clear c33
         try clear c33b0
         try clear c35
         try clear c36
         try clear c36b0
         try clear c37
         try clear c37b0
         try clear c39
         try clear c39b0
         try clear c40
         try clear c41
         try clear c41b0
         try clear c42
         try clear c42b0
         try clear c43
         try clear c43b0
         try clear c43b1
         try clear c43b2
         try clear c46
         try clear c46b0
         try clear c47
         try clear c47b0
         try clear c48
         try clear c48b0
         try clear c48b1
         try clear c48b2
         try clear c50
         try clear c50b0
         try clear c50b1
         try clear c51
         try clear hx173_0
         try clear hx173_1
         try clear hx173_2
         try clear hx175_0
         try clear hx175_1
         try clear hx175_2
         try clear hx182_0
         try clear hx182_1
         try clear hx182_2
         try clear hx187_0
         try clear hx187_1
         try clear hx187_2
         try clear hx188_0
         try clear hx188_1
         try clear hx188_2
         try clear hx195_0
         try clear hx195_1
         try clear hx195_2
         try clear hx196_0
         try clear hx196_1
         try clear hx196_2
         try clear hx200_0
         try clear hx200_1
         try clear hx200_2
         try clear hx201_0
         try clear hx201_1
         try clear hx201_2
         try clear hx202_0
         try clear hx202_1
         try clear hx202_2
         try clear hx203_0
         try clear hx203_1
         try clear hx203_2
         try clear p1
         try clear p17
         try clear p173
         try clear p175
         try clear p18
         try clear p182
         try clear p187
         try clear p188
         try clear p195
         try clear p196
         try clear p2
         try clear p200
         try clear p201
         try clear p202
         try clear p203
         try clear p6
         try clear q1
         try clear q17
         try clear q173
         try clear q175
         try clear q18
         try clear q182
         try clear q187
         try clear q188
         try clear q195
         try clear q196
         try clear q200
         try clear q201
         try clear q202
         try clear q203
         obtain ⟨kq, x8_48, HA, HJ48, HO_8, HB⟩ := hcut
         cases kq with
         | zero => exact absurd HA.out (by simp [variorumref06_Norm.j3])
         | succ kj48 =>
          have H := HA.out
          clear HA
          simp only [variorumref06_Norm.j3] at H
          by_cases c53 : x10_2 > 0
          ·rw [if_pos c53] at H
           have c53b0 : decide (0 < x10_2) = true := decide_eq_true c53
           clear c53
           by_cases c54 : x8_48.length < 4398046511104
           ·rw [if_pos c54] at H
            have LMc54 := Aside0.mk c54
            clear c54
            obtain ⟨y207, hy207⟩ : ∃ y_ : List (S43), y_ = (x8_48 ++ [(⟨0, (⟨#[]⟩ : ByteArray), x10_2⟩ : S43)]) := ⟨_, rfl⟩
            replace H : ((variorumref06_Good.f y207).bind fun t210 => (if t210 = true then (some y207) else (some ([] : List (S43))))) = some r := by (have H2_ := (Option.bind_some _ _).symm.trans H; rw [hy207]; with_reducible exact H2_)
            have Ny207 := Aside0.mk hy207
            clear hy207
            replace H := Option.bind_eq_some_iff.mp H
            obtain ⟨t210, A550, H⟩ := H
            replace H : (if t210 = true then (some y207) else (some ([] : List (S43)))) = some r := H
            have A55 := Aside0.mk A550
            clear A550
            by_cases c56 : t210 = true
            ·subst c56
             have H1 : (some y207) = some r := by rw [if_pos rfl] at H; exact H
             clear H
             have H := H1
             clear H1
             obtain rfl := Option.some.inj H
             go_wp2_with (first | ((with_reducible refine gate_builtin (b := .append) (xs := #[.tmp 113, .tmp 116]) rfl ?_); at_builtin; refine Kd.R_append k43 (w0 := w) w.heap.size rfl (.tmp 113) (.tmp 116) 22 43 (.agg #[(.int .i64 0), (.string ⟨#[]⟩), (.int .i64 0)]) 32 rfl Try.underlying22 info43 rfl (by decide) (by omega) u8 x8_48 (⟨0, (⟨#[]⟩ : ByteArray), x10_2⟩ : S43) [.int .i64 0, .string (⟨#[]⟩ : ByteArray), .int .i64 x10_2] (fun _ => True) (fun _ => False) rfl rfl ?aP (fun _ hk => hk.elim) ?aF ?aO ?aB ?aS ?aL ?_; (case aP => exact k43_mkM _ _ _ (⟨0, (⟨#[]⟩ : ByteArray), x10_2⟩ : S43)); (case aB => exact (by repeat ((with_reducible (exact HB.out))))); (case aF => exact (fun _ _ => trivial)); (case aO => exact (by (with_reducible repeat ((apply Kd.R_drew))); exact HO_8.out)); (case aS => exact (below_size (by repeat ((with_reducible (exact HB.out)))))); (case aL => have := LMc54.out; omega); intro v208 w57 ho hb hg hat; rw [← Ny207.out] at ho; have n0_ := Aside0.mk (hb); have n1_ := Aside0.mk (ho); clear HB; clear HO_8; have HB := n0_; have HO209 := n1_; clear n0_ n1_; clear ho hb hg hat; obtain ⟨Ao58, co58, eo58⟩ := Kd.R_slice HO209.out; subst eo58) | ((with_reducible refine gate_callee (f := 20) rfl ?_); refine goesL_ (some 119) rfl rfl Try.func20 (by kernel_rfl) rfl #[.slice Ao58 y207.length co58] rfl (by (try simp only [List.map_toArray, List.map_cons, List.map_nil]); (rfl)) ?_; (with_reducible refine (variorumref06_Good.calls _ _ y207 true _ ?side1 ?side2 A55.out).mono ?_); (case side1 => repeat ((exact (Kd.R_reads' HO209.out).2.2))); (case side2 => exact (Kd.R_reads' HO209.out).2.1); rintro e w59 ⟨rfl, hb⟩; refine ⟨_, rfl, ?_⟩; have n0_ := Aside0.mk (Kd.R_below (by (with_reducible repeat ((apply Kd.R_drew))); exact HO209.out) hb); have n1_ := Aside0.mk (below_step (by repeat ((with_reducible (exact HB.out)))) hb); clear HO209; clear HB; have HO209 := n0_; have HB := n1_; clear n0_ n1_; (try clear hb); (try clear hb2); (try clear hk); (try clear hi)))
             go_ret
             exact ⟨_, by (rfl), by (with_reducible repeat ((apply Kd.R_drew))); exact HO209.out, by repeat ((with_reducible (exact HB.out)))⟩
            ·replace c56 := Bool.eq_false_iff.mpr c56
             subst c56
             have H1 : (some ([] : List (S43))) = some r := by rw [if_neg (show ¬ (false = true) by decide)] at H; exact H
             clear H
             have H := H1
             clear H1
             obtain rfl := Option.some.inj H
             go_wp2_with (first | ((with_reducible refine gate_builtin (b := .append) (xs := #[.tmp 113, .tmp 116]) rfl ?_); at_builtin; refine Kd.R_append k43 (w0 := w) w.heap.size rfl (.tmp 113) (.tmp 116) 22 43 (.agg #[(.int .i64 0), (.string ⟨#[]⟩), (.int .i64 0)]) 32 rfl Try.underlying22 info43 rfl (by decide) (by omega) u8 x8_48 (⟨0, (⟨#[]⟩ : ByteArray), x10_2⟩ : S43) [.int .i64 0, .string (⟨#[]⟩ : ByteArray), .int .i64 x10_2] (fun _ => True) (fun _ => False) rfl rfl ?aP (fun _ hk => hk.elim) ?aF ?aO ?aB ?aS ?aL ?_; (case aP => exact k43_mkM _ _ _ (⟨0, (⟨#[]⟩ : ByteArray), x10_2⟩ : S43)); (case aB => exact (by repeat ((with_reducible (exact HB.out))))); (case aF => exact (fun _ _ => trivial)); (case aO => exact (by (with_reducible repeat ((apply Kd.R_drew))); exact HO_8.out)); (case aS => exact (below_size (by repeat ((with_reducible (exact HB.out)))))); (case aL => have := LMc54.out; omega); intro v208 w60 ho hb hg hat; rw [← Ny207.out] at ho; have n0_ := Aside0.mk (hb); have n1_ := Aside0.mk (ho); clear HB; clear HO_8; have HB := n0_; have HO209 := n1_; clear n0_ n1_; clear ho hb hg hat; obtain ⟨Ao61, co61, eo61⟩ := Kd.R_slice HO209.out; subst eo61) | ((with_reducible refine gate_callee (f := 20) rfl ?_); refine goesL_ (some 119) rfl rfl Try.func20 (by kernel_rfl) rfl #[.slice Ao61 y207.length co61] rfl (by (try simp only [List.map_toArray, List.map_cons, List.map_nil]); (rfl)) ?_; (with_reducible refine (variorumref06_Good.calls _ _ y207 false _ ?side1 ?side2 A55.out).mono ?_); (case side1 => repeat ((exact (Kd.R_reads' HO209.out).2.2))); (case side2 => exact (Kd.R_reads' HO209.out).2.1); rintro e w62 ⟨rfl, hb⟩; refine ⟨_, rfl, ?_⟩; have n0_ := Aside0.mk (Kd.R_below (by (with_reducible repeat ((apply Kd.R_drew))); exact HO209.out) hb); have n1_ := Aside0.mk (below_step (by repeat ((with_reducible (exact HB.out)))) hb); clear HO209; clear HB; have HO209 := n0_; have HB := n1_; clear n0_ n1_; (try clear hb); (try clear hb2); (try clear hk); (try clear hi)))
             go_ret
             exact ⟨_, by (rfl), by (exact Kd.R_nil _ _ _ _ _), by repeat ((with_reducible (exact HB.out)))⟩
           ·rw [if_neg c54] at H
            exact absurd H (by simp)
          ·rw [if_neg c53] at H
           have c53b0 : decide (0 < x10_2) = false := decide_eq_false c53
           clear c53
           replace H := Option.bind_eq_some_iff.mp H
           obtain ⟨t211, A630, H⟩ := H
           replace H : (if t211 = true then (some x8_48) else (some ([] : List (S43)))) = some r := H
           have A63 := Aside0.mk A630
           clear A630
           by_cases c64 : t211 = true
           ·subst c64
            have H1 : (some x8_48) = some r := by rw [if_pos rfl] at H; exact H
            clear H
            have H := H1
            clear H1
            obtain rfl := Option.some.inj H
            obtain ⟨Ao65, co65, eo65⟩ := Kd.R_slice HO_8.out
            subst eo65
            go_wp2_with (first | ((with_reducible refine gate_callee (f := 20) rfl ?_); refine goesL_ (some 119) rfl rfl Try.func20 (by kernel_rfl) rfl #[.slice Ao65 x8_48.length co65] rfl (by (try simp only [List.map_toArray, List.map_cons, List.map_nil]); (rfl)) ?_; (with_reducible refine (variorumref06_Good.calls _ _ x8_48 true _ ?side1 ?side2 A63.out).mono ?_); (case side1 => repeat ((exact (Kd.R_reads' HO_8.out).2.2))); (case side2 => exact (Kd.R_reads' HO_8.out).2.1); rintro e w66 ⟨rfl, hb⟩; refine ⟨_, rfl, ?_⟩; have n0_ := Aside0.mk (Kd.R_below (by (with_reducible repeat ((apply Kd.R_drew))); exact HO_8.out) hb); have n1_ := Aside0.mk (below_step (by repeat ((with_reducible (exact HB.out)))) hb); clear HO_8; clear HB; have HO_8 := n0_; have HB := n1_; clear n0_ n1_; (try clear hb); (try clear hb2); (try clear hk); (try clear hi)))
            go_ret
            exact ⟨_, by (rfl), by (with_reducible repeat ((apply Kd.R_drew))); exact HO_8.out, by repeat ((with_reducible (exact HB.out)))⟩
           ·replace c64 := Bool.eq_false_iff.mpr c64
            subst c64
            have H1 : (some ([] : List (S43))) = some r := by rw [if_neg (show ¬ (false = true) by decide)] at H; exact H
            clear H
            have H := H1
            clear H1
            obtain rfl := Option.some.inj H
            obtain ⟨Ao67, co67, eo67⟩ := Kd.R_slice HO_8.out
            subst eo67
            go_wp2_with (first | ((with_reducible refine gate_callee (f := 20) rfl ?_); refine goesL_ (some 119) rfl rfl Try.func20 (by kernel_rfl) rfl #[.slice Ao67 x8_48.length co67] rfl (by (try simp only [List.map_toArray, List.map_cons, List.map_nil]); (rfl)) ?_; (with_reducible refine (variorumref06_Good.calls _ _ x8_48 false _ ?side1 ?side2 A63.out).mono ?_); (case side1 => repeat ((exact (Kd.R_reads' HO_8.out).2.2))); (case side2 => exact (Kd.R_reads' HO_8.out).2.1); rintro e w68 ⟨rfl, hb⟩; refine ⟨_, rfl, ?_⟩; have n0_ := Aside0.mk (Kd.R_below (by (with_reducible repeat ((apply Kd.R_drew))); exact HO_8.out) hb); have n1_ := Aside0.mk (below_step (by repeat ((with_reducible (exact HB.out)))) hb); clear HO_8; clear HB; have HO_8 := n0_; have HB := n1_; clear n0_ n1_; (try clear hb); (try clear hb2); (try clear hk); (try clear hi)))
            go_ret
            exact ⟨_, by (rfl), by (exact Kd.R_nil _ _ _ _ _), by repeat ((with_reducible (exact HB.out)))⟩
    ·replace c11 := Bool.eq_false_iff.mpr c11
     subst c11
     have H1 : (some ([] : List (S43))) = some r := by rw [if_neg (show ¬ (false = true) by decide)] at H; exact H
     clear H
     have H := H1
     clear H1
     obtain rfl := Option.some.inj H
     obtain ⟨Ao69, co69, eo69⟩ := Kd.R_slice HO_3.out
     subst eo69
     go_wp2_with (first | ((with_reducible refine gate_callee (f := 36) rfl ?_); refine goesL_ (some 34) rfl rfl Try.func36 (by kernel_rfl) rfl #[.slice Ao69 x3_1.length co69] rfl (by (try simp only [List.map_toArray, List.map_cons, List.map_nil]); (rfl)) ?_; (with_reducible refine (variorumref06_sums.calls k1 _ _ x3_1 t179 t180 false _ ?side1 ?side2 A10.out).mono ?_); (case side1 => repeat ((exact (Kd.R_reads' HO_3.out).2.2))); (case side2 => exact (Kd.R_reads' HO_3.out).2.1); rintro e w70 ⟨rfl, hb⟩; refine ⟨_, rfl, ?_⟩; have n0_ := Aside0.mk (Kd.R_below (by (with_reducible repeat ((apply Kd.R_drew))); exact HO_3.out) hb); have n1_ := Aside0.mk (below_step (by repeat ((with_reducible (exact HB.out)))) hb); clear HO_3; clear HB; have HO_3 := n0_; have HB := n1_; clear n0_ n1_; (try clear hb); (try clear hb2); (try clear hk); (try clear hi)))
     go_ret
     exact ⟨_, by (rfl), by (exact Kd.R_nil _ _ _ _ _), by repeat ((with_reducible (exact HB.out)))⟩
end Go.Proofs.Ytbfdplmgefcogaa.P
end
-- MERGED YtbfdplmgefcogaaEditH
section

namespace Go.Proofs.Ytbfdplmgefcogaa.EditH
open Go.RowKit Go.Proofs.Ytbfdplmgefcogaa.P Go.Proofs.YtbfdplmgefcogaaW.PrintWords Go.Proofs.YtbfdplmgefcogaaW.PrintLast Go.Proofs.YtbfdplmgefcogaaW.PrintMore Go.Proofs.Ytbfdplmgefcogaa.EditL Go.Proofs.Ytbfdplmgefcogaa.EditK Go.Proofs.Ytbfdplmgefcogaa.EditF Go.Proofs.Ytbfdplmgefcogaa.EditG
set_option linter.unusedSimpArgs false
set_option linter.unusedVariables false
theorem rgood_f {l : List Rn} (hb : l.length ≤ 140737488351232) : variorumref06_Good.f l = some (good l) := by unfold variorumref06_Good.f; rw [if_pos hb]
theorem rin_f {l : List Rn} (hb : l.length ≤ 140737488351232) (k : Nat) (hk : l.length < k) : variorumref06_In.f k l = some (if good l then inL l else 0) := by
 unfold variorumref06_In.f
 rw [rgood_f hb, Option.bind_some]
 cases h : good l with
 | false => rfl
 | true =>
  obtain ⟨_, _, h2, h3⟩ := good_ok h
  rw [if_pos rfl, rsums_f hb h3 k hk, Option.bind_some, h2]; rfl
theorem rout_f {l : List Rn} (hb : l.length ≤ 140737488351232) (k : Nat) (hk : l.length < k) : variorumref06_Out.f k l = some (if good l then outL l else 0) := by
 unfold variorumref06_Out.f
 rw [rgood_f hb, Option.bind_some]
 cases h : good l with
 | false => rfl
 | true =>
  obtain ⟨_, _, h2, h3⟩ := good_ok h
  rw [if_pos rfl, rsums_f hb h3 k hk, Option.bind_some, h2]; rfl
theorem rkind_k (r : Rn) {k : Nat} (hk : 2 ≤ k) : variorumref06_Kind.f k r.f0 r.f1 r.f2 = some (knd r) := by
 obtain ⟨k, rfl⟩ : ∃ m, k = m + 2 := ⟨k - 2, by omega⟩
 exact rkind_f r k
def fin (o : List Rn) : List Rn := if good o then o else []
theorem fin_bind (o : List Rn) (ho : o.length ≤ 140737488351232) : ((variorumref06_Good.f o).bind fun t => if t = true then some o else some []) = some (fin o) := by
 rw [rgood_f ho, Option.bind_some]
 unfold fin
 split <;> rfl
theorem j3_f (k : Nat) (o : List Rn) (d : Int) (hk : 1 ≤ k) (ho : o.length ≤ 4000000000000) : variorumref06_Norm.j3 k o d = some (fin (o ++ (if 0 < d then [⟨0, E, d⟩] else []))) := by
 obtain ⟨k, rfl⟩ : ∃ m, k = m + 1 := ⟨k - 1, by omega⟩
 simp only [variorumref06_Norm.j3]
 by_cases h : d > 0
 ·rw [if_pos h, if_pos (show 0 < d from h), if_pos (by omega), Option.bind_some]
  exact fin_bind _ (by simp; omega)
 ·rw [if_neg h, if_neg (show ¬ 0 < d from h), List.append_nil]
  exact fin_bind _ (by omega)
theorem l1_end (f : List Rn) (hf : f.length ≤ 4000000) (k : Nat) (o : List Rn) (a : ByteArray) (d : Int) (hk : 2 ≤ k) (ho : o.length ≤ 3000000000000) :
  variorumref06_Norm.l1 k f o a d 0 ((f.length : Int) + 1) = some (fin (o ++ fl 0 a d)) := by
 obtain ⟨k, rfl⟩ : ∃ m, k = m + 1 := ⟨k - 1, by omega⟩
 simp only [variorumref06_Norm.l1]
 rw [if_neg (by omega)]
 by_cases h : a.size = 0
 ·rw [if_pos (tl_nil.2 h), j3_f k o d (by omega) (by omega)]
  unfold fl
  rw [if_neg (show ¬ (0 : Int) < 0 by decide), if_neg (show ¬ a.size ≠ 0 from fun h2 => h2 h)]
  rfl
 ·rw [if_neg (fun h2 => h (tl_nil.1 h2)), if_pos (by omega), j3_f k _ d (by omega) (by simp; omega)]
  unfold fl
  rw [if_neg (show ¬ (0 : Int) < 0 by decide), if_pos h, List.append_assoc]
  rfl
theorem jn_keep (l : List Rn) (h : ∀ r ∈ l, knd r ≠ 0) : ∀ (k : Int) (a : ByteArray) (d : Int), 0 ≤ k → 0 ≤ d → (a.size ≠ 0 ∨ 0 < d) → jn l k a d = (if 0 < k then [⟨k, E, 0⟩] else []) ++ jn l 0 a d := by
 have hfl : ∀ (k : Int) (a : ByteArray) (d : Int), fl k a d = (if 0 < k then [⟨k, E, 0⟩] else []) ++ fl 0 a d := fun k a d => by
  show _ = _ ++ ((if (0 : Int) < 0 then _ else _) ++ _)
  rw [if_neg (show ¬ (0 : Int) < 0 by decide)]; rfl
 induction l with
 | nil => intro k a d _ _ _; exact hfl k a d
 | cons r l ih =>
  intro k a d hk hd hp
  have h2 : ∀ x ∈ l, knd x ≠ 0 := fun x hx => h x (List.mem_cons_of_mem _ hx)
  have hpos := knd_pos (h r List.mem_cons_self)
  by_cases c : knd r = 1
  ·rw [jn_flush c hp, jn_flush c hp, hfl k a d, List.append_assoc]
  ·have h0 : r.f0 = 0 := by
    rcases knd_three (h r List.mem_cons_self) with c2 | c2 | c2
    ·exact absurd c2 c
    ·exact (run_eq2 c2).2.1
    ·exact (run_eq3 c2).2.1
   rw [jn_on (fun h => c h.1), jn_on (fun h => c h.1), h0, Int.add_zero, Int.add_zero]
   refine ih h2 k _ _ hk (by omega) ?_
   rw [size_add]
   omega
set_option maxHeartbeats 4000000 in
theorem l1_f (f : List Rn) (hf : ∀ r ∈ f, knd r ≠ 0) (hl : f.length ≤ 4000000) : ∀ (suf pre : List Rn) (k : Nat) (o : List Rn) (a : ByteArray) (d kp : Int), f = pre ++ suf → 2 * suf.length + 8 ≤ k → (kp = 0 ∨ (a.size = 0 ∧ d = 0)) → 0 ≤ kp → 0 ≤ d →
  kp + d + inL suf ≤ 16777216 → kp + (a.size : Int) + outL suf ≤ 16777216 → o.length + 3 * suf.length ≤ 2000000000000 → variorumref06_Norm.l1 k f o a d kp (pre.length : Int) = some (fin (o ++ jn suf kp a d)) := by
 intro suf
 induction suf with
 | nil =>
  intro pre k o a d kp hfe hk hst hkp hd hi ho hol
  have hpl : f.length = pre.length := by rw [hfe]; simp
  obtain ⟨k, rfl⟩ : ∃ m, k = m + 2 := ⟨k - 2, by simp at hk; omega⟩
  have hend := fun (o' : List Rn) (h : o'.length ≤ 3000000000000) => l1_end f hl k o' a d (by simp at hk; omega) h
  simp only [variorumref06_Norm.l1]
  rw [if_pos (by omega), if_neg (by omega)]
  simp only [variorumref06_Norm.j2]
  rw [if_neg (by simp)]
  rw [w64 (x := (pre.length : Int) + 1) (by omega) (by omega), show (pre.length : Int) + 1 = (f.length : Int) + 1 by omega]
  by_cases h : kp > 0
  ·rw [if_pos h, if_pos (by simp at hol; omega), Option.bind_some, if_neg (by omega), hend _ (by simp at hol ⊢; omega)]
   show _ = some (fin (o ++ fl kp a d))
   rw [List.append_assoc]
   unfold fl
   rw [if_pos (show 0 < kp from h), if_neg (show ¬ (0 : Int) < 0 by decide)]
   rfl
  ·obtain rfl : kp = 0 := by omega
   rw [if_neg h, if_neg (by omega), hend _ (by simp at hol; omega)]
   rfl
 | cons r suf ih =>
  intro pre k o a d kp hfe hk hst hkp hd hi ho hol
  obtain ⟨k, rfl⟩ : ∃ m, k = m + 2 := ⟨k - 2, by simp at hk; omega⟩
  obtain ⟨hl2, hn, hlt⟩ := snoc hfe
  have hne := hf r (by rw [hfe]; simp)
  have hsuf : ∀ x ∈ suf, knd x ≠ 0 := fun x hx => hf x (by rw [hfe]; simp [hx])
  have hp := knd_pos hne
  have hs := inL_nonneg hsuf
  have hz := rd_at hfe
  simp only [inL, outL] at hi ho
  have next := fun o' a' d' kp' => ih (pre ++ [r]) k o' a' d' kp' hl2 (by simp at hk; omega)
  rw [hn] at next
  simp only [List.length_cons] at hol hk
  simp only [variorumref06_Norm.l1]
  rw [if_pos (by omega), if_pos hlt, if_pos (by omega), hz, rkind_k r (by omega), Option.bind_some]
  simp only [variorumref06_Norm.j2]
  rw [hz, w64 (x := (pre.length : Int) + 1) (by omega) (by omega)]
  rcases knd_three hne with c | c | c
  ·obtain ⟨e, e0, e1, e2⟩ := run_eq c
   rw [c, if_pos (show ((1 : Int) == 1) = true from rfl)]
   have hE : r.f1 = (⟨#[]⟩ : ByteArray) := e1
   have hr1 : (r.f1.size : Int) = 0 := by rw [e1]; rfl
   by_cases ha : a.size = 0
   ·obtain rfl : a = E := eq_E ha
    rw [if_pos (tl_nil.2 ha)]
    by_cases hdp : d > 0
    ·rw [if_pos hdp, if_pos (by omega), if_pos (by omega), if_pos hlt]
     have hk0 : kp = 0 := by omega
     subst hk0
     rw [w64 (x := 0 + r.f0) (by omega) (by omega), Int.zero_add, next _ _ _ _ (.inr ⟨rfl, rfl⟩) (by omega) (by omega) (by omega) (by show _ + ((E.size : Nat) : Int) + _ ≤ _; rw [E_size]; omega) (by simp; omega), jn_flush c (.inr hdp), e1, e2, List.append_assoc]
     unfold fl
     rw [if_neg (show ¬ (0 : Int) < 0 by decide), if_neg (show ¬ E.size ≠ 0 by decide), if_pos (show 0 < d from hdp)]
     rfl
    ·obtain rfl : d = 0 := by omega
     rw [if_neg hdp, if_pos (by omega), if_pos hlt, w64 (x := kp + r.f0) (by omega) (by omega), next _ _ _ _ (.inr ⟨rfl, rfl⟩) (by omega) (by omega) (by omega) (by show _ + ((E.size : Nat) : Int) + _ ≤ _; rw [E_size]; rw [E_size] at ho; omega) (by omega),
      jn_on (fun h => h.2.elim (fun h => h rfl) (fun h => absurd h (by decide))), e1, e2, E_add]
     rfl
   ·have hk0 : kp = 0 := by omega
    subst hk0
    rw [if_neg (fun h2 => ha (tl_nil.1 h2)), if_pos (by omega), Option.bind_some, w64 (x := 0 + r.f0) (by omega) (by omega), Int.zero_add, jn_flush c (.inl ha), e1, e2]
    by_cases hdp : d > 0
    ·rw [if_pos hdp, if_pos (by simp; omega), if_pos (by omega), if_pos hlt, next _ _ _ _ (.inr ⟨rfl, rfl⟩) (by omega) (by omega) (by omega) (by show _ + ((E.size : Nat) : Int) + _ ≤ _; rw [E_size]; omega) (by simp; omega)]
     unfold fl
     rw [if_neg (show ¬ (0 : Int) < 0 by decide), if_pos ha, if_pos (show 0 < d from hdp)]
     simp [E]
    ·obtain rfl : d = 0 := by omega
     rw [if_neg hdp, if_pos (by omega), if_pos hlt, next _ _ _ _ (.inr ⟨rfl, rfl⟩) (by omega) (by omega) (by omega) (by show _ + ((E.size : Nat) : Int) + _ ≤ _; rw [E_size]; omega) (by simp; omega)]
     unfold fl
     rw [if_neg (show ¬ (0 : Int) < 0 by decide), if_pos ha]
     simp [E]
  all_goals
   have c1 : ((knd r == 1) = true) = False := by rw [c]; simp
   have hr0 : r.f0 = 0 := by first | exact (run_eq2 c).2.1 | exact (run_eq3 c).2.1
   have hr2 : (r.f1.size : Int) + r.f2 > 0 := by
    first
    | (have := (run_eq2 c).2.2.1; have := (run_eq2 c).2.2.2; omega)
    | (have := (run_eq3 c).2.2.2; have h9 := (run_eq3 c).2.2.1; rw [h9, E_size]; omega)
   rw [if_neg (by rw [c1]; exact id)]
   have hnew : (a ++ r.f1).size ≠ 0 ∨ 0 < d + r.f2 := by rw [size_add]; omega
   have hon : jn (r :: suf) kp a d = (if 0 < kp then [⟨kp, E, 0⟩] else []) ++ jn suf 0 (a ++ r.f1) (d + r.f2) := by
    rw [jn_on (fun h => by rw [c] at h; exact absurd h.1 (by decide)), hr0, Int.add_zero]
    exact jn_keep suf hsuf kp _ _ hkp (by omega) hnew
   have hgo := fun o' h => next o' (a ++ r.f1) (d + r.f2) 0 (.inl rfl) (by decide) (by omega) (by omega) (by rw [size_add]; omega) h
   rw [hon, w64 (x := d + r.f2) (by omega) (by omega)]
   by_cases h : kp > 0
   ·rw [if_pos h, if_pos (by omega), Option.bind_some, if_pos hlt, if_pos (by omega), if_pos (by omega), hgo _ (by simp; omega), if_pos (show 0 < kp from h), List.append_assoc]
    rfl
   ·rw [if_neg h, if_pos hlt, if_pos (by omega), if_pos (by omega), hgo _ (by omega), if_neg (show ¬ 0 < kp from h)]
    rfl
theorem l0_f (l : List Rn) (hl : l.length ≤ 4000000) : ∀ (suf pre : List Rn) (k : Nat), l = pre ++ suf → suf.length + 2 * l.length + 12 ≤ k → variorumref06_Norm.l0 k l (fine pre) (pre.length : Int) = some (norm l) := by
 intro suf
 induction suf with
 | nil =>
  intro pre k hfe hk
  obtain rfl : l = pre := by rw [hfe]; simp
  obtain ⟨k, rfl⟩ : ∃ m, k = m + 1 := ⟨k - 1, by simp at hk; omega⟩
  have hfl := fine_len l
  simp only [List.length_nil] at hk
  simp only [variorumref06_Norm.l0]
  rw [if_neg (by omega), rsums_f (by omega) (fine_ok l) k (by omega), Option.bind_some]
  unfold norm
  cases h : fits (fine l) 0 0 with
  | false => rfl
  | true =>
   have hs := (fits_iff (fine_ok l) 0 0 (by decide) (by decide)).1 h
   have := l1_f (fine l) (fine_ok l) (by omega) (fine l) [] k [] E 0 0 rfl (by omega) (.inl rfl) (by decide) (by decide) (by omega) (by rw [E_size]; omega) (by simp; omega)
   rw [show ((([] : List Rn).length : Nat) : Int) = 0 from rfl] at this
   simp only [cond_true, if_true]
   exact this
 | cons r suf ih =>
  intro pre k hfe hk
  obtain ⟨k, rfl⟩ : ∃ m, k = m + 1 := ⟨k - 1, by simp at hk; omega⟩
  obtain ⟨hl2, hn, hlt⟩ := snoc hfe
  simp only [List.length_cons] at hk
  have next := ih (pre ++ [r]) k hl2 (by omega)
  rw [hn, fine_append] at next
  have hpl := fine_len pre
  simp only [variorumref06_Norm.l0]
  rw [if_pos hlt, if_pos (by omega), rd_at hfe, rkind_k r (by omega), Option.bind_some, w64 (x := (pre.length : Int) + 1) (by omega) (by omega)]
  by_cases c : knd r = 0
  ·have hfr : fine [r] = [] := by rw [fine_cons, if_neg (fun h => h c)]; rfl
   rw [hfr, List.append_nil] at next
   rw [c, if_neg (by decide), next]
  ·have hfr : fine [r] = [r] := by rw [fine_cons, if_pos c]; rfl
   rw [hfr] at next
   rw [if_pos (by rcases knd_three c with h | h | h <;> omega), if_pos (by omega)]
   exact next
theorem rnorm_f {l : List Rn} (hl : l.length ≤ 4000000) (k : Nat) (hk : 3 * l.length + 12 ≤ k) : variorumref06_Norm.f k l = some (norm l) := by
 unfold variorumref06_Norm.f
 exact l0_f l hl l [] k rfl (by omega)
theorem norm_f {l : List Rn} (hl : l.length ≤ 4000000) : edit_Norm.f l = some (norm l) := by unfold edit_Norm.f; rw [if_pos hl]
theorem tl_inj {a b : ByteArray} (h : a.toList = b.toList) : a = b := by
 rw [ByteArray.toList_eq, ByteArray.toList_eq] at h
 obtain ⟨⟨x⟩⟩ := a
 obtain ⟨⟨y⟩⟩ := b
 have : x = y := h
 rw [this]
theorem run_ne {x y : Rn} : (!(x.f0 == y.f0) || (!(x.f1.toList == y.f1.toList) || (!(x.f2 == y.f2)))) = true ↔ x ≠ y := by
 rw [Bool.or_eq_true, Bool.or_eq_true, Bool.not_eq_true', Bool.not_eq_true', Bool.not_eq_true', beq_eq_false_iff_ne, beq_eq_false_iff_ne, beq_eq_false_iff_ne]
 obtain ⟨a, b, c⟩ := x
 obtain ⟨a', b', c'⟩ := y
 simp only
 constructor
 ·rintro h e
  injection e with e1 e2 e3
  subst e1; subst e2; subst e3
  rcases h with h | h | h <;> exact h rfl
 ·intro h
  by_cases h1 : a = a'
  ·by_cases h3 : c = c'
   ·refine .inr (.inl fun e => h ?_)
    rw [h1, h3, tl_inj e]
   ·exact .inr (.inr h3)
  ·exact .inl h1
theorem same_l (x y : List Rn) (hx : x.length ≤ 140737488351232) : ∀ (s t pre pre' : List Rn) (k : Nat), x = pre ++ s → y = pre' ++ t → pre.length = pre'.length → s.length = t.length → s.length < k →
  ∃ b, variorumref06_Same.l0 k x y (pre.length : Int) = some b ∧ (b = true ↔ s = t) := by
 intro s
 induction s with
 | nil =>
  intro t pre pre' k hxe hye hpp hst hk
  obtain ⟨k, rfl⟩ : ∃ m, k = m + 1 := ⟨k - 1, by omega⟩
  obtain rfl : t = [] := List.eq_nil_of_length_eq_zero hst.symm
  have : x.length = pre.length := by rw [hxe]; simp
  simp only [variorumref06_Same.l0]
  rw [if_neg (by omega)]
  exact ⟨true, rfl, by simp⟩
 | cons r s ih =>
  intro t pre pre' k hxe hye hpp hst hk
  obtain ⟨k, rfl⟩ : ∃ m, k = m + 1 := ⟨k - 1, by omega⟩
  cases t with
  | nil => simp at hst
  | cons q t =>
   obtain ⟨hl2, hn, hlt⟩ := snoc hxe
   obtain ⟨hl2', hn', hlt'⟩ := snoc hye
   obtain ⟨b, hb, hb2⟩ := ih t (pre ++ [r]) (pre' ++ [q]) k hl2 hl2' (by simp [hpp]) (by simpa using hst) (by simp at hk; omega)
   rw [hn] at hb
   simp only [variorumref06_Same.l0]
   rw [if_pos hlt, if_pos (by omega), if_pos (by omega), rd_at hxe, w64 (x := (pre.length : Int) + 1) (by omega) (by omega), hb]
   have e2 : rd_T43 y (pre.length : Int) = q := by rw [hpp]; exact rd_at hye
   rw [e2]
   by_cases h : r = q
   ·rw [if_neg (fun h2 => run_ne.1 h2 h)]
    exact ⟨b, rfl, by rw [hb2]; simp [h]⟩
   ·rw [if_pos (run_ne.2 h)]
    exact ⟨false, rfl, by simp [h]⟩
theorem same_f {x y : List Rn} (hx : x.length ≤ 140737488351232) (k : Nat) (hk : x.length < k) : ∃ b, variorumref06_Same.f k x y = some b ∧ (b = true ↔ x = y) := by
 unfold variorumref06_Same.f
 by_cases h : x.length = y.length
 ·rw [if_pos (by omega)]
  exact same_l x y hx x y [] [] k rfl rfl rfl h hk
 ·rw [if_neg (by omega)]
  exact ⟨false, rfl, by simp; intro e; exact h (by rw [e])⟩
theorem same_eq (x : List Rn) (hx : x.length ≤ 140737488351232) (k : Nat) (hk : x.length < k) : variorumref06_Same.f k x x = some true := by
 obtain ⟨b, h1, h2⟩ := same_f (y := x) hx k hk
 rw [h1, h2.2 rfl]
end Go.Proofs.Ytbfdplmgefcogaa.EditH
end
-- MERGED YtbfdplmgefcogaaComposeU
section

namespace Go.Proofs.Ytbfdplmgefcogaa.ComposeU
open Go.RowKit Go.Proofs.Ytbfdplmgefcogaa.P Go.Proofs.Ytbfdplmgefcogaa.EditL Go.Proofs.Ytbfdplmgefcogaa.EditK Go.Proofs.Ytbfdplmgefcogaa.EditG Go.Proofs.Ytbfdplmgefcogaa.RunA Go.Proofs.Ytbfdplmgefcogaa.RunL Go.Proofs.Ytbfdplmgefcogaa.ComposeL
set_option linter.unusedSimpArgs false
set_option linter.unusedVariables false
def uk : Rn := ⟨1, E, 0⟩
def ud : Rn := ⟨0, E, 1⟩
def ua (s : ByteArray) (i : Nat) : Rn := ⟨0, s.extract i (i + 1), 0⟩
def us1 (r : Rn) : List Rn := List.replicate r.f0.toNat uk ++ ((List.range' 0 r.f1.size).map (ua r.f1) ++ List.replicate r.f2.toNat ud)
def us : List Rn → List Rn
 | [] => []
 | r :: l => us1 r ++ us l
theorem uk_k : knd uk = 1 := knd_keep (by decide)
theorem ud_k : knd ud = 3 := knd_drop (by decide)
theorem ua_k {s : ByteArray} {i : Nat} (h : i < s.size) : knd (ua s i) = 2 := knd_add (by rw [ext_size]; omega)
theorem us1_keep {r : Rn} (h : knd r = 1) : us1 r = List.replicate r.f0.toNat uk := by
 have e := run_eq h
 unfold us1
 rw [e.2.2.1, e.2.2.2]; simp [E_size]
theorem us1_add {r : Rn} (h : knd r = 2) : us1 r = (List.range' 0 r.f1.size).map (ua r.f1) := by
 have e := run_eq2 h
 unfold us1
 rw [e.2.1, e.2.2.2]; simp
theorem us1_drop {r : Rn} (h : knd r = 3) : us1 r = List.replicate r.f2.toNat ud := by
 have e := run_eq3 h
 unfold us1
 rw [e.2.1, e.2.2.1]; simp [E_size]
theorem us_ok : ∀ (l : List Rn), (∀ r ∈ l, knd r ≠ 0) → ∀ r ∈ us l, knd r ≠ 0 := by
 intro l
 induction l with
 | nil => intro _ r hr; cases hr
 | cons x l ih =>
  intro h r hr
  rcases List.mem_append.1 (show r ∈ us1 x ++ us l from hr) with hr | hr
  ·rcases knd_three (h x List.mem_cons_self) with c | c | c
   ·rw [us1_keep c] at hr
    rw [List.eq_of_mem_replicate hr, uk_k]; decide
   ·rw [us1_add c] at hr
    obtain ⟨i, hi, rfl⟩ := List.mem_map.1 hr
    rw [ua_k (by have := List.mem_range'_1.1 hi; omega)]; decide
   ·rw [us1_drop c] at hr
    rw [List.eq_of_mem_replicate hr, ud_k]; decide
  ·exact ih (fun y hy => h y (List.mem_cons_of_mem _ hy)) r hr
theorem rep_keep (l : List Rn) : ∀ (m : Nat) (k : Int), jn (List.replicate m uk ++ l) k E 0 = jn l (k + m) E 0 := by
 intro m
 induction m with
 | zero => intro k; simp
 | succ m ih =>
  intro k
  show jn (uk :: (List.replicate m uk ++ l)) k E 0 = _
  rw [jn_on (by rintro ⟨_, h | h⟩; exact h rfl; omega)]
  show jn (List.replicate m uk ++ l) (k + 1) (E ++ E) (0 + 0) = _
  rw [E_add, Int.add_zero, ih, show k + 1 + (m : Int) = k + ((m + 1 : Nat) : Int) by omega]
theorem rep_drop (l : List Rn) (k : Int) (a : ByteArray) : ∀ (m : Nat) (d : Int), jn (List.replicate m ud ++ l) k a d = jn l k a (d + m) := by
 intro m
 induction m with
 | zero => intro d; simp
 | succ m ih =>
  intro d
  show jn (ud :: (List.replicate m ud ++ l)) k a d = _
  rw [jn_on (by rintro ⟨h, _⟩; rw [ud_k] at h; exact absurd h (by decide))]
  show jn (List.replicate m ud ++ l) (k + 0) (a ++ E) (d + 1) = _
  rw [add_E, Int.add_zero, ih, show d + 1 + (m : Int) = d + ((m + 1 : Nat) : Int) by omega]
theorem ext_snoc (s : ByteArray) (i : Nat) : s.extract 0 i ++ s.extract i (i + 1) = s.extract 0 (i + 1) := by
 apply L_inj
 rw [L_app, L_cut, L_cut, L_cut, List.drop_zero, Nat.sub_zero, Nat.sub_zero, Nat.add_sub_cancel_left, List.take_add]
theorem rep_add (l : List Rn) (k : Int) (a : ByteArray) (d : Int) (s : ByteArray) : ∀ (n i : Nat), i + n = s.size → jn ((List.range' i n).map (ua s) ++ l) k (a ++ s.extract 0 i) d = jn l k (a ++ s) d := by
 intro n
 induction n with
 | zero => intro i hi; rw [show i = s.size by omega, ext_all]; rfl
 | succ n ih =>
  intro i hi
  show jn (ua s i :: ((List.range' (i + 1) n).map (ua s) ++ l)) k (a ++ s.extract 0 i) d = _
  rw [jn_on (by rintro ⟨h, _⟩; rw [ua_k (by omega)] at h; exact absurd h (by decide))]
  show jn ((List.range' (i + 1) n).map (ua s) ++ l) (k + 0) (a ++ s.extract 0 i ++ s.extract i (i + 1)) (d + 0) = _
  rw [app_assoc, ext_snoc, Int.add_zero, Int.add_zero, ih (i + 1) (by omega)]
theorem jn_us : ∀ (l : List Rn), (∀ r ∈ l, knd r ≠ 0) → ∀ (k : Int) (a : ByteArray) (d : Int), 0 ≤ d → jn (us l) k a d = jn l k a d := by
 intro l
 induction l with
 | nil => intro _ k a d _; rfl
 | cons r l ih =>
  intro h k a d hd
  have ih := ih fun x hx => h x (List.mem_cons_of_mem _ hx)
  show jn (us1 r ++ us l) k a d = _
  rcases knd_three (h r List.mem_cons_self) with c | c | c
  ·have e := run_eq c
   rw [us1_keep c]
   by_cases hf : a.size ≠ 0 ∨ 0 < d
   ·obtain ⟨m, hm⟩ : ∃ m, r.f0.toNat = m + 1 := ⟨r.f0.toNat - 1, by omega⟩
    rw [jn_flush c hf, hm]
    show jn (uk :: (List.replicate m uk ++ us l)) k a d = _
    rw [jn_flush uk_k hf]
    show fl k a d ++ jn (List.replicate m uk ++ us l) 1 E 0 = _
    rw [rep_keep, ih _ _ _ (by omega), e.2.2.1, e.2.2.2, show 1 + (m : Int) = r.f0 by omega]
   ·have ha : a.size = 0 := Classical.byContradiction fun e => hf (.inl e)
    have hd0 : d = 0 := by have : ¬ 0 < d := fun e => hf (.inr e); omega
    obtain rfl := eq_E ha
    subst hd0
    rw [rep_keep, ih _ _ _ (by omega), jn_on (fun h => hf h.2), e.2.2.1, e.2.2.2, E_add, Int.add_zero, show ((r.f0.toNat : Nat) : Int) = r.f0 by omega]
  ·have e := run_eq2 c
   have := rep_add (us l) k a d r.f1 r.f1.size 0 (by omega)
   rw [ext_none, add_E] at this
   rw [us1_add c, this, ih _ _ _ hd, jn_on (by rw [c]; rintro ⟨h, _⟩; exact absurd h (by decide)), e.2.1, e.2.2.2, Int.add_zero, Int.add_zero]
  ·have e := run_eq3 c
   rw [us1_drop c, rep_drop, ih _ _ _ (by omega), jn_on (by rw [c]; rintro ⟨h, _⟩; exact absurd h (by decide)), e.2.1, e.2.2.1, add_E, Int.add_zero, show ((r.f2.toNat : Nat) : Int) = r.f2 by omega]
theorem sums_rep (r : Rn) : ∀ m : Nat, inL (List.replicate m r) = m * (r.f0 + r.f2) ∧ outL (List.replicate m r) = m * (r.f0 + (r.f1.size : Int)) := by
 intro m
 induction m with
 | zero => simp [inL, outL]
 | succ m ih =>
  rw [List.replicate_succ]
  simp only [inL, outL]
  rw [ih.1, ih.2]
  constructor
  ·rw [show ((m + 1 : Nat) : Int) = (m : Int) + 1 by omega, Int.add_mul, Int.one_mul]; omega
  ·rw [show ((m + 1 : Nat) : Int) = (m : Int) + 1 by omega, Int.add_mul, Int.one_mul]; omega
theorem sums_ua (s : ByteArray) : ∀ (n i : Nat), i + n = s.size → inL ((List.range' i n).map (ua s)) = 0 ∧ outL ((List.range' i n).map (ua s)) = (n : Int) := by
 intro n
 induction n with
 | zero => intro i _; exact ⟨rfl, rfl⟩
 | succ n ih =>
  intro i hi
  have := ih (i + 1) (by omega)
  show (0 + 0 + inL ((List.range' (i + 1) n).map (ua s))) = 0 ∧ 0 + (((s.extract i (i + 1)).size : Nat) : Int) + outL ((List.range' (i + 1) n).map (ua s)) = _
  rw [ext_size]; omega
theorem sums_us : ∀ (l : List Rn), (∀ r ∈ l, knd r ≠ 0) → inL (us l) = inL l ∧ outL (us l) = outL l := by
 intro l
 induction l with
 | nil => intro _; exact ⟨rfl, rfl⟩
 | cons r l ih =>
  intro h
  have ih := ih fun x hx => h x (List.mem_cons_of_mem _ hx)
  have e : us (r :: l) = us1 r ++ us l := rfl
  rw [e, inL_append, outL_append, ih.1, ih.2]
  simp only [inL, outL]
  rcases knd_three (h r List.mem_cons_self) with c | c | c
  ·have e := run_eq c
   have s := sums_rep uk r.f0.toNat
   rw [us1_keep c, s.1, s.2, e.2.2.1, e.2.2.2, E_size]
   show ((r.f0.toNat : Nat) : Int) * (1 + 0) + _ = _ ∧ ((r.f0.toNat : Nat) : Int) * (1 + (E.size : Int)) + _ = _
   rw [E_size]; omega
  ·have e := run_eq2 c
   have s := sums_ua r.f1 r.f1.size 0 (by omega)
   rw [us1_add c, s.1, s.2, e.2.1, e.2.2.2]; omega
  ·have e := run_eq3 c
   have s := sums_rep ud r.f2.toNat
   rw [us1_drop c, s.1, s.2, e.2.1, e.2.2.1, E_size]
   show ((r.f2.toNat : Nat) : Int) * (0 + 1) + _ = _ ∧ ((r.f2.toNat : Nat) : Int) * (0 + (E.size : Int)) + _ = _
   rw [E_size]; omega
theorem norm_us {l : List Rn} (h : ∀ r ∈ l, knd r ≠ 0) : norm (us l) = norm l := by
 have hu := us_ok l h
 have s := sums_us l h
 have f : fits (us l) 0 0 = fits l 0 0 := by
  rw [Bool.eq_iff_iff, fits_iff hu 0 0 (by decide) (by decide), fits_iff h 0 0 (by decide) (by decide), s.1, s.2]
 unfold norm out
 rw [fine_self hu, fine_self h, f, jn_us l h _ _ _ (Int.le_refl _)]
end Go.Proofs.Ytbfdplmgefcogaa.ComposeU
end
-- MERGED YtbfdplmgefcogaaEditH1
section

namespace Go.Proofs.Ytbfdplmgefcogaa.EditH1
open Go.RowKit Go.Proofs.Ytbfdplmgefcogaa.P Go.Proofs.YtbfdplmgefcogaaW.PrintWords Go.Proofs.YtbfdplmgefcogaaW.PrintLast Go.Proofs.YtbfdplmgefcogaaW.PrintMore Go.Proofs.Ytbfdplmgefcogaa.EditL Go.Proofs.Ytbfdplmgefcogaa.EditK Go.Proofs.Ytbfdplmgefcogaa.EditF Go.Proofs.Ytbfdplmgefcogaa.EditG
set_option linter.unusedSimpArgs false
set_option linter.unusedVariables false
theorem rgood_f {l : List Rn} (hb : l.length ≤ 140737488351232) : variorumref06_Good.f l = some (good l) := by unfold variorumref06_Good.f; rw [if_pos hb]
theorem rin_f {l : List Rn} (hb : l.length ≤ 140737488351232) (k : Nat) (hk : l.length < k) : variorumref06_In.f k l = some (if good l then inL l else 0) := by
 unfold variorumref06_In.f
 rw [rgood_f hb, Option.bind_some]
 cases h : good l with
 | false => rfl
 | true =>
  obtain ⟨_, _, h2, h3⟩ := good_ok h
  rw [if_pos rfl, rsums_f hb h3 k hk, Option.bind_some, h2]; rfl
theorem rout_f {l : List Rn} (hb : l.length ≤ 140737488351232) (k : Nat) (hk : l.length < k) : variorumref06_Out.f k l = some (if good l then outL l else 0) := by
 unfold variorumref06_Out.f
 rw [rgood_f hb, Option.bind_some]
 cases h : good l with
 | false => rfl
 | true =>
  obtain ⟨_, _, h2, h3⟩ := good_ok h
  rw [if_pos rfl, rsums_f hb h3 k hk, Option.bind_some, h2]; rfl
end Go.Proofs.Ytbfdplmgefcogaa.EditH1
end
-- MERGED YtbfdplmgefcogaaPvariorumref08units
section

namespace Go.Proofs.Ytbfdplmgefcogaa.P
open Go.RowKit Go.Proofs.YtbfdplmgefcogaaW.PrintWords Go.Proofs.YtbfdplmgefcogaaW.PrintLast Go.Proofs.YtbfdplmgefcogaaW.PrintMore
attribute [local go_sem] max2_int min2_int max_two min_two max_three min_three max_four min_four
set_option linter.unusedVariables false
set_option linter.unusedSimpArgs false
mutual
def variorumref08_units.l0 : Nat → List (S43) → List (S51) → Int → Option ((List (S51)))
 | 0, _, _, _ => none
 | k + 1, x0, x3, x4 => if x4 < (x0.length : Int) then (if 0 ≤ x4 then (variorumref08_units.l1 k x0 x3 x4 0 ((rd_T43 x0 x4).f0) ((rd_T43 x0 x4).f1) ((rd_T43 x0 x4).f2)) else (none)) else (some x3)
def variorumref08_units.l1 : Nat → List (S43) → List (S51) → Int → Int → Int → ByteArray → Int → Option ((List (S51)))
 | 0, _, _, _, _, _, _, _ => none
 | k + 1, x0, x3, x4, x6, x153000, x153001, x153002 => if x6 < x153000 then (if x3.length < 5864062014805 then (variorumref08_units.l1 k x0 (x3 ++ [(⟨1, (⟨#[]⟩ : ByteArray)⟩ : S51)]) x4 (wrap64 (x6 + 1)) x153000 x153001 x153002) else (none)) else (variorumref08_units.l2 k x0 x3 x4 0 x153000 x153001 x153002)
def variorumref08_units.l2 : Nat → List (S43) → List (S51) → Int → Int → Int → ByteArray → Int → Option ((List (S51)))
 | 0, _, _, _, _, _, _, _ => none
 | k + 1, x0, x3, x4, x7, x153000, x153001, x153002 => if x7 < (x153001.size : Int) then (if 0 ≤ x7 then (if x7 ≤ (wrap64 (x7 + 1)) then (if (wrap64 (x7 + 1)) ≤ (x153001.size : Int) then (if x3.length < 5864062014805 then (variorumref08_units.l2 k x0 (x3 ++ [(⟨2, x153001.extract (x7 : Int).toNat ((wrap64 (x7 + 1)) : Int).toNat⟩ : S51)]) x4 (wrap64 (x7 + 1)) x153000 x153001 x153002) else (none)) else (none)) else (none)) else (none)) else (variorumref08_units.l3 k x0 x3 x4 0 x153000 x153001 x153002)
def variorumref08_units.l3 : Nat → List (S43) → List (S51) → Int → Int → Int → ByteArray → Int → Option ((List (S51)))
 | 0, _, _, _, _, _, _, _ => none
 | k + 1, x0, x3, x4, x8, x153000, x153001, x153002 => if x8 < x153002 then (if x3.length < 5864062014805 then (variorumref08_units.l3 k x0 (x3 ++ [(⟨3, (⟨#[]⟩ : ByteArray)⟩ : S51)]) x4 (wrap64 (x8 + 1)) x153000 x153001 x153002) else (none)) else (variorumref08_units.l0 k x0 x3 (wrap64 (x4 + 1)))
end
def variorumref08_units.f (k : Nat) (l0 : List (S43)) : Option ((List (S51))) := variorumref08_units.l0 k l0 ([] : List (S51)) 0
theorem variorumref08_units.mono_l : ∀ k, (∀ y0 y1 y2, LeO (variorumref08_units.l0 k y0 y1 y2) (variorumref08_units.l0 (k + 1) y0 y1 y2)) ∧ (∀ y0 y1 y2 y3 y4 y5 y6, LeO (variorumref08_units.l1 k y0 y1 y2 y3 y4 y5 y6) (variorumref08_units.l1 (k + 1) y0 y1 y2 y3 y4 y5 y6)) ∧ (∀ y0 y1 y2 y3 y4 y5 y6, LeO (variorumref08_units.l2 k y0 y1 y2 y3 y4 y5 y6) (variorumref08_units.l2 (k + 1) y0 y1 y2 y3 y4 y5 y6)) ∧ (∀ y0 y1 y2 y3 y4 y5 y6, LeO (variorumref08_units.l3 k y0 y1 y2 y3 y4 y5 y6) (variorumref08_units.l3 (k + 1) y0 y1 y2 y3 y4 y5 y6))
 | 0 => ⟨fun _ _ _ r h => by simp [variorumref08_units.l0] at h, fun _ _ _ _ _ _ _ r h => by simp [variorumref08_units.l1] at h, fun _ _ _ _ _ _ _ r h => by simp [variorumref08_units.l2] at h, fun _ _ _ _ _ _ _ r h => by simp [variorumref08_units.l3] at h⟩
 | k + 1 => by
  obtain ⟨ih0, ih1, ih2, ih3⟩ := variorumref08_units.mono_l k
  refine ⟨?_, ?_, ?_, ?_⟩
  ·intro y0 y1 y2
   unfold variorumref08_units.l0
   repeat' first | (with_reducible exact ih1 _ _ _ _ _ _ _) | (with_reducible exact LeO.refl _) | (with_reducible refine LeO.ite ?_ ?_)
  ·intro y0 y1 y2 y3 y4 y5 y6
   unfold variorumref08_units.l1
   repeat' first | (with_reducible exact ih1 _ _ _ _ _ _ _) | (with_reducible exact ih2 _ _ _ _ _ _ _) | (with_reducible exact LeO.refl _) | (with_reducible refine LeO.ite ?_ ?_)
  ·intro y0 y1 y2 y3 y4 y5 y6
   unfold variorumref08_units.l2
   repeat' first | (with_reducible exact ih2 _ _ _ _ _ _ _) | (with_reducible exact ih3 _ _ _ _ _ _ _) | (with_reducible exact LeO.refl _) | (with_reducible refine LeO.ite ?_ ?_)
  ·intro y0 y1 y2 y3 y4 y5 y6
   unfold variorumref08_units.l3
   repeat' first | (with_reducible exact ih0 _ _ _) | (with_reducible exact ih3 _ _ _ _ _ _ _) | (with_reducible exact LeO.refl _) | (with_reducible refine LeO.ite ?_ ?_)
theorem variorumref08_units.mono : ∀ a0 k, LeO (variorumref08_units.f k a0) (variorumref08_units.f (k + 1) a0) := by
 intro a0 k
 obtain ⟨ih0, ih1, ih2, ih3⟩ := variorumref08_units.mono_l k
 unfold variorumref08_units.f
 repeat' (with_reducible exact ih0 _ _ _)
set_option maxHeartbeats 8000000 in
set_option maxRecDepth 100000 in
theorem variorumref08_units.calls (k : Nat) (A0 : Option Addr) (c0 : Nat) (l0 : List (S43)) (r : List (S51)) (w : World) (hr0 : Kd.C k43 w A0 l0.length l0) (hc0 : l0.length ≤ c0) (h : variorumref08_units.f k l0 = some r) :
  Calls Try.prog 26 #[.slice A0 l0.length c0] w fun e w' => ∃ v0_ : Value, e = .returned (v0_) ∧ Kd.R k51 51 w' w.heap.size (fun _ => True) v0_ r ∧ Below w.heap.size w w' := by
 have hu43 := Try.underlying43
 have hu51 := Try.underlying51
 have HR0 := Aside0.mk hr0
 have HC0 := Aside0.mk hc0
 clear hr0 hc0
 have HB := Aside0.mk (Below.refl w.heap.size w)
 have H : (variorumref08_units.l0 k l0 ([] : List (S51)) 0) = some r := h
 clear h
 have H' := Aside0.mk H
 clear H
 go_enter Try.func26, Try.ntmps26
 go_wp2
 go_loopg [3, 4] k (fun kq v3 v4 w' => ∃ (x3_1 : List (S51)) (x4_1 : Int), v4 = .int .i64 x4_1 ∧ Aside0 (variorumref08_units.l0 kq l0 x3_1 x4_1 = some r) ∧ Aside0 (kq ≤ k) ∧ Aside0 (Kd.R k51 51 w' w.heap.size (fun _ => True) v3 x3_1) ∧ Aside0 (Below w.heap.size w w'))
 case atStart => exact ⟨(([] : List (S51))), (0), (by (rfl)), H', ⟨Nat.le_refl _⟩, ⟨by (exact Kd.R_nil _ _ _ _ _)⟩, ⟨by repeat ((with_reducible (exact HB.out)))⟩⟩
 case round =>
  clear H'
  obtain ⟨x3_1, x4_1, rfl, HA, HK1, HO_3, HB⟩ := hrel
  cases gk with
  | zero => exact absurd HA.out (by simp [variorumref08_units.l0])
  | succ k1 =>
   have H := HA.out
   clear HA
   simp only [variorumref08_units.l0] at H
   by_cases c2 : x4_1 < (l0.length : Int)
   ·rw [if_pos c2] at H
    have c2b0 : decide (x4_1 < (l0.length : Int)) = true := decide_eq_true c2
    clear c2
    by_cases c3 : 0 ≤ x4_1
    ·rw [if_pos c3] at H
     have c3b0 : decide (0 ≤ x4_1) = true := decide_eq_true c3
     clear c3
     have H' := Aside0.mk H
     clear H
     have p151 : 0 ≤ (x4_1 : Int) := of_decide_eq_true (by (with_reducible assumption))
     have q151 : x4_1 < (l0.length : Int) := of_decide_eq_true (by (with_reducible assumption))
     obtain ⟨ad151, e151, hx151_0, hx151_1, hx151_2⟩ := at_T43 HR0.out x4_1 p151 q151
     cases e151
     replace hx151_0 := (HB.out.cell (World.block_lt_of_cell? w _ hx151_0)).trans hx151_0
     replace hx151_1 := (HB.out.cell (World.block_lt_of_cell? w _ hx151_1)).trans hx151_1
     replace hx151_2 := (HB.out.cell (World.block_lt_of_cell? w _ hx151_2)).trans hx151_2
     replace p151 := eq_true p151
     replace q151 := eq_true q151
     go_wp2_with (first | ((with_reducible refine gate_dst (N := 5) rfl ?_); refine box_event ?hg (N := 5) ?hd (cs := #[.int .i64 0, .string (⟨#[]⟩ : ByteArray), .int .i64 0]) (t := 43) ?hr ?_; (case hd => rfl); (case hg => rfl); (case hr => (go_simp; done)); intro gb152 hg w4 hbox hb; have n0_ := Aside0.mk (Kd.R_below (by (with_reducible repeat ((apply Kd.R_drew))); exact HO_3.out) hb); have n1_ := Aside0.mk (below_step (by repeat ((with_reducible (exact HB.out)))) hb); have n2_ := Aside0.mk (hbox); have n3_ := Aside0.mk ((by rw [hg]; exact (below_size (by repeat ((with_reducible (exact HB.out))))) : w.heap.size ≤ gb152)); have n4_ := Aside0.mk ((by rw [hg]; exact (below_size (by repeat ((with_reducible (exact HB.out))))) : w.heap.size ≤ gb152)); clear HO_3; clear HB; have HO_3 := n0_; have HB := n1_; have BK152 := n2_; have GW152 := n3_; have GE152 := n4_; clear n0_ n1_ n2_ n3_ n4_; clear hb hbox hg; have hcz5_0 : w4.cell? ⟨gb152, 0, none⟩ = some (.int .i64 0) := (blk_cell BK152.out 0).trans rfl; have hcz5_1 : w4.cell? ⟨gb152, 1, none⟩ = some (.string (⟨#[]⟩ : ByteArray)) := (blk_cell BK152.out 1).trans rfl; have hcz5_2 : w4.cell? ⟨gb152, 2, none⟩ = some (.int .i64 0) := (blk_cell BK152.out 2).trans rfl; have hfz5_0 := blk_frozen BK152.out 0; have hfz5_1 := blk_frozen BK152.out 1; have hfz5_2 := blk_frozen BK152.out 2))
     go_loopg [3, 6] k1 (fun kq v3 v6 w' => ∃ (x3_2 : List (S51)) (x6_2 : Int), v6 = .int .i64 x6_2 ∧ Aside0 (variorumref08_units.l1 kq l0 x3_2 x4_1 x6_2 ((rd_T43 l0 x4_1).f0) ((rd_T43 l0 x4_1).f1) ((rd_T43 l0 x4_1).f2) = some r) ∧ Aside0 (kq ≤ k1) ∧ Aside0 (Kd.R k51 51 w' w.heap.size (fun _ => True) v3 x3_2) ∧ Aside0 (w'.heap[gb152]? = some (.cells #[.int .i64 ((rd_T43 l0 x4_1).f0), .string ((rd_T43 l0 x4_1).f1), .int .i64 ((rd_T43 l0 x4_1).f2)] 43 (0, 0))) ∧ Aside0 (Below w.heap.size w w'))
     case atStart => exact ⟨(x3_1), (0), (by (rfl)), H', ⟨Nat.le_refl _⟩, ⟨by (with_reducible repeat ((apply Kd.R_drew))); exact Kd.R_mono (Kd.R_far (p := ⟨gb152, 2, none⟩) (Kd.R_far (p := ⟨gb152, 1, none⟩) (Kd.R_far (p := ⟨gb152, 0, none⟩) (Kd.R_types HO_3.out BK152.out (by decide)) (fun _ hk => hk.2) (.int .i64 ((rd_T43 l0 x4_1).f0))) (fun _ hk => hk.2) (.string ((rd_T43 l0 x4_1).f1))) (fun _ hk => hk.2) (.int .i64 ((rd_T43 l0 x4_1).f2))) (fun _ hk => trivial)⟩, ⟨by (with_reducible repeat ((refine blk_drew ?_))); refine blk_put (cs := #[.int .i64 ((rd_T43 l0 x4_1).f0), .string ((rd_T43 l0 x4_1).f1), .int .i64 0]) ?_ 2 _ rfl; (with_reducible repeat ((refine blk_drew ?_))); refine blk_put (cs := #[.int .i64 ((rd_T43 l0 x4_1).f0), .string (⟨#[]⟩ : ByteArray), .int .i64 0]) ?_ 1 _ rfl; (with_reducible repeat ((refine blk_drew ?_))); refine blk_put (cs := #[.int .i64 0, .string (⟨#[]⟩ : ByteArray), .int .i64 0]) ?_ 0 _ rfl; (with_reducible repeat ((refine blk_drew ?_))); exact BK152.out⟩, ⟨by repeat ((with_reducible first | exact HB.out | refine below_set ?_ GE152.out))⟩⟩
     case round =>
      clear H'
      try clear p1
      try clear q1
      try clear hx1
      try clear c2
      try clear c2b0
      try clear p2
      try clear c3
      try clear c3b0
      try clear hcz5_0
      try clear hcz5_1
      try clear hcz5_2
      try clear hfz5_0
      try clear hfz5_1
      try clear hfz5_2
      try clear hx151_0
      try clear hx151_1
      try clear hx151_2
      try clear p151
      try clear q151
      obtain ⟨x3_2, x6_2, rfl, HA, HK2, HO_3, BK152, HB⟩ := hrel
      cases gk with
      | zero => exact absurd HA.out (by simp [variorumref08_units.l1])
      | succ k2 =>
       have H := HA.out
       clear HA
       simp only [variorumref08_units.l1] at H
       by_cases c6 : x6_2 < ((rd_T43 l0 x4_1).f0)
       ·rw [if_pos c6] at H
        have c6b0 : decide (x6_2 < ((rd_T43 l0 x4_1).f0)) = true := decide_eq_true c6
        clear c6
        by_cases c7 : x3_2.length < 5864062014805
        ·rw [if_pos c7] at H
         have LMc7 := Aside0.mk c7
         clear c7
         obtain ⟨y153, hy153⟩ : ∃ y_ : List (S51), y_ = (x3_2 ++ [(⟨1, (⟨#[]⟩ : ByteArray)⟩ : S51)]) := ⟨_, rfl⟩
         replace H : (variorumref08_units.l1 k2 l0 y153 x4_1 (wrap64 (x6_2 + 1)) ((rd_T43 l0 x4_1).f0) ((rd_T43 l0 x4_1).f1) ((rd_T43 l0 x4_1).f2)) = some r := by (rw [hy153]; with_reducible exact H)
         have Ny153 := Aside0.mk hy153
         clear hy153
         have H' := Aside0.mk H
         clear H
         have hcz8_0 : wr.cell? ⟨gb152, 0, none⟩ = some (.int .i64 ((rd_T43 l0 x4_1).f0)) := (blk_cell BK152.out 0).trans rfl
         have hcz8_1 : wr.cell? ⟨gb152, 1, none⟩ = some (.string ((rd_T43 l0 x4_1).f1)) := (blk_cell BK152.out 1).trans rfl
         have hcz8_2 : wr.cell? ⟨gb152, 2, none⟩ = some (.int .i64 ((rd_T43 l0 x4_1).f2)) := (blk_cell BK152.out 2).trans rfl
         have hfz8_0 := blk_frozen BK152.out 0
         have hfz8_1 := blk_frozen BK152.out 1
         have hfz8_2 := blk_frozen BK152.out 2
         go_wp2_with (first | ((with_reducible refine gate_builtin (b := .append) (xs := #[.tmp 25, .tmp 27]) rfl ?_); at_builtin; refine Kd.R_append k51 (w0 := w) w.heap.size rfl (.tmp 25) (.tmp 27) 48 51 (.agg #[(.int .i64 0), (.string ⟨#[]⟩)]) 24 rfl Try.underlying48 info51 rfl (by decide) (by omega) u3 x3_2 (⟨1, (⟨#[]⟩ : ByteArray)⟩ : S51) [.int .i64 1, .string (⟨#[]⟩ : ByteArray)] (fun _ => True) (fun _ => False) rfl rfl ?aP (fun _ hk => hk.elim) ?aF ?aO ?aB ?aS ?aL ?_; (case aP => exact k51_mkM _ _ _ (⟨1, (⟨#[]⟩ : ByteArray)⟩ : S51)); (case aB => exact (by repeat ((with_reducible (exact HB.out))))); (case aF => exact (fun _ _ => trivial)); (case aO => exact (by (with_reducible repeat ((apply Kd.R_drew))); exact HO_3.out)); (case aS => exact (below_size (by repeat ((with_reducible (exact HB.out)))))); (case aL => have := LMc7.out; omega); intro v154 w9 ho hb hg hat; rw [← Ny153.out] at ho; have n0_ := Aside0.mk (blk_grown (g := gb152) (o := .cells #[.int .i64 ((rd_T43 l0 x4_1).f0), .string ((rd_T43 l0 x4_1).f1), .int .i64 ((rd_T43 l0 x4_1).f2)] 43 (0, 0)) (by (with_reducible repeat ((refine blk_drew ?_))); exact BK152.out) hg (Kd.R_ne HO_3.out BK152.out (by decide))); have n1_ := Aside0.mk (hb); have n2_ := Aside0.mk (ho); clear BK152; clear HB; clear HO_3; have BK152 := n0_; have HB := n1_; have HO155 := n2_; clear n0_ n1_ n2_; clear ho hb hg hat))
         go_roundg k2
         case measure => have := HK1.out; have := HK2.out; omega
         case rel => exact ⟨(y153), (wrap64 (x6_2 + 1)), (by (rfl)), H', ⟨by have := HK1.out; have := HK2.out; omega⟩, ⟨by (with_reducible repeat ((apply Kd.R_drew))); exact HO155.out⟩, ⟨by (with_reducible repeat ((refine blk_drew ?_))); exact BK152.out⟩, ⟨by repeat ((with_reducible (exact HB.out)))⟩⟩
        ·rw [if_neg c7] at H
         exact absurd H (by simp)
       ·rw [if_neg c6] at H
        have c6b0 : decide (x6_2 < ((rd_T43 l0 x4_1).f0)) = false := decide_eq_false c6
        clear c6
        have H' := Aside0.mk H
        clear H
        have hcz10_0 : wr.cell? ⟨gb152, 0, none⟩ = some (.int .i64 ((rd_T43 l0 x4_1).f0)) := (blk_cell BK152.out 0).trans rfl
        have hcz10_1 : wr.cell? ⟨gb152, 1, none⟩ = some (.string ((rd_T43 l0 x4_1).f1)) := (blk_cell BK152.out 1).trans rfl
        have hcz10_2 : wr.cell? ⟨gb152, 2, none⟩ = some (.int .i64 ((rd_T43 l0 x4_1).f2)) := (blk_cell BK152.out 2).trans rfl
        have hfz10_0 := blk_frozen BK152.out 0
        have hfz10_1 := blk_frozen BK152.out 1
        have hfz10_2 := blk_frozen BK152.out 2
        go_wp2
        go_loopg [3, 7] k2 (fun kq v3 v7 w' => ∃ (x3_3 : List (S51)) (x7_3 : Int), v7 = .int .i64 x7_3 ∧ Aside0 (variorumref08_units.l2 kq l0 x3_3 x4_1 x7_3 ((rd_T43 l0 x4_1).f0) ((rd_T43 l0 x4_1).f1) ((rd_T43 l0 x4_1).f2) = some r) ∧ Aside0 (kq ≤ k2) ∧ Aside0 (Kd.R k51 51 w' w.heap.size (fun _ => True) v3 x3_3) ∧ Aside0 (w'.heap[gb152]? = some (.cells #[.int .i64 ((rd_T43 l0 x4_1).f0), .string ((rd_T43 l0 x4_1).f1), .int .i64 ((rd_T43 l0 x4_1).f2)] 43 (0, 0))) ∧ Aside0 (Below w.heap.size w w'))
        case atStart => exact ⟨(x3_2), (0), (by (rfl)), H', ⟨Nat.le_refl _⟩, ⟨by (with_reducible repeat ((apply Kd.R_drew))); exact HO_3.out⟩, ⟨by (with_reducible repeat ((refine blk_drew ?_))); exact BK152.out⟩, ⟨by repeat ((with_reducible (exact HB.out)))⟩⟩
        case round =>
         clear H'
         try clear p1
         try clear q1
         try clear hx1
         try clear c2
         try clear c2b0
         try clear p2
         try clear c3
         try clear c3b0
         try clear c6
         try clear c6b0
         try clear p6
         try clear c7
         try clear hcz10_0
         try clear hcz10_1
         try clear hcz10_2
         try clear hcz5_0
         try clear hcz5_1
         try clear hcz5_2
         try clear hcz8_0
         try clear hcz8_1
         try clear hcz8_2
         try clear hfz10_0
         try clear hfz10_1
         try clear hfz10_2
         try clear hfz5_0
         try clear hfz5_1
         try clear hfz5_2
         try clear hfz8_0
         try clear hfz8_1
         try clear hfz8_2
         try clear hx151_0
         try clear hx151_1
         try clear hx151_2
         try clear p1
         try clear p151
         try clear p2
         try clear q1
         try clear q151
         obtain ⟨x3_3, x7_3, rfl, HA, HK3, HO_3, BK152, HB⟩ := hrel
         cases gk with
         | zero => exact absurd HA.out (by simp [variorumref08_units.l2])
         | succ k3 =>
          have H := HA.out
          clear HA
          simp only [variorumref08_units.l2] at H
          by_cases c11 : x7_3 < (((rd_T43 l0 x4_1).f1).size : Int)
          ·rw [if_pos c11] at H
           have c11b0 : decide (x7_3 < (((rd_T43 l0 x4_1).f1).size : Int)) = true := decide_eq_true c11
           clear c11
           by_cases c12 : 0 ≤ x7_3
           ·rw [if_pos c12] at H
            have c12b0 := eq_true c12
            have c12b1 : decide (0 ≤ x7_3) = true := decide_eq_true c12
            clear c12
            by_cases c13 : x7_3 ≤ (wrap64 (x7_3 + 1))
            ·rw [if_pos c13] at H
             have c13b0 := eq_true c13
             have c13b1 : decide (x7_3 ≤ (wrap64 (x7_3 + 1))) = true := decide_eq_true c13
             by_cases c14 : (wrap64 (x7_3 + 1)) ≤ (((rd_T43 l0 x4_1).f1).size : Int)
             ·rw [if_pos c14] at H
              have c14b0 := eq_true c14
              have c14b1 : decide ((wrap64 (x7_3 + 1)) ≤ (((rd_T43 l0 x4_1).f1).size : Int)) = true := decide_eq_true c14
              by_cases c15 : x3_3.length < 5864062014805
              ·rw [if_pos c15] at H
               have LMc15 := Aside0.mk c15
               clear c15
               obtain ⟨y156, hy156⟩ : ∃ y_ : List (S51), y_ = (x3_3 ++ [(⟨2, ((rd_T43 l0 x4_1).f1).extract (x7_3 : Int).toNat ((wrap64 (x7_3 + 1)) : Int).toNat⟩ : S51)]) := ⟨_, rfl⟩
               replace H : (variorumref08_units.l2 k3 l0 y156 x4_1 (wrap64 (x7_3 + 1)) ((rd_T43 l0 x4_1).f0) ((rd_T43 l0 x4_1).f1) ((rd_T43 l0 x4_1).f2)) = some r := by (rw [hy156]; with_reducible exact H)
               have Ny156 := Aside0.mk hy156
               clear hy156
               have H' := Aside0.mk H
               clear H
               have hcz16_0 : wr.cell? ⟨gb152, 0, none⟩ = some (.int .i64 ((rd_T43 l0 x4_1).f0)) := (blk_cell BK152.out 0).trans rfl
               have hcz16_1 : wr.cell? ⟨gb152, 1, none⟩ = some (.string ((rd_T43 l0 x4_1).f1)) := (blk_cell BK152.out 1).trans rfl
               have hcz16_2 : wr.cell? ⟨gb152, 2, none⟩ = some (.int .i64 ((rd_T43 l0 x4_1).f2)) := (blk_cell BK152.out 2).trans rfl
               have hfz16_0 := blk_frozen BK152.out 0
               have hfz16_1 := blk_frozen BK152.out 1
               have hfz16_2 := blk_frozen BK152.out 2
               go_wp2_with (first | ((with_reducible refine gate_builtin (b := .append) (xs := #[.tmp 36, .tmp 44]) rfl ?_); at_builtin; refine Kd.R_append k51 (w0 := w) w.heap.size rfl (.tmp 36) (.tmp 44) 48 51 (.agg #[(.int .i64 0), (.string ⟨#[]⟩)]) 24 rfl Try.underlying48 info51 rfl (by decide) (by omega) u3 x3_3 (⟨2, ((rd_T43 l0 x4_1).f1).extract (x7_3 : Int).toNat ((wrap64 (x7_3 + 1)) : Int).toNat⟩ : S51) [.int .i64 2, .string (((rd_T43 l0 x4_1).f1).extract (x7_3 : Int).toNat ((wrap64 (x7_3 + 1)) : Int).toNat)] (fun _ => True) (fun _ => False) rfl rfl ?aP (fun _ hk => hk.elim) ?aF ?aO ?aB ?aS ?aL ?_; (case aP => exact k51_mkM _ _ _ (⟨2, ((rd_T43 l0 x4_1).f1).extract (x7_3 : Int).toNat ((wrap64 (x7_3 + 1)) : Int).toNat⟩ : S51)); (case aB => exact (by repeat ((with_reducible (exact HB.out))))); (case aF => exact (fun _ _ => trivial)); (case aO => exact (by (with_reducible repeat ((apply Kd.R_drew))); exact HO_3.out)); (case aS => exact (below_size (by repeat ((with_reducible (exact HB.out)))))); (case aL => have := LMc15.out; omega); intro v157 w17 ho hb hg hat; rw [← Ny156.out] at ho; have n0_ := Aside0.mk (blk_grown (g := gb152) (o := .cells #[.int .i64 ((rd_T43 l0 x4_1).f0), .string ((rd_T43 l0 x4_1).f1), .int .i64 ((rd_T43 l0 x4_1).f2)] 43 (0, 0)) (by (with_reducible repeat ((refine blk_drew ?_))); exact BK152.out) hg (Kd.R_ne HO_3.out BK152.out (by decide))); have n1_ := Aside0.mk (hb); have n2_ := Aside0.mk (ho); clear BK152; clear HB; clear HO_3; have BK152 := n0_; have HB := n1_; have HO158 := n2_; clear n0_ n1_ n2_; clear ho hb hg hat))
               go_roundg k3
               case measure => have := HK1.out; have := HK2.out; have := HK3.out; omega
               case rel => exact ⟨(y156), (wrap64 (x7_3 + 1)), (by (rfl)), H', ⟨by have := HK1.out; have := HK2.out; have := HK3.out; omega⟩, ⟨by (with_reducible repeat ((apply Kd.R_drew))); exact HO158.out⟩, ⟨by (with_reducible repeat ((refine blk_drew ?_))); exact BK152.out⟩, ⟨by repeat ((with_reducible (exact HB.out)))⟩⟩
              ·rw [if_neg c15] at H
               exact absurd H (by simp)
             ·rw [if_neg c14] at H
              exact absurd H (by simp)
            ·rw [if_neg c13] at H
             exact absurd H (by simp)
           ·rw [if_neg c12] at H
            exact absurd H (by simp)
          ·rw [if_neg c11] at H
           have c11b0 : decide (x7_3 < (((rd_T43 l0 x4_1).f1).size : Int)) = false := decide_eq_false c11
           clear c11
           have H' := Aside0.mk H
           clear H
           have hcz18_0 : wr.cell? ⟨gb152, 0, none⟩ = some (.int .i64 ((rd_T43 l0 x4_1).f0)) := (blk_cell BK152.out 0).trans rfl
           have hcz18_1 : wr.cell? ⟨gb152, 1, none⟩ = some (.string ((rd_T43 l0 x4_1).f1)) := (blk_cell BK152.out 1).trans rfl
           have hcz18_2 : wr.cell? ⟨gb152, 2, none⟩ = some (.int .i64 ((rd_T43 l0 x4_1).f2)) := (blk_cell BK152.out 2).trans rfl
           have hfz18_0 := blk_frozen BK152.out 0
           have hfz18_1 := blk_frozen BK152.out 1
           have hfz18_2 := blk_frozen BK152.out 2
           go_wp2
           go_loopg [3, 8] k3 (fun kq v3 v8 w' => ∃ (x3_4 : List (S51)) (x8_4 : Int), v8 = .int .i64 x8_4 ∧ Aside0 (variorumref08_units.l3 kq l0 x3_4 x4_1 x8_4 ((rd_T43 l0 x4_1).f0) ((rd_T43 l0 x4_1).f1) ((rd_T43 l0 x4_1).f2) = some r) ∧ Aside0 (kq ≤ k3) ∧ Aside0 (Kd.R k51 51 w' w.heap.size (fun _ => True) v3 x3_4) ∧ Aside0 (w'.heap[gb152]? = some (.cells #[.int .i64 ((rd_T43 l0 x4_1).f0), .string ((rd_T43 l0 x4_1).f1), .int .i64 ((rd_T43 l0 x4_1).f2)] 43 (0, 0))) ∧ Aside0 (Below w.heap.size w w'))
           case atStart => exact ⟨(x3_3), (0), (by (rfl)), H', ⟨Nat.le_refl _⟩, ⟨by (with_reducible repeat ((apply Kd.R_drew))); exact HO_3.out⟩, ⟨by (with_reducible repeat ((refine blk_drew ?_))); exact BK152.out⟩, ⟨by repeat ((with_reducible (exact HB.out)))⟩⟩
           case round =>
            clear H'
            try clear c1
            try clear p1
            try clear q1
            try clear hx1
            try clear c2
            try clear c2b0
            try clear p2
            try clear c3
            try clear c3b0
            try clear c6
            try clear c6b0
            try clear p6
            try clear c7
            try clear c11
            try clear c11b0
            try clear c12
            try clear c12b0
            try clear c12b1
            try clear c13
            try clear c13b0
            try clear c13b1
            try clear c14
            try clear c14b0
            try clear c14b1
            try clear c15
            try clear p15
            try clear q15
            try clear hx15
            try clear hcz10_0
            try clear hcz10_1
            try clear hcz10_2
            try clear hcz16_0
            try clear hcz16_1
            try clear hcz16_2
            try clear hcz18_0
            try clear hcz18_1
            try clear hcz18_2
            try clear hcz5_0
            try clear hcz5_1
            try clear hcz5_2
            try clear hcz8_0
            try clear hcz8_1
            try clear hcz8_2
            try clear hfz10_0
            try clear hfz10_1
            try clear hfz10_2
            try clear hfz16_0
            try clear hfz16_1
            try clear hfz16_2
            try clear hfz18_0
            try clear hfz18_1
            try clear hfz18_2
            try clear hfz5_0
            try clear hfz5_1
            try clear hfz5_2
            try clear hfz8_0
            try clear hfz8_1
            try clear hfz8_2
            try clear hx151_0
            try clear hx151_1
            try clear hx151_2
            try clear p1
            try clear p151
            try clear p2
            try clear p6
            try clear q1
            try clear q151
            obtain ⟨x3_4, x8_4, rfl, HA, HK4, HO_3, BK152, HB⟩ := hrel
            cases gk with
            | zero => exact absurd HA.out (by simp [variorumref08_units.l3])
            | succ k4 =>
             have H := HA.out
             clear HA
             simp only [variorumref08_units.l3] at H
             by_cases c19 : x8_4 < ((rd_T43 l0 x4_1).f2)
             ·rw [if_pos c19] at H
              have c19b0 : decide (x8_4 < ((rd_T43 l0 x4_1).f2)) = true := decide_eq_true c19
              clear c19
              by_cases c20 : x3_4.length < 5864062014805
              ·rw [if_pos c20] at H
               have LMc20 := Aside0.mk c20
               clear c20
               obtain ⟨y159, hy159⟩ : ∃ y_ : List (S51), y_ = (x3_4 ++ [(⟨3, (⟨#[]⟩ : ByteArray)⟩ : S51)]) := ⟨_, rfl⟩
               replace H : (variorumref08_units.l3 k4 l0 y159 x4_1 (wrap64 (x8_4 + 1)) ((rd_T43 l0 x4_1).f0) ((rd_T43 l0 x4_1).f1) ((rd_T43 l0 x4_1).f2)) = some r := by (rw [hy159]; with_reducible exact H)
               have Ny159 := Aside0.mk hy159
               clear hy159
               have H' := Aside0.mk H
               clear H
               have hcz21_0 : wr.cell? ⟨gb152, 0, none⟩ = some (.int .i64 ((rd_T43 l0 x4_1).f0)) := (blk_cell BK152.out 0).trans rfl
               have hcz21_1 : wr.cell? ⟨gb152, 1, none⟩ = some (.string ((rd_T43 l0 x4_1).f1)) := (blk_cell BK152.out 1).trans rfl
               have hcz21_2 : wr.cell? ⟨gb152, 2, none⟩ = some (.int .i64 ((rd_T43 l0 x4_1).f2)) := (blk_cell BK152.out 2).trans rfl
               have hfz21_0 := blk_frozen BK152.out 0
               have hfz21_1 := blk_frozen BK152.out 1
               have hfz21_2 := blk_frozen BK152.out 2
               go_wp2_with (first | ((with_reducible refine gate_builtin (b := .append) (xs := #[.tmp 52, .tmp 54]) rfl ?_); at_builtin; refine Kd.R_append k51 (w0 := w) w.heap.size rfl (.tmp 52) (.tmp 54) 48 51 (.agg #[(.int .i64 0), (.string ⟨#[]⟩)]) 24 rfl Try.underlying48 info51 rfl (by decide) (by omega) u3 x3_4 (⟨3, (⟨#[]⟩ : ByteArray)⟩ : S51) [.int .i64 3, .string (⟨#[]⟩ : ByteArray)] (fun _ => True) (fun _ => False) rfl rfl ?aP (fun _ hk => hk.elim) ?aF ?aO ?aB ?aS ?aL ?_; (case aP => exact k51_mkM _ _ _ (⟨3, (⟨#[]⟩ : ByteArray)⟩ : S51)); (case aB => exact (by repeat ((with_reducible (exact HB.out))))); (case aF => exact (fun _ _ => trivial)); (case aO => exact (by (with_reducible repeat ((apply Kd.R_drew))); exact HO_3.out)); (case aS => exact (below_size (by repeat ((with_reducible (exact HB.out)))))); (case aL => have := LMc20.out; omega); intro v160 w22 ho hb hg hat; rw [← Ny159.out] at ho; have n0_ := Aside0.mk (blk_grown (g := gb152) (o := .cells #[.int .i64 ((rd_T43 l0 x4_1).f0), .string ((rd_T43 l0 x4_1).f1), .int .i64 ((rd_T43 l0 x4_1).f2)] 43 (0, 0)) (by (with_reducible repeat ((refine blk_drew ?_))); exact BK152.out) hg (Kd.R_ne HO_3.out BK152.out (by decide))); have n1_ := Aside0.mk (hb); have n2_ := Aside0.mk (ho); clear BK152; clear HB; clear HO_3; have BK152 := n0_; have HB := n1_; have HO161 := n2_; clear n0_ n1_ n2_; clear ho hb hg hat))
               go_roundg k4
               case measure => have := HK1.out; have := HK2.out; have := HK3.out; have := HK4.out; omega
               case rel => exact ⟨(y159), (wrap64 (x8_4 + 1)), (by (rfl)), H', ⟨by have := HK1.out; have := HK2.out; have := HK3.out; have := HK4.out; omega⟩, ⟨by (with_reducible repeat ((apply Kd.R_drew))); exact HO161.out⟩, ⟨by (with_reducible repeat ((refine blk_drew ?_))); exact BK152.out⟩, ⟨by repeat ((with_reducible (exact HB.out)))⟩⟩
              ·rw [if_neg c20] at H
               exact absurd H (by simp)
             ·rw [if_neg c19] at H
              have c19b0 : decide (x8_4 < ((rd_T43 l0 x4_1).f2)) = false := decide_eq_false c19
              clear c19
              have H' := Aside0.mk H
              clear H
              have hcz23_0 : wr.cell? ⟨gb152, 0, none⟩ = some (.int .i64 ((rd_T43 l0 x4_1).f0)) := (blk_cell BK152.out 0).trans rfl
              have hcz23_1 : wr.cell? ⟨gb152, 1, none⟩ = some (.string ((rd_T43 l0 x4_1).f1)) := (blk_cell BK152.out 1).trans rfl
              have hcz23_2 : wr.cell? ⟨gb152, 2, none⟩ = some (.int .i64 ((rd_T43 l0 x4_1).f2)) := (blk_cell BK152.out 2).trans rfl
              have hfz23_0 := blk_frozen BK152.out 0
              have hfz23_1 := blk_frozen BK152.out 1
              have hfz23_2 := blk_frozen BK152.out 2
              go_wp2
              go_roundg k4
              case measure => have := HK1.out; have := HK2.out; have := HK3.out; have := HK4.out; omega
              case rel => exact ⟨(x3_4), (wrap64 (x4_1 + 1)), (by (rfl)), H', ⟨by have := HK1.out; have := HK2.out; have := HK3.out; have := HK4.out; omega⟩, ⟨by (with_reducible repeat ((apply Kd.R_drew))); exact HO_3.out⟩, ⟨by repeat ((with_reducible (exact HB.out)))⟩⟩
    ·rw [if_neg c3] at H
     exact absurd H (by simp)
   ·rw [if_neg c2] at H
    have c2b0 : decide (x4_1 < (l0.length : Int)) = false := decide_eq_false c2
    clear c2
    obtain rfl := Option.some.inj H
    go_wp2
    go_ret
    exact ⟨_, by (rfl), by (with_reducible repeat ((apply Kd.R_drew))); exact HO_3.out, by repeat ((with_reducible (exact HB.out)))⟩
end Go.Proofs.Ytbfdplmgefcogaa.P
end
-- MERGED YtbfdplmgefcogaaPvariorumref08runs
section

namespace Go.Proofs.Ytbfdplmgefcogaa.P
open Go.RowKit Go.Proofs.YtbfdplmgefcogaaW.PrintWords Go.Proofs.YtbfdplmgefcogaaW.PrintLast Go.Proofs.YtbfdplmgefcogaaW.PrintMore
attribute [local go_sem] max2_int min2_int max_two min_two max_three min_three max_four min_four
set_option linter.unusedVariables false
set_option linter.unusedSimpArgs false
def variorumref08_runs.l0 : Nat → List (S51) → List (S43) → Int → Option ((List (S43)))
 | 0, _, _, _ => none
 | k + 1, x0, x3, x4 => if x4 < (x0.length : Int) then (if 0 ≤ x4 then (if ((rd_T51 x0 x4).f0) = 1 then (if x3.length < 4398046511104 then (variorumref08_runs.l0 k x0 (x3 ++ [(⟨1, (⟨#[]⟩ : ByteArray), 0⟩ : S43)]) (wrap64 (x4 + 1))) else (none)) else (if ((rd_T51 x0 x4).f0) = 2 then (if x3.length < 4398046511104 then (variorumref08_runs.l0 k x0 (x3 ++ [(⟨0, (rd_T51 x0 x4).f1, 0⟩ : S43)]) (wrap64 (x4 + 1))) else (none)) else (if x3.length < 4398046511104 then (variorumref08_runs.l0 k x0 (x3 ++ [(⟨0, (⟨#[]⟩ : ByteArray), 1⟩ : S43)]) (wrap64 (x4 + 1))) else (none)))) else (none)) else (some x3)
def variorumref08_runs.f (k : Nat) (l0 : List (S51)) : Option ((List (S43))) := variorumref08_runs.l0 k l0 ([] : List (S43)) 0
theorem variorumref08_runs.mono_l : ∀ k, (∀ y0 y1 y2, LeO (variorumref08_runs.l0 k y0 y1 y2) (variorumref08_runs.l0 (k + 1) y0 y1 y2))
 | 0 => fun _ _ _ r h => by simp [variorumref08_runs.l0] at h
 | k + 1 => by
  have ih0 := variorumref08_runs.mono_l k
  ·intro y0 y1 y2
   unfold variorumref08_runs.l0
   repeat' first | (with_reducible exact ih0 _ _ _) | (with_reducible exact LeO.refl _) | (with_reducible refine LeO.ite ?_ ?_)
theorem variorumref08_runs.mono : ∀ a0 k, LeO (variorumref08_runs.f k a0) (variorumref08_runs.f (k + 1) a0) := by
 intro a0 k
 have ih0 := variorumref08_runs.mono_l k
 unfold variorumref08_runs.f
 repeat' (with_reducible exact ih0 _ _ _)
set_option maxHeartbeats 8000000 in
set_option maxRecDepth 100000 in
theorem variorumref08_runs.calls (k : Nat) (A0 : Option Addr) (c0 : Nat) (l0 : List (S51)) (r : List (S43)) (w : World) (hr0 : Kd.C k51 w A0 l0.length l0) (hc0 : l0.length ≤ c0) (h : variorumref08_runs.f k l0 = some r) :
  Calls Try.prog 27 #[.slice A0 l0.length c0] w fun e w' => ∃ v0_ : Value, e = .returned (v0_) ∧ Kd.R k43 43 w' w.heap.size (fun _ => True) v0_ r ∧ Below w.heap.size w w' := by
 have hu43 := Try.underlying43
 have HR0 := Aside0.mk hr0
 have HC0 := Aside0.mk hc0
 clear hr0 hc0
 have HB := Aside0.mk (Below.refl w.heap.size w)
 have H : (variorumref08_runs.l0 k l0 ([] : List (S43)) 0) = some r := h
 clear h
 have H' := Aside0.mk H
 clear H
 go_enter Try.func27, Try.ntmps27
 go_wp2
 go_loopg [3, 4] k (fun kq v3 v4 w' => ∃ (x3_1 : List (S43)) (x4_1 : Int), v4 = .int .i64 x4_1 ∧ Aside0 (variorumref08_runs.l0 kq l0 x3_1 x4_1 = some r) ∧ Aside0 (kq ≤ k) ∧ Aside0 (Kd.R k43 43 w' w.heap.size (fun _ => True) v3 x3_1) ∧ Aside0 (Below w.heap.size w w'))
 case atStart => exact ⟨(([] : List (S43))), (0), (by (rfl)), H', ⟨Nat.le_refl _⟩, ⟨by (exact Kd.R_nil _ _ _ _ _)⟩, ⟨by repeat ((with_reducible (exact HB.out)))⟩⟩
 case round =>
  clear H'
  obtain ⟨x3_1, x4_1, rfl, HA, HK1, HO_3, HB⟩ := hrel
  cases gk with
  | zero => exact absurd HA.out (by simp [variorumref08_runs.l0])
  | succ k1 =>
   have H := HA.out
   clear HA
   simp only [variorumref08_runs.l0] at H
   by_cases c2 : x4_1 < (l0.length : Int)
   ·rw [if_pos c2] at H
    have c2b0 : decide (x4_1 < (l0.length : Int)) = true := decide_eq_true c2
    clear c2
    by_cases c3 : 0 ≤ x4_1
    ·rw [if_pos c3] at H
     have c3b0 : decide (0 ≤ x4_1) = true := decide_eq_true c3
     clear c3
     by_cases c4 : ((rd_T51 l0 x4_1).f0) = 1
     ·rw [if_pos c4] at H
      have c4b0 : (((rd_T51 l0 x4_1).f0) == 1) = true := beq_iff_eq.mpr c4
      have c4b1 : (((rd_T51 l0 x4_1).f0) != 1) = false := bne_eq_false_iff_eq.mpr c4
      clear c4
      by_cases c5 : x3_1.length < 4398046511104
      ·rw [if_pos c5] at H
       have LMc5 := Aside0.mk c5
       clear c5
       obtain ⟨y163, hy163⟩ : ∃ y_ : List (S43), y_ = (x3_1 ++ [(⟨1, (⟨#[]⟩ : ByteArray), 0⟩ : S43)]) := ⟨_, rfl⟩
       replace H : (variorumref08_runs.l0 k1 l0 y163 (wrap64 (x4_1 + 1))) = some r := by (rw [hy163]; with_reducible exact H)
       have Ny163 := Aside0.mk hy163
       clear hy163
       have H' := Aside0.mk H
       clear H
       have p162 : 0 ≤ (x4_1 : Int) := of_decide_eq_true (by (with_reducible assumption))
       have q162 : x4_1 < (l0.length : Int) := of_decide_eq_true (by (with_reducible assumption))
       obtain ⟨ad162, e162, hx162_0, hx162_1⟩ := at_T51 HR0.out x4_1 p162 q162
       cases e162
       replace hx162_0 := (HB.out.cell (World.block_lt_of_cell? w _ hx162_0)).trans hx162_0
       replace hx162_1 := (HB.out.cell (World.block_lt_of_cell? w _ hx162_1)).trans hx162_1
       replace p162 := eq_true p162
       replace q162 := eq_true q162
       go_wp2_with (first | ((with_reducible refine gate_builtin (b := .append) (xs := #[.tmp 22, .tmp 24]) rfl ?_); at_builtin; refine Kd.R_append k43 (w0 := w) w.heap.size rfl (.tmp 22) (.tmp 24) 22 43 (.agg #[(.int .i64 0), (.string ⟨#[]⟩), (.int .i64 0)]) 32 rfl Try.underlying22 info43 rfl (by decide) (by omega) u3 x3_1 (⟨1, (⟨#[]⟩ : ByteArray), 0⟩ : S43) [.int .i64 1, .string (⟨#[]⟩ : ByteArray), .int .i64 0] (fun _ => True) (fun _ => False) rfl rfl ?aP (fun _ hk => hk.elim) ?aF ?aO ?aB ?aS ?aL ?_; (case aP => exact k43_mkM _ _ _ (⟨1, (⟨#[]⟩ : ByteArray), 0⟩ : S43)); (case aB => exact (by repeat ((with_reducible (exact HB.out))))); (case aF => exact (fun _ _ => trivial)); (case aO => exact (by (with_reducible repeat ((apply Kd.R_drew))); exact HO_3.out)); (case aS => exact (below_size (by repeat ((with_reducible (exact HB.out)))))); (case aL => have := LMc5.out; omega); intro v164 w6 ho hb hg hat; rw [← Ny163.out] at ho; have n0_ := Aside0.mk (hb); have n1_ := Aside0.mk (ho); clear HB; clear HO_3; have HB := n0_; have HO165 := n1_; clear n0_ n1_; clear ho hb hg hat))
       go_roundg k1
       case measure => have := HK1.out; omega
       case rel => exact ⟨(y163), (wrap64 (x4_1 + 1)), (by (rfl)), H', ⟨by have := HK1.out; omega⟩, ⟨by (with_reducible repeat ((apply Kd.R_drew))); exact HO165.out⟩, ⟨by repeat ((with_reducible (exact HB.out)))⟩⟩
      ·rw [if_neg c5] at H
       exact absurd H (by simp)
     ·rw [if_neg c4] at H
      have c4b0 : (((rd_T51 l0 x4_1).f0) == 1) = false := beq_eq_false_iff_ne.mpr c4
      have c4b1 : (((rd_T51 l0 x4_1).f0) != 1) = true := bne_iff_ne.mpr c4
      by_cases c7 : ((rd_T51 l0 x4_1).f0) = 2
      ·rw [if_pos c7] at H
       have c7b0 : (((rd_T51 l0 x4_1).f0) == 2) = true := beq_iff_eq.mpr c7
       have c7b1 : (((rd_T51 l0 x4_1).f0) != 2) = false := bne_eq_false_iff_eq.mpr c7
       clear c7
       by_cases c8 : x3_1.length < 4398046511104
       ·rw [if_pos c8] at H
        have LMc8 := Aside0.mk c8
        clear c8
        obtain ⟨y167, hy167⟩ : ∃ y_ : List (S43), y_ = (x3_1 ++ [(⟨0, (rd_T51 l0 x4_1).f1, 0⟩ : S43)]) := ⟨_, rfl⟩
        replace H : (variorumref08_runs.l0 k1 l0 y167 (wrap64 (x4_1 + 1))) = some r := by (rw [hy167]; with_reducible exact H)
        have Ny167 := Aside0.mk hy167
        clear hy167
        have H' := Aside0.mk H
        clear H
        have p162 : 0 ≤ (x4_1 : Int) := of_decide_eq_true (by (with_reducible assumption))
        have q162 : x4_1 < (l0.length : Int) := of_decide_eq_true (by (with_reducible assumption))
        obtain ⟨ad162, e162, hx162_0, hx162_1⟩ := at_T51 HR0.out x4_1 p162 q162
        cases e162
        replace hx162_0 := (HB.out.cell (World.block_lt_of_cell? w _ hx162_0)).trans hx162_0
        replace hx162_1 := (HB.out.cell (World.block_lt_of_cell? w _ hx162_1)).trans hx162_1
        replace p162 := eq_true p162
        replace q162 := eq_true q162
        have p166 : 0 ≤ (x4_1 : Int) := of_decide_eq_true (by (with_reducible assumption))
        have q166 : x4_1 < (l0.length : Int) := of_decide_eq_true (by (with_reducible assumption))
        obtain ⟨ad166, e166, hx166_0, hx166_1⟩ := at_T51 HR0.out x4_1 p166 q166
        obtain rfl : ad162 = ad166 := (by injection e166)
        replace hx166_0 := (HB.out.cell (World.block_lt_of_cell? w _ hx166_0)).trans hx166_0
        replace hx166_1 := (HB.out.cell (World.block_lt_of_cell? w _ hx166_1)).trans hx166_1
        replace p166 := eq_true p166
        replace q166 := eq_true q166
        go_wp2_with (first | ((with_reducible refine gate_builtin (b := .append) (xs := #[.tmp 28, .tmp 35]) rfl ?_); at_builtin; refine Kd.R_append k43 (w0 := w) w.heap.size rfl (.tmp 28) (.tmp 35) 22 43 (.agg #[(.int .i64 0), (.string ⟨#[]⟩), (.int .i64 0)]) 32 rfl Try.underlying22 info43 rfl (by decide) (by omega) u3 x3_1 (⟨0, (rd_T51 l0 x4_1).f1, 0⟩ : S43) [.int .i64 0, .string ((rd_T51 l0 x4_1).f1), .int .i64 0] (fun _ => True) (fun _ => False) rfl rfl ?aP (fun _ hk => hk.elim) ?aF ?aO ?aB ?aS ?aL ?_; (case aP => exact k43_mkM _ _ _ (⟨0, (rd_T51 l0 x4_1).f1, 0⟩ : S43)); (case aB => exact (by repeat ((with_reducible (exact HB.out))))); (case aF => exact (fun _ _ => trivial)); (case aO => exact (by (with_reducible repeat ((apply Kd.R_drew))); exact HO_3.out)); (case aS => exact (below_size (by repeat ((with_reducible (exact HB.out)))))); (case aL => have := LMc8.out; omega); intro v168 w9 ho hb hg hat; rw [← Ny167.out] at ho; have n0_ := Aside0.mk (hb); have n1_ := Aside0.mk (ho); clear HB; clear HO_3; have HB := n0_; have HO169 := n1_; clear n0_ n1_; clear ho hb hg hat))
        go_roundg k1
        case measure => have := HK1.out; omega
        case rel => exact ⟨(y167), (wrap64 (x4_1 + 1)), (by (rfl)), H', ⟨by have := HK1.out; omega⟩, ⟨by (with_reducible repeat ((apply Kd.R_drew))); exact HO169.out⟩, ⟨by repeat ((with_reducible (exact HB.out)))⟩⟩
       ·rw [if_neg c8] at H
        exact absurd H (by simp)
      ·rw [if_neg c7] at H
       have c7b0 : (((rd_T51 l0 x4_1).f0) == 2) = false := beq_eq_false_iff_ne.mpr c7
       have c7b1 : (((rd_T51 l0 x4_1).f0) != 2) = true := bne_iff_ne.mpr c7
       by_cases c10 : x3_1.length < 4398046511104
       ·rw [if_pos c10] at H
        have LMc10 := Aside0.mk c10
        clear c10
        obtain ⟨y170, hy170⟩ : ∃ y_ : List (S43), y_ = (x3_1 ++ [(⟨0, (⟨#[]⟩ : ByteArray), 1⟩ : S43)]) := ⟨_, rfl⟩
        replace H : (variorumref08_runs.l0 k1 l0 y170 (wrap64 (x4_1 + 1))) = some r := by (rw [hy170]; with_reducible exact H)
        have Ny170 := Aside0.mk hy170
        clear hy170
        have H' := Aside0.mk H
        clear H
        have p162 : 0 ≤ (x4_1 : Int) := of_decide_eq_true (by (with_reducible assumption))
        have q162 : x4_1 < (l0.length : Int) := of_decide_eq_true (by (with_reducible assumption))
        obtain ⟨ad162, e162, hx162_0, hx162_1⟩ := at_T51 HR0.out x4_1 p162 q162
        cases e162
        replace hx162_0 := (HB.out.cell (World.block_lt_of_cell? w _ hx162_0)).trans hx162_0
        replace hx162_1 := (HB.out.cell (World.block_lt_of_cell? w _ hx162_1)).trans hx162_1
        replace p162 := eq_true p162
        replace q162 := eq_true q162
        go_wp2_with (first | ((with_reducible refine gate_builtin (b := .append) (xs := #[.tmp 16, .tmp 18]) rfl ?_); at_builtin; refine Kd.R_append k43 (w0 := w) w.heap.size rfl (.tmp 16) (.tmp 18) 22 43 (.agg #[(.int .i64 0), (.string ⟨#[]⟩), (.int .i64 0)]) 32 rfl Try.underlying22 info43 rfl (by decide) (by omega) u3 x3_1 (⟨0, (⟨#[]⟩ : ByteArray), 1⟩ : S43) [.int .i64 0, .string (⟨#[]⟩ : ByteArray), .int .i64 1] (fun _ => True) (fun _ => False) rfl rfl ?aP (fun _ hk => hk.elim) ?aF ?aO ?aB ?aS ?aL ?_; (case aP => exact k43_mkM _ _ _ (⟨0, (⟨#[]⟩ : ByteArray), 1⟩ : S43)); (case aB => exact (by repeat ((with_reducible (exact HB.out))))); (case aF => exact (fun _ _ => trivial)); (case aO => exact (by (with_reducible repeat ((apply Kd.R_drew))); exact HO_3.out)); (case aS => exact (below_size (by repeat ((with_reducible (exact HB.out)))))); (case aL => have := LMc10.out; omega); intro v171 w11 ho hb hg hat; rw [← Ny170.out] at ho; have n0_ := Aside0.mk (hb); have n1_ := Aside0.mk (ho); clear HB; clear HO_3; have HB := n0_; have HO172 := n1_; clear n0_ n1_; clear ho hb hg hat))
        go_roundg k1
        case measure => have := HK1.out; omega
        case rel => exact ⟨(y170), (wrap64 (x4_1 + 1)), (by (rfl)), H', ⟨by have := HK1.out; omega⟩, ⟨by (with_reducible repeat ((apply Kd.R_drew))); exact HO172.out⟩, ⟨by repeat ((with_reducible (exact HB.out)))⟩⟩
       ·rw [if_neg c10] at H
        exact absurd H (by simp)
    ·rw [if_neg c3] at H
     exact absurd H (by simp)
   ·rw [if_neg c2] at H
    have c2b0 : decide (x4_1 < (l0.length : Int)) = false := decide_eq_false c2
    clear c2
    obtain rfl := Option.some.inj H
    go_wp2
    go_ret
    exact ⟨_, by (rfl), by (with_reducible repeat ((apply Kd.R_drew))); exact HO_3.out, by repeat ((with_reducible (exact HB.out)))⟩
end Go.Proofs.Ytbfdplmgefcogaa.P
end
-- MERGED YtbfdplmgefcogaaPvariorumref08Two
section

namespace Go.Proofs.Ytbfdplmgefcogaa.P
open Go.RowKit Go.Proofs.YtbfdplmgefcogaaW.PrintWords Go.Proofs.YtbfdplmgefcogaaW.PrintLast Go.Proofs.YtbfdplmgefcogaaW.PrintMore
attribute [local go_sem] max2_int min2_int max_two min_two max_three min_three max_four min_four
set_option linter.unusedVariables false
set_option linter.unusedSimpArgs false
mutual
def variorumref08_Two.j0 : Nat → List (S43) → List (S43) → Bool → Option ((List (S43)) × Int)
 | 0, _, _, _ => none
 | k + 1, x0, x1, x27 => if x27 = true then (some (([] : List (S43)), 60)) else ((variorumref08_units.f k x0).bind fun t216 => ((variorumref08_units.f k x1).bind fun t219 => (variorumref08_Two.l0 k t216 t219 ([] : List (S51)) 0 0)))
def variorumref08_Two.l0 : Nat → List (S51) → List (S51) → List (S51) → Int → Int → Option ((List (S43)) × Int)
 | 0, _, _, _, _, _ => none
 | k + 1, x6, x7, x8, x9, x10 => if x9 < (x6.length : Int) then (variorumref08_Two.j2 k x6 x7 x8 x9 x10 true) else (variorumref08_Two.j2 k x6 x7 x8 x9 x10 (decide (x10 < (x7.length : Int))))
def variorumref08_Two.j2 : Nat → List (S51) → List (S51) → List (S51) → Int → Int → Bool → Option ((List (S43)) × Int)
 | 0, _, _, _, _, _, _ => none
 | k + 1, x6, x7, x8, x9, x10, x41 => if x41 = true then (if x9 < (x6.length : Int) then (if 0 ≤ x9 then (variorumref08_Two.j3 k x6 x7 x8 x9 x10 (((rd_T51 x6 x9).f0) == 3)) else (none)) else (variorumref08_Two.j3 k x6 x7 x8 x9 x10 false)) else ((variorumref08_runs.f k x8).bind fun t242 => ((variorumref06_Norm.f k t242).bind fun t245 => (if (t242.length : Int) > 0 then (if (t245.length : Int) = 0 then (some (([] : List (S43)), 31)) else (some (t245, 0))) else (some (t245, 0)))))
def variorumref08_Two.j3 : Nat → List (S51) → List (S51) → List (S51) → Int → Int → Bool → Option ((List (S43)) × Int)
 | 0, _, _, _, _, _, _ => none
 | k + 1, x6, x7, x8, x9, x10, x53 => if x53 = true then (if 0 ≤ x9 then (if x9 < (x6.length : Int) then (if x8.length < 5864062014805 then (variorumref08_Two.l0 k x6 x7 (x8 ++ [(⟨(rd_T51 x6 x9).f0, (rd_T51 x6 x9).f1⟩ : S51)]) (wrap64 (x9 + 1)) x10) else (none)) else (none)) else (none)) else (if 0 ≤ x10 then (if x10 < (x7.length : Int) then (if ((rd_T51 x7 x10).f0) = 2 then (if x8.length < 5864062014805 then (variorumref08_Two.l0 k x6 x7 (x8 ++ [(⟨(rd_T51 x7 x10).f0, (rd_T51 x7 x10).f1⟩ : S51)]) x9 (wrap64 (x10 + 1))) else (none)) else (if ((rd_T51 x7 x10).f0) = 1 then (if 0 ≤ x9 then (if x9 < (x6.length : Int) then (if x8.length < 5864062014805 then (variorumref08_Two.l0 k x6 x7 (x8 ++ [(⟨(rd_T51 x6 x9).f0, (rd_T51 x6 x9).f1⟩ : S51)]) (wrap64 (x9 + 1)) (wrap64 (x10 + 1))) else (none)) else (none)) else (none)) else (if 0 ≤ x9 then (if x9 < (x6.length : Int) then (if ((rd_T51 x6 x9).f0) = 1 then (if x8.length < 5864062014805 then (variorumref08_Two.l0 k x6 x7 (x8 ++ [(⟨(rd_T51 x7 x10).f0, (rd_T51 x7 x10).f1⟩ : S51)]) (wrap64 (x9 + 1)) (wrap64 (x10 + 1))) else (none)) else (variorumref08_Two.l0 k x6 x7 x8 (wrap64 (x9 + 1)) (wrap64 (x10 + 1)))) else (none)) else (none)))) else (none)) else (none))
end
def variorumref08_Two.f (k : Nat) (l0 : List (S43)) (l1 : List (S43)) : Option ((List (S43)) × Int) := (variorumref06_Good.f l0).bind fun t212 => (if t212 = true then ((variorumref06_Good.f l1).bind fun t213 => (if t213 = true then ((variorumref06_Out.f k l0).bind fun t214 => ((variorumref06_In.f k l1).bind fun t215 => (variorumref08_Two.j0 k l0 l1 (t214 != t215)))) else (variorumref08_Two.j0 k l0 l1 true))) else (variorumref08_Two.j0 k l0 l1 true))
theorem variorumref08_Two.mono_l : ∀ k, (∀ y0 y1 y2, LeO (variorumref08_Two.j0 k y0 y1 y2) (variorumref08_Two.j0 (k + 1) y0 y1 y2)) ∧ (∀ y0 y1 y2 y3 y4, LeO (variorumref08_Two.l0 k y0 y1 y2 y3 y4) (variorumref08_Two.l0 (k + 1) y0 y1 y2 y3 y4)) ∧ (∀ y0 y1 y2 y3 y4 y5, LeO (variorumref08_Two.j2 k y0 y1 y2 y3 y4 y5) (variorumref08_Two.j2 (k + 1) y0 y1 y2 y3 y4 y5)) ∧ (∀ y0 y1 y2 y3 y4 y5, LeO (variorumref08_Two.j3 k y0 y1 y2 y3 y4 y5) (variorumref08_Two.j3 (k + 1) y0 y1 y2 y3 y4 y5))
 | 0 => ⟨fun _ _ _ r h => by simp [variorumref08_Two.j0] at h, fun _ _ _ _ _ r h => by simp [variorumref08_Two.l0] at h, fun _ _ _ _ _ _ r h => by simp [variorumref08_Two.j2] at h, fun _ _ _ _ _ _ r h => by simp [variorumref08_Two.j3] at h⟩
 | k + 1 => by
  obtain ⟨ih0, ih1, ih2, ih3⟩ := variorumref08_Two.mono_l k
  refine ⟨?_, ?_, ?_, ?_⟩
  ·intro y0 y1 y2
   unfold variorumref08_Two.j0
   repeat' first | (with_reducible exact ih1 _ _ _ _ _) | (with_reducible exact variorumref08_units.mono _ _) | (with_reducible exact LeO.refl _) | (with_reducible refine LeO.ite ?_ ?_) | (with_reducible refine LeO.bind ?_ (fun _ => ?_))
  ·intro y0 y1 y2 y3 y4
   unfold variorumref08_Two.l0
   repeat' first | (with_reducible exact ih2 _ _ _ _ _ _) | (with_reducible refine LeO.ite ?_ ?_)
  ·intro y0 y1 y2 y3 y4 y5
   unfold variorumref08_Two.j2
   repeat' first | (with_reducible exact ih3 _ _ _ _ _ _) | (with_reducible exact variorumref06_Norm.mono _ _) | (with_reducible exact variorumref08_runs.mono _ _) | (with_reducible exact LeO.refl _) | (with_reducible refine LeO.ite ?_ ?_) | (with_reducible refine LeO.bind ?_ (fun _ => ?_))
  ·intro y0 y1 y2 y3 y4 y5
   unfold variorumref08_Two.j3
   repeat' first | (with_reducible exact ih1 _ _ _ _ _) | (with_reducible exact LeO.refl _) | (with_reducible refine LeO.ite ?_ ?_)
theorem variorumref08_Two.mono : ∀ a0 a1 k, LeO (variorumref08_Two.f k a0 a1) (variorumref08_Two.f (k + 1) a0 a1) := by
 intro a0 a1 k
 obtain ⟨ih0, ih1, ih2, ih3⟩ := variorumref08_Two.mono_l k
 unfold variorumref08_Two.f
 repeat' first | (with_reducible exact ih0 _ _ _) | (with_reducible exact variorumref06_In.mono _ _) | (with_reducible exact variorumref06_Out.mono _ _) | (with_reducible exact LeO.refl _) | (with_reducible refine LeO.ite ?_ ?_) | (with_reducible refine LeO.bind ?_ (fun _ => ?_))
set_option maxHeartbeats 8000000 in
set_option maxRecDepth 100000 in
theorem variorumref08_Two.calls (k : Nat) (A0 : Option Addr) (c0 : Nat) (l0 : List (S43)) (A1 : Option Addr) (c1 : Nat) (l1 : List (S43)) (r1 : List (S43)) (r2 : Int) (w : World) (hr0 : Kd.C k43 w A0 l0.length l0) (hc0 : l0.length ≤ c0) (hr1 : Kd.C k43 w A1 l1.length l1) (hc1 : l1.length ≤ c1) (h : variorumref08_Two.f k l0 l1 = some (r1, r2)) :
  Calls Try.prog 10 #[.slice A0 l0.length c0, .slice A1 l1.length c1] w fun e w' => ∃ v0_ : Value, e = .returned (.tuple #[v0_, .int .i64 r2]) ∧ Kd.R k43 43 w' w.heap.size (fun _ => True) v0_ r1 ∧ Below w.heap.size w w' := by
 have hu51 := Try.underlying51
 have HR0 := Aside0.mk hr0
 have HC0 := Aside0.mk hc0
 clear hr0 hc0
 have HR1 := Aside0.mk hr1
 have HC1 := Aside0.mk hc1
 clear hr1 hc1
 have HB := Aside0.mk (Below.refl w.heap.size w)
 have H : ((variorumref06_Good.f l0).bind fun t212 => (if t212 = true then ((variorumref06_Good.f l1).bind fun t213 => (if t213 = true then ((variorumref06_Out.f k l0).bind fun t214 => ((variorumref06_In.f k l1).bind fun t215 => (variorumref08_Two.j0 k l0 l1 (t214 != t215)))) else (variorumref08_Two.j0 k l0 l1 true))) else (variorumref08_Two.j0 k l0 l1 true))) = some (r1, r2) := h
 clear h
 have HC3 := Aside0.mk H
 clear H
 go_enter Try.func10, Try.ntmps10
 go_upto_region 1 with (fail)
 go_cut [27] (fun v27 wc => ∃ (kq : Nat) (x27_2 : Bool), v27 = .bool x27_2 ∧ Aside0 (variorumref08_Two.j0 kq l0 l1 x27_2 = some (r1, r2)) ∧ Aside0 (kq ≤ k) ∧ Aside0 (Below w.heap.size w wc))
 case first =>
  have H := HC3.out
  clear HC3
  replace H := Option.bind_eq_some_iff.mp H
  obtain ⟨t212, A40, H⟩ := H
  replace H : (if t212 = true then ((variorumref06_Good.f l1).bind fun t213 => (if t213 = true then ((variorumref06_Out.f k l0).bind fun t214 => ((variorumref06_In.f k l1).bind fun t215 => (variorumref08_Two.j0 k l0 l1 (t214 != t215)))) else (variorumref08_Two.j0 k l0 l1 true))) else (variorumref08_Two.j0 k l0 l1 true)) = some (r1, r2) := H
  have A4 := Aside0.mk A40
  clear A40
  by_cases c5 : t212 = true
  ·subst c5
   have H1 : ((variorumref06_Good.f l1).bind fun t213 => (if t213 = true then ((variorumref06_Out.f k l0).bind fun t214 => ((variorumref06_In.f k l1).bind fun t215 => (variorumref08_Two.j0 k l0 l1 (t214 != t215)))) else (variorumref08_Two.j0 k l0 l1 true))) = some (r1, r2) := by rw [if_pos rfl] at H; exact H
   clear H
   have H := H1
   clear H1
   replace H := Option.bind_eq_some_iff.mp H
   obtain ⟨t213, A60, H⟩ := H
   replace H : (if t213 = true then ((variorumref06_Out.f k l0).bind fun t214 => ((variorumref06_In.f k l1).bind fun t215 => (variorumref08_Two.j0 k l0 l1 (t214 != t215)))) else (variorumref08_Two.j0 k l0 l1 true)) = some (r1, r2) := H
   have A6 := Aside0.mk A60
   clear A60
   by_cases c7 : t213 = true
   ·subst c7
    have H1 : ((variorumref06_Out.f k l0).bind fun t214 => ((variorumref06_In.f k l1).bind fun t215 => (variorumref08_Two.j0 k l0 l1 (t214 != t215)))) = some (r1, r2) := by rw [if_pos rfl] at H; exact H
    clear H
    have H := H1
    clear H1
    replace H := Option.bind_eq_some_iff.mp H
    obtain ⟨t214, A80, H⟩ := H
    replace H : ((variorumref06_In.f k l1).bind fun t215 => (variorumref08_Two.j0 k l0 l1 (t214 != t215))) = some (r1, r2) := H
    have A8 := Aside0.mk A80
    clear A80
    replace H := Option.bind_eq_some_iff.mp H
    obtain ⟨t215, A90, H⟩ := H
    replace H : (variorumref08_Two.j0 k l0 l1 (t214 != t215)) = some (r1, r2) := H
    have A9 := Aside0.mk A90
    clear A90
    have H' := Aside0.mk H
    clear H
    go_wp2_with (first | ((with_reducible refine gate_callee (f := 20) rfl ?_); refine goesL_ (some 14) rfl rfl Try.func20 (by kernel_rfl) rfl #[.slice A0 l0.length c0] rfl (by (try simp only [List.map_toArray, List.map_cons, List.map_nil]); (rfl)) ?_; (with_reducible refine (variorumref06_Good.calls _ _ l0 true _ ?side1 ?side2 A4.out).mono ?_); (case side1 => repeat ((exact (Kd.C_below HR0.out HB.out)))); (case side2 => exact HC0.out); rintro e w10 ⟨rfl, hb⟩; refine ⟨_, rfl, ?_⟩; have n0_ := Aside0.mk (below_step (by repeat ((with_reducible (exact HB.out)))) hb); clear HB; have HB := n0_; clear n0_; (try clear hb); (try clear hb2); (try clear hk); (try clear hi)) | (go_at_call 20; (with_reducible refine (variorumref06_Good.calls _ _ l1 true _ ?side1 ?side2 A6.out).mono ?_); (case side1 => repeat ((exact (Kd.C_below HR1.out HB.out)))); (case side2 => exact HC1.out); rintro e w11 ⟨rfl, hb⟩; have n0_ := Aside0.mk (below_step (by repeat ((with_reducible (exact HB.out)))) hb); clear HB; have HB := n0_; clear n0_; (try clear hb); (try clear hb2); (try clear hk); (try clear hi)) | (go_at_call 22; (with_reducible refine (variorumref06_Out.calls k _ _ l0 t214 _ ?side1 ?side2 A8.out).mono ?_); (case side1 => repeat ((exact (Kd.C_below HR0.out HB.out)))); (case side2 => exact HC0.out); rintro e w12 ⟨rfl, hb⟩; have n0_ := Aside0.mk (below_step (by repeat ((with_reducible (exact HB.out)))) hb); clear HB; have HB := n0_; clear n0_; (try clear hb); (try clear hb2); (try clear hk); (try clear hi)) | (go_at_call 21; (with_reducible refine (variorumref06_In.calls k _ _ l1 t215 _ ?side1 ?side2 A9.out).mono ?_); (case side1 => repeat ((exact (Kd.C_below HR1.out HB.out)))); (case side2 => exact HC1.out); rintro e w13 ⟨rfl, hb⟩; have n0_ := Aside0.mk (below_step (by repeat ((with_reducible (exact HB.out)))) hb); clear HB; have HB := n0_; clear n0_; (try clear hb); (try clear hb2); (try clear hk); (try clear hi)))
    go_meet
    case rel => exact ⟨_, ((t214 != t215)), (by (rfl)), H', ⟨by (omega)⟩, ⟨by repeat ((with_reducible (exact HB.out)))⟩⟩
   ·replace c7 := Bool.eq_false_iff.mpr c7
    subst c7
    have H1 : (variorumref08_Two.j0 k l0 l1 true) = some (r1, r2) := by rw [if_neg (show ¬ (false = true) by decide)] at H; exact H
    clear H
    have H := H1
    clear H1
    have H' := Aside0.mk H
    clear H
    go_wp2_with (first | ((with_reducible refine gate_callee (f := 20) rfl ?_); refine goesL_ (some 14) rfl rfl Try.func20 (by kernel_rfl) rfl #[.slice A0 l0.length c0] rfl (by (try simp only [List.map_toArray, List.map_cons, List.map_nil]); (rfl)) ?_; (with_reducible refine (variorumref06_Good.calls _ _ l0 true _ ?side1 ?side2 A4.out).mono ?_); (case side1 => repeat ((exact (Kd.C_below HR0.out HB.out)))); (case side2 => exact HC0.out); rintro e w14 ⟨rfl, hb⟩; refine ⟨_, rfl, ?_⟩; have n0_ := Aside0.mk (below_step (by repeat ((with_reducible (exact HB.out)))) hb); clear HB; have HB := n0_; clear n0_; (try clear hb); (try clear hb2); (try clear hk); (try clear hi)) | (go_at_call 20; (with_reducible refine (variorumref06_Good.calls _ _ l1 false _ ?side1 ?side2 A6.out).mono ?_); (case side1 => repeat ((exact (Kd.C_below HR1.out HB.out)))); (case side2 => exact HC1.out); rintro e w15 ⟨rfl, hb⟩; have n0_ := Aside0.mk (below_step (by repeat ((with_reducible (exact HB.out)))) hb); clear HB; have HB := n0_; clear n0_; (try clear hb); (try clear hb2); (try clear hk); (try clear hi)))
    go_meet
    case rel => exact ⟨_, (true), (by (rfl)), H', ⟨by (omega)⟩, ⟨by repeat ((with_reducible (exact HB.out)))⟩⟩
  ·replace c5 := Bool.eq_false_iff.mpr c5
   subst c5
   have H1 : (variorumref08_Two.j0 k l0 l1 true) = some (r1, r2) := by rw [if_neg (show ¬ (false = true) by decide)] at H; exact H
   clear H
   have H := H1
   clear H1
   have H' := Aside0.mk H
   clear H
   go_wp2_with (first | ((with_reducible refine gate_callee (f := 20) rfl ?_); refine goesL_ (some 14) rfl rfl Try.func20 (by kernel_rfl) rfl #[.slice A0 l0.length c0] rfl (by (try simp only [List.map_toArray, List.map_cons, List.map_nil]); (rfl)) ?_; (with_reducible refine (variorumref06_Good.calls _ _ l0 false _ ?side1 ?side2 A4.out).mono ?_); (case side1 => repeat ((exact (Kd.C_below HR0.out HB.out)))); (case side2 => exact HC0.out); rintro e w16 ⟨rfl, hb⟩; refine ⟨_, rfl, ?_⟩; have n0_ := Aside0.mk (below_step (by repeat ((with_reducible (exact HB.out)))) hb); clear HB; have HB := n0_; clear n0_; (try clear hb); (try clear hb2); (try clear hk); (try clear hi)))
   go_meet
   case rel => exact ⟨_, (true), (by (rfl)), H', ⟨by (omega)⟩, ⟨by repeat ((with_reducible (exact HB.out)))⟩⟩
 case rest =>
  clear HC3
  try clear c1
  try clear c2
  try clear p2
  try clear c5
  try clear c7
  try clear c10
  obtain ⟨kq, x27_2, rfl, HA, HJ2, HB⟩ := hcut
  cases kq with
  | zero => exact absurd HA.out (by simp [variorumref08_Two.j0])
  | succ kj2 =>
   have H := HA.out
   clear HA
   simp only [variorumref08_Two.j0] at H
   by_cases c17 : x27_2 = true
   ·subst c17
    have H1 : (some (([] : List (S43)), 60)) = some (r1, r2) := by rw [if_pos rfl] at H; exact H
    clear H
    have H := H1
    clear H1
    simp only [Option.some.injEq, Prod.mk.injEq] at H
    obtain ⟨rfl, rfl⟩ := H
    go_wp2
    go_ret2
    exact ⟨_, by (rfl), by (exact Kd.R_nil _ _ _ _ _), by repeat ((with_reducible (exact HB.out)))⟩
   ·replace c17 := Bool.eq_false_iff.mpr c17
    subst c17
    have H1 : ((variorumref08_units.f kj2 l0).bind fun t216 => ((variorumref08_units.f kj2 l1).bind fun t219 => (variorumref08_Two.l0 kj2 t216 t219 ([] : List (S51)) 0 0))) = some (r1, r2) := by rw [if_neg (show ¬ (false = true) by decide)] at H; exact H
    clear H
    have H := H1
    clear H1
    replace H := Option.bind_eq_some_iff.mp H
    obtain ⟨t216, A180, H⟩ := H
    replace H : ((variorumref08_units.f kj2 l1).bind fun t219 => (variorumref08_Two.l0 kj2 t216 t219 ([] : List (S51)) 0 0)) = some (r1, r2) := H
    have A18 := Aside0.mk A180
    clear A180
    replace H := Option.bind_eq_some_iff.mp H
    obtain ⟨t219, A190, H⟩ := H
    replace H : (variorumref08_Two.l0 kj2 t216 t219 ([] : List (S51)) 0 0) = some (r1, r2) := H
    have A19 := Aside0.mk A190
    clear A190
    have H' := Aside0.mk H
    clear H
    go_wp2_with (first | ((with_reducible refine gate_callee (f := 26) rfl ?_); refine goesL_ (some 29) rfl rfl Try.func26 (by kernel_rfl) rfl #[.slice A0 l0.length c0] rfl (by (try simp only [List.map_toArray, List.map_cons, List.map_nil]); (rfl)) ?_; (with_reducible refine (variorumref08_units.calls kj2 _ _ l0 t216 _ ?side1 ?side2 A18.out).mono ?_); (case side1 => repeat ((exact (Kd.C_below HR0.out HB.out)))); (case side2 => exact HC0.out); rintro e w20 ⟨v217, rfl, ho0, hb⟩; refine ⟨_, rfl, ?_⟩; have n0_ := Aside0.mk (Kd.R_lower ho0 (below_size (by repeat ((with_reducible (exact HB.out)))))); have n1_ := Aside0.mk (below_step (by repeat ((with_reducible (exact HB.out)))) hb); clear HB; have HO218 := n0_; have HB := n1_; clear n0_ n1_; (try clear hb); (try clear hb2); (try clear hk); (try clear hi); (try clear ho0)) | ((with_reducible refine gate_callee (f := 26) rfl ?_); refine goesL_ (some 31) rfl rfl Try.func26 (by kernel_rfl) rfl #[.slice A1 l1.length c1] rfl (by (try simp only [List.map_toArray, List.map_cons, List.map_nil]); (rfl)) ?_; (with_reducible refine (variorumref08_units.calls kj2 _ _ l1 t219 _ ?side1 ?side2 A19.out).mono ?_); (case side1 => repeat ((exact (Kd.C_below HR1.out HB.out)))); (case side2 => exact HC1.out); rintro e w21 ⟨v220, rfl, ho0, hb⟩; refine ⟨_, rfl, ?_⟩; have n0_ := Aside0.mk (Kd.R_elder' (by (with_reducible repeat ((apply Kd.R_drew))); exact HO218.out) (Kd.R_base ho0) hb); have n1_ := Aside0.mk (Kd.R_lower (Kd.R_new' ho0 (Kd.R_lt (by (with_reducible repeat ((apply Kd.R_drew))); exact HO218.out))) (below_size (by repeat ((with_reducible (exact HB.out)))))); have n2_ := Aside0.mk (below_step (by repeat ((with_reducible (exact HB.out)))) hb); clear HO218; clear HB; have HO218 := n0_; have HO221 := n1_; have HB := n2_; clear n0_ n1_ n2_; (try clear hb); (try clear hb2); (try clear hk); (try clear hi); (try clear ho0)))
    go_loopg [8, 9, 10] kj2 (fun kq v8 v9 v10 w' => ∃ (x8_2 : List (S51)) (x9_2 : Int) (x10_2 : Int), v9 = .int .i64 x9_2 ∧ v10 = .int .i64 x10_2 ∧ Aside0 (variorumref08_Two.l0 kq t216 t219 x8_2 x9_2 x10_2 = some (r1, r2)) ∧ Aside0 (kq ≤ kj2) ∧ Aside0 (Kd.R k51 51 w' w.heap.size (fun k_ => some k_ ≠ (v220 : Value).ownBlock ∧ some k_ ≠ (v8 : Value).ownBlock) v217 t216) ∧ Aside0 (Kd.R k51 51 w' w.heap.size (fun k_ => some k_ ≠ (v217 : Value).ownBlock ∧ some k_ ≠ (v8 : Value).ownBlock) v220 t219) ∧ Aside0 (Kd.R k51 51 w' w.heap.size (fun k_ => some k_ ≠ (v217 : Value).ownBlock ∧ some k_ ≠ (v220 : Value).ownBlock) v8 x8_2) ∧ Aside0 (Below w.heap.size w w'))
    case atStart => exact ⟨(([] : List (S51))), (0), (0), (by (rfl)), (by (rfl)), H', ⟨Nat.le_refl _⟩, ⟨by (with_reducible repeat ((apply Kd.R_drew))); exact Kd.R_mono HO218.out (fun _ hk => ⟨hk.2, (by simp [Value.ownBlock])⟩)⟩, ⟨by (with_reducible repeat ((apply Kd.R_drew))); exact Kd.R_mono HO221.out (fun _ hk => ⟨hk.2, (by simp [Value.ownBlock])⟩)⟩, ⟨by (exact Kd.R_nil _ _ _ _ _)⟩, ⟨by repeat ((with_reducible (exact HB.out)))⟩⟩
    case round =>
     clear H'
     try clear c1
     try clear c2
     try clear p2
     try clear c5
     try clear c7
     try clear c10
     try clear c17
     try clear c20
     try clear p2
     obtain ⟨x8_2, x9_2, x10_2, rfl, rfl, HA, HK2, HO_6, HO_7, HO_8, HB⟩ := hrel
     cases gk with
     | zero => exact absurd HA.out (by simp [variorumref08_Two.l0])
     | succ k2 =>
      have H := HA.out
      clear HA
      simp only [variorumref08_Two.l0] at H
      have HC22 := Aside0.mk H
      clear H
      go_upto_region 8 with (fail)
      go_cut [41] (fun v41 wc => ∃ (kq : Nat) (x41_21 : Bool), v41 = .bool x41_21 ∧ Aside0 (variorumref08_Two.j2 kq t216 t219 x8_2 x9_2 x10_2 x41_21 = some (r1, r2)) ∧ Aside0 (kq ≤ k2) ∧ Aside0 (Kd.R k51 51 wc w.heap.size (fun k_ => some k_ ≠ (v220 : Value).ownBlock ∧ some k_ ≠ (u8 : Value).ownBlock) v217 t216) ∧ Aside0 (Kd.R k51 51 wc w.heap.size (fun k_ => some k_ ≠ (v217 : Value).ownBlock ∧ some k_ ≠ (u8 : Value).ownBlock) v220 t219) ∧ Aside0 (Kd.R k51 51 wc w.heap.size (fun k_ => some k_ ≠ (v217 : Value).ownBlock ∧ some k_ ≠ (v220 : Value).ownBlock) u8 x8_2) ∧ Aside0 (Below w.heap.size w wc))
      case first =>
       have H := HC22.out
       clear HC22
       by_cases c23 : x9_2 < (t216.length : Int)
       ·rw [if_pos c23] at H
        have c23b0 : decide (x9_2 < (t216.length : Int)) = true := decide_eq_true c23
        clear c23
        ((skip))
        have H' := Aside0.mk H
        clear H
        obtain ⟨Ao24, co24, eo24⟩ := Kd.R_slice HO_6.out
        subst eo24
        go_wp2
        go_meet
        case rel => exact ⟨_, (true), (by (rfl)), H', ⟨by have := HJ2.out; have := HK2.out; (omega)⟩, ⟨by (with_reducible repeat ((apply Kd.R_drew))); exact HO_6.out⟩, ⟨by (with_reducible repeat ((apply Kd.R_drew))); exact HO_7.out⟩, ⟨by (with_reducible repeat ((apply Kd.R_drew))); exact HO_8.out⟩, ⟨by repeat ((with_reducible (exact HB.out)))⟩⟩
       ·rw [if_neg c23] at H
        have c23b0 : decide (x9_2 < (t216.length : Int)) = false := decide_eq_false c23
        clear c23
        ((skip))
        have H' := Aside0.mk H
        clear H
        obtain ⟨Ao25, co25, eo25⟩ := Kd.R_slice HO_6.out
        subst eo25
        obtain ⟨Ao26, co26, eo26⟩ := Kd.R_slice HO_7.out
        subst eo26
        go_wp2
        go_meet
        case rel => exact ⟨_, (decide (x10_2 < (t219.length : Int))), (by (rfl)), H', ⟨by have := HJ2.out; have := HK2.out; (omega)⟩, ⟨by (with_reducible repeat ((apply Kd.R_drew))); exact HO_6.out⟩, ⟨by (with_reducible repeat ((apply Kd.R_drew))); exact HO_7.out⟩, ⟨by (with_reducible repeat ((apply Kd.R_drew))); exact HO_8.out⟩, ⟨by repeat ((with_reducible (exact HB.out)))⟩⟩
      case rest =>
       clear HC22
       try clear c1
       try clear c2
       try clear p2
       try clear c5
       try clear c7
       try clear c10
       try clear c17
       try clear c20
       try clear c23
       try clear c23b0
       try clear c26
       try clear p2
       obtain ⟨kq, x41_21, rfl, HA, HJ21, HO_6, HO_7, HO_8, HB⟩ := hcut
       cases kq with
       | zero => exact absurd HA.out (by simp [variorumref08_Two.j2])
       | succ kj21 =>
        have H := HA.out
        clear HA
        simp only [variorumref08_Two.j2] at H
        by_cases c27 : x41_21 = true
        ·subst c27
         have H1 : (if x9_2 < (t216.length : Int) then (if 0 ≤ x9_2 then (variorumref08_Two.j3 kj21 t216 t219 x8_2 x9_2 x10_2 (((rd_T51 t216 x9_2).f0) == 3)) else (none)) else (variorumref08_Two.j3 kj21 t216 t219 x8_2 x9_2 x10_2 false)) = some (r1, r2) := by rw [if_pos rfl] at H; exact H
         clear H
         have H := H1
         clear H1
         have HC28 := Aside0.mk H
         clear H
         go_upto_region 9 with (fail)
         go_cut [53] (fun v53 wc => ∃ (kq : Nat) (x53_27 : Bool), v53 = .bool x53_27 ∧ Aside0 (variorumref08_Two.j3 kq t216 t219 x8_2 x9_2 x10_2 x53_27 = some (r1, r2)) ∧ Aside0 (kq ≤ kj21) ∧ Aside0 (Kd.R k51 51 wc w.heap.size (fun k_ => some k_ ≠ (v220 : Value).ownBlock ∧ some k_ ≠ (u8 : Value).ownBlock) v217 t216) ∧ Aside0 (Kd.R k51 51 wc w.heap.size (fun k_ => some k_ ≠ (v217 : Value).ownBlock ∧ some k_ ≠ (u8 : Value).ownBlock) v220 t219) ∧ Aside0 (Kd.R k51 51 wc w.heap.size (fun k_ => some k_ ≠ (v217 : Value).ownBlock ∧ some k_ ≠ (v220 : Value).ownBlock) u8 x8_2) ∧ Aside0 (Below w.heap.size w wc))
         case first =>
          have H := HC28.out
          clear HC28
          by_cases c29 : x9_2 < (t216.length : Int)
          ·rw [if_pos c29] at H
           have c29b0 : decide (x9_2 < (t216.length : Int)) = true := decide_eq_true c29
           clear c29
           ((skip))
           by_cases c30 : 0 ≤ x9_2
           ·rw [if_pos c30] at H
            have c30b0 : decide (0 ≤ x9_2) = true := decide_eq_true c30
            clear c30
            have H' := Aside0.mk H
            clear H
            obtain ⟨Ao31, co31, eo31⟩ := Kd.R_slice HO_6.out
            subst eo31
            have p222 : 0 ≤ (x9_2 : Int) := of_decide_eq_true (by (with_reducible assumption))
            have q222 : x9_2 < (t216.length : Int) := of_decide_eq_true (by (with_reducible assumption))
            obtain ⟨ad222, e222, hx222_0, hx222_1⟩ := at_T51 (Kd.R_reads' HO_6.out).2.2 x9_2 p222 q222
            cases e222
            replace p222 := eq_true p222
            replace q222 := eq_true q222
            go_wp2
            go_meet
            case rel => exact ⟨_, ((((rd_T51 t216 x9_2).f0) == 3)), (by (rfl)), H', ⟨by have := HJ2.out; have := HK2.out; have := HJ21.out; (omega)⟩, ⟨by (with_reducible repeat ((apply Kd.R_drew))); exact HO_6.out⟩, ⟨by (with_reducible repeat ((apply Kd.R_drew))); exact HO_7.out⟩, ⟨by (with_reducible repeat ((apply Kd.R_drew))); exact HO_8.out⟩, ⟨by repeat ((with_reducible (exact HB.out)))⟩⟩
           ·rw [if_neg c30] at H
            exact absurd H (by simp)
          ·rw [if_neg c29] at H
           have c29b0 : decide (x9_2 < (t216.length : Int)) = false := decide_eq_false c29
           clear c29
           ((skip))
           have H' := Aside0.mk H
           clear H
           obtain ⟨Ao32, co32, eo32⟩ := Kd.R_slice HO_6.out
           subst eo32
           go_wp2
           go_meet
           case rel => exact ⟨_, (false), (by (rfl)), H', ⟨by have := HJ2.out; have := HK2.out; have := HJ21.out; (omega)⟩, ⟨by (with_reducible repeat ((apply Kd.R_drew))); exact HO_6.out⟩, ⟨by (with_reducible repeat ((apply Kd.R_drew))); exact HO_7.out⟩, ⟨by (with_reducible repeat ((apply Kd.R_drew))); exact HO_8.out⟩, ⟨by repeat ((with_reducible (exact HB.out)))⟩⟩
         case rest =>
          clear HC28
          try clear c1
          try clear c2
          try clear p2
          try clear q2
          try clear hx2
          try clear c3
          try clear c5
          try clear c7
          try clear c10
          try clear c17
          try clear c20
          try clear p22
          try clear q22
          try clear hx22
          try clear c23
          try clear c23b0
          try clear c26
          try clear c27
          try clear c29
          try clear c29b0
          try clear c30
          try clear c30b0
          try clear hx222_0
          try clear hx222_1
          try clear p2
          try clear p222
          try clear q222
          obtain ⟨kq, x53_27, rfl, HA, HJ27, HO_6, HO_7, HO_8, HB⟩ := hcut
          cases kq with
          | zero => exact absurd HA.out (by simp [variorumref08_Two.j3])
          | succ kj27 =>
           have H := HA.out
           clear HA
           simp only [variorumref08_Two.j3] at H
           by_cases c33 : x53_27 = true
           ·subst c33
            have H1 : (if 0 ≤ x9_2 then (if x9_2 < (t216.length : Int) then (if x8_2.length < 5864062014805 then (variorumref08_Two.l0 kj27 t216 t219 (x8_2 ++ [(⟨(rd_T51 t216 x9_2).f0, (rd_T51 t216 x9_2).f1⟩ : S51)]) (wrap64 (x9_2 + 1)) x10_2) else (none)) else (none)) else (none)) = some (r1, r2) := by rw [if_pos rfl] at H; exact H
            clear H
            have H := H1
            clear H1
            by_cases c34 : 0 ≤ x9_2
            ·rw [if_pos c34] at H
             have c34b0 : decide (0 ≤ x9_2) = true := decide_eq_true c34
             clear c34
             by_cases c35 : x9_2 < (t216.length : Int)
             ·rw [if_pos c35] at H
              have c35b0 : decide (x9_2 < (t216.length : Int)) = true := decide_eq_true c35
              clear c35
              by_cases c36 : x8_2.length < 5864062014805
              ·rw [if_pos c36] at H
               have LMc36 := Aside0.mk c36
               clear c36
               obtain ⟨y224, hy224⟩ : ∃ y_ : List (S51), y_ = (x8_2 ++ [(⟨(rd_T51 t216 x9_2).f0, (rd_T51 t216 x9_2).f1⟩ : S51)]) := ⟨_, rfl⟩
               replace H : (variorumref08_Two.l0 kj27 t216 t219 y224 (wrap64 (x9_2 + 1)) x10_2) = some (r1, r2) := by (rw [hy224]; with_reducible exact H)
               have Ny224 := Aside0.mk hy224
               clear hy224
               have H' := Aside0.mk H
               clear H
               obtain ⟨Ao37, co37, eo37⟩ := Kd.R_slice HO_6.out
               subst eo37
               have p223 : 0 ≤ (x9_2 : Int) := of_decide_eq_true (by (with_reducible assumption))
               have q223 : x9_2 < (t216.length : Int) := of_decide_eq_true (by (with_reducible assumption))
               obtain ⟨ad223, e223, hx223_0, hx223_1⟩ := at_T51 (Kd.R_reads' HO_6.out).2.2 x9_2 p223 q223
               cases e223
               replace p223 := eq_true p223
               replace q223 := eq_true q223
               go_wp2_with (first | ((with_reducible refine gate_builtin (b := .append) (xs := #[.tmp 54, .tmp 59]) rfl ?_); (try (refine gate_guard (by rfl) ?_; dsimp only)); at_builtin; refine Kd.R_append k51 (w0 := w) w.heap.size rfl (.tmp 54) (.tmp 59) 48 51 (.agg #[(.int .i64 0), (.string ⟨#[]⟩)]) 24 rfl Try.underlying48 info51 rfl (by decide) (by omega) u8 x8_2 (⟨(rd_T51 t216 x9_2).f0, (rd_T51 t216 x9_2).f1⟩ : S51) [.int .i64 ((rd_T51 t216 x9_2).f0), .string ((rd_T51 t216 x9_2).f1)] (fun k_ => some k_ ≠ (.slice (some ad223) t216.length co37 : Value).ownBlock ∧ some k_ ≠ (v220 : Value).ownBlock) (fun _ => False) rfl rfl ?aP (fun _ hk => hk.elim) ?aF ?aO ?aB ?aS ?aL ?_; (case aP => exact k51_mkM _ _ _ (⟨(rd_T51 t216 x9_2).f0, (rd_T51 t216 x9_2).f1⟩ : S51)); (case aB => exact (by repeat ((with_reducible (exact HB.out))))); (case aF => exact (fun k_ hk => ⟨Kd.fresh' (Kd.R_lt (by (with_reducible repeat ((apply Kd.R_drew))); exact HO_6.out)) k_ hk, Kd.fresh' (Kd.R_lt (by (with_reducible repeat ((apply Kd.R_drew))); exact HO_7.out)) k_ hk⟩)); (case aO => exact (by (with_reducible repeat ((apply Kd.R_drew))); exact HO_8.out)); (case aS => exact (below_size (by repeat ((with_reducible (exact HB.out)))))); (case aL => have := LMc36.out; omega); intro v225 w38 ho hb hg hat; rw [← Ny224.out] at ho; have n0_ := Aside0.mk (Kd.R_after (ok := (fun k_ => some k_ ≠ (v220 : Value).ownBlock)) (by (with_reducible repeat ((apply Kd.R_drew))); exact HO_6.out) hg hat); have n1_ := Aside0.mk (Kd.R_after (ok := (fun k_ => some k_ ≠ (.slice (some ad223) t216.length co37 : Value).ownBlock)) (by (with_reducible repeat ((apply Kd.R_drew))); exact HO_7.out) hg hat); have n2_ := Aside0.mk (hb); have n3_ := Aside0.mk (ho); clear HO_6; clear HO_7; clear HB; clear HO_8; have HO_6 := n0_; have HO_7 := n1_; have HB := n2_; have HO226 := n3_; clear n0_ n1_ n2_ n3_; clear ho hb hg hat))
               go_roundg kj27
               case measure => have := HJ2.out; have := HK2.out; have := HJ21.out; have := HJ27.out; omega
               case rel => exact ⟨(y224), (wrap64 (x9_2 + 1)), (x10_2), (by (rfl)), (by (rfl)), H', ⟨by have := HJ2.out; have := HK2.out; have := HJ21.out; have := HJ27.out; omega⟩, ⟨by (with_reducible repeat ((apply Kd.R_drew))); exact HO_6.out⟩, ⟨by (with_reducible repeat ((apply Kd.R_drew))); exact HO_7.out⟩, ⟨by (with_reducible repeat ((apply Kd.R_drew))); exact HO226.out⟩, ⟨by repeat ((with_reducible (exact HB.out)))⟩⟩
              ·rw [if_neg c36] at H
               exact absurd H (by simp)
             ·rw [if_neg c35] at H
              exact absurd H (by simp)
            ·rw [if_neg c34] at H
             exact absurd H (by simp)
           ·replace c33 := Bool.eq_false_iff.mpr c33
            subst c33
            have H1 : (if 0 ≤ x10_2 then (if x10_2 < (t219.length : Int) then (if ((rd_T51 t219 x10_2).f0) = 2 then (if x8_2.length < 5864062014805 then (variorumref08_Two.l0 kj27 t216 t219 (x8_2 ++ [(⟨(rd_T51 t219 x10_2).f0, (rd_T51 t219 x10_2).f1⟩ : S51)]) x9_2 (wrap64 (x10_2 + 1))) else (none)) else (if ((rd_T51 t219 x10_2).f0) = 1 then (if 0 ≤ x9_2 then (if x9_2 < (t216.length : Int) then (if x8_2.length < 5864062014805 then (variorumref08_Two.l0 kj27 t216 t219 (x8_2 ++ [(⟨(rd_T51 t216 x9_2).f0, (rd_T51 t216 x9_2).f1⟩ : S51)]) (wrap64 (x9_2 + 1)) (wrap64 (x10_2 + 1))) else (none)) else (none)) else (none)) else (if 0 ≤ x9_2 then (if x9_2 < (t216.length : Int) then (if ((rd_T51 t216 x9_2).f0) = 1 then (if x8_2.length < 5864062014805 then (variorumref08_Two.l0 kj27 t216 t219 (x8_2 ++ [(⟨(rd_T51 t219 x10_2).f0, (rd_T51 t219 x10_2).f1⟩ : S51)]) (wrap64 (x9_2 + 1)) (wrap64 (x10_2 + 1))) else (none)) else (variorumref08_Two.l0 kj27 t216 t219 x8_2 (wrap64 (x9_2 + 1)) (wrap64 (x10_2 + 1)))) else (none)) else (none)))) else (none)) else (none)) = some (r1, r2) := by rw [if_neg (show ¬ (false = true) by decide)] at H; exact H
            clear H
            have H := H1
            clear H1
            by_cases c39 : 0 ≤ x10_2
            ·rw [if_pos c39] at H
             have c39b0 : decide (0 ≤ x10_2) = true := decide_eq_true c39
             clear c39
             by_cases c40 : x10_2 < (t219.length : Int)
             ·rw [if_pos c40] at H
              have c40b0 : decide (x10_2 < (t219.length : Int)) = true := decide_eq_true c40
              clear c40
              by_cases c41 : ((rd_T51 t219 x10_2).f0) = 2
              ·rw [if_pos c41] at H
               have c41b0 : (((rd_T51 t219 x10_2).f0) == 2) = true := beq_iff_eq.mpr c41
               have c41b1 : (((rd_T51 t219 x10_2).f0) != 2) = false := bne_eq_false_iff_eq.mpr c41
               clear c41
               by_cases c42 : x8_2.length < 5864062014805
               ·rw [if_pos c42] at H
                have LMc42 := Aside0.mk c42
                clear c42
                obtain ⟨y229, hy229⟩ : ∃ y_ : List (S51), y_ = (x8_2 ++ [(⟨(rd_T51 t219 x10_2).f0, (rd_T51 t219 x10_2).f1⟩ : S51)]) := ⟨_, rfl⟩
                replace H : (variorumref08_Two.l0 kj27 t216 t219 y229 x9_2 (wrap64 (x10_2 + 1))) = some (r1, r2) := by (rw [hy229]; with_reducible exact H)
                have Ny229 := Aside0.mk hy229
                clear hy229
                have H' := Aside0.mk H
                clear H
                obtain ⟨Ao43, co43, eo43⟩ := Kd.R_slice HO_7.out
                subst eo43
                have p227 : 0 ≤ (x10_2 : Int) := of_decide_eq_true (by (with_reducible assumption))
                have q227 : x10_2 < (t219.length : Int) := of_decide_eq_true (by (with_reducible assumption))
                obtain ⟨ad227, e227, hx227_0, hx227_1⟩ := at_T51 (Kd.R_reads' HO_7.out).2.2 x10_2 p227 q227
                cases e227
                replace p227 := eq_true p227
                replace q227 := eq_true q227
                have p228 : 0 ≤ (x10_2 : Int) := of_decide_eq_true (by (with_reducible assumption))
                have q228 : x10_2 < (t219.length : Int) := of_decide_eq_true (by (with_reducible assumption))
                obtain ⟨ad228, e228, hx228_0, hx228_1⟩ := at_T51 (Kd.R_reads' HO_7.out).2.2 x10_2 p228 q228
                obtain rfl : ad227 = ad228 := (by injection e228)
                replace p228 := eq_true p228
                replace q228 := eq_true q228
                go_wp2_with (first | ((with_reducible refine gate_builtin (b := .append) (xs := #[.tmp 69, .tmp 74]) rfl ?_); (try (refine gate_guard (by rfl) ?_; dsimp only)); at_builtin; refine Kd.R_append k51 (w0 := w) w.heap.size rfl (.tmp 69) (.tmp 74) 48 51 (.agg #[(.int .i64 0), (.string ⟨#[]⟩)]) 24 rfl Try.underlying48 info51 rfl (by decide) (by omega) u8 x8_2 (⟨(rd_T51 t219 x10_2).f0, (rd_T51 t219 x10_2).f1⟩ : S51) [.int .i64 ((rd_T51 t219 x10_2).f0), .string ((rd_T51 t219 x10_2).f1)] (fun k_ => some k_ ≠ (v217 : Value).ownBlock ∧ some k_ ≠ (.slice (some ad227) t219.length co43 : Value).ownBlock) (fun _ => False) rfl rfl ?aP (fun _ hk => hk.elim) ?aF ?aO ?aB ?aS ?aL ?_; (case aP => exact k51_mkM _ _ _ (⟨(rd_T51 t219 x10_2).f0, (rd_T51 t219 x10_2).f1⟩ : S51)); (case aB => exact (by repeat ((with_reducible (exact HB.out))))); (case aF => exact (fun k_ hk => ⟨Kd.fresh' (Kd.R_lt (by (with_reducible repeat ((apply Kd.R_drew))); exact HO_6.out)) k_ hk, Kd.fresh' (Kd.R_lt (by (with_reducible repeat ((apply Kd.R_drew))); exact HO_7.out)) k_ hk⟩)); (case aO => exact (by (with_reducible repeat ((apply Kd.R_drew))); exact HO_8.out)); (case aS => exact (below_size (by repeat ((with_reducible (exact HB.out)))))); (case aL => have := LMc42.out; omega); intro v230 w44 ho hb hg hat; rw [← Ny229.out] at ho; have n0_ := Aside0.mk (Kd.R_after (ok := (fun k_ => some k_ ≠ (.slice (some ad227) t219.length co43 : Value).ownBlock)) (by (with_reducible repeat ((apply Kd.R_drew))); exact HO_6.out) hg hat); have n1_ := Aside0.mk (Kd.R_after (ok := (fun k_ => some k_ ≠ (v217 : Value).ownBlock)) (by (with_reducible repeat ((apply Kd.R_drew))); exact HO_7.out) hg hat); have n2_ := Aside0.mk (hb); have n3_ := Aside0.mk (ho); clear HO_6; clear HO_7; clear HB; clear HO_8; have HO_6 := n0_; have HO_7 := n1_; have HB := n2_; have HO231 := n3_; clear n0_ n1_ n2_ n3_; clear ho hb hg hat))
                go_roundg kj27
                case measure => have := HJ2.out; have := HK2.out; have := HJ21.out; have := HJ27.out; omega
                case rel => exact ⟨(y229), (x9_2), (wrap64 (x10_2 + 1)), (by (rfl)), (by (rfl)), H', ⟨by have := HJ2.out; have := HK2.out; have := HJ21.out; have := HJ27.out; omega⟩, ⟨by (with_reducible repeat ((apply Kd.R_drew))); exact HO_6.out⟩, ⟨by (with_reducible repeat ((apply Kd.R_drew))); exact HO_7.out⟩, ⟨by (with_reducible repeat ((apply Kd.R_drew))); exact HO231.out⟩, ⟨by repeat ((with_reducible (exact HB.out)))⟩⟩
               ·rw [if_neg c42] at H
                exact absurd H (by simp)
              ·rw [if_neg c41] at H
               have c41b0 : (((rd_T51 t219 x10_2).f0) == 2) = false := beq_eq_false_iff_ne.mpr c41
               have c41b1 : (((rd_T51 t219 x10_2).f0) != 2) = true := bne_iff_ne.mpr c41
               by_cases c45 : ((rd_T51 t219 x10_2).f0) = 1
               ·rw [if_pos c45] at H
                have c45b0 : (((rd_T51 t219 x10_2).f0) == 1) = true := beq_iff_eq.mpr c45
                have c45b1 : (((rd_T51 t219 x10_2).f0) != 1) = false := bne_eq_false_iff_eq.mpr c45
                clear c45
                by_cases c46 : 0 ≤ x9_2
                ·rw [if_pos c46] at H
                 have c46b0 : decide (0 ≤ x9_2) = true := decide_eq_true c46
                 clear c46
                 by_cases c47 : x9_2 < (t216.length : Int)
                 ·rw [if_pos c47] at H
                  have c47b0 : decide (x9_2 < (t216.length : Int)) = true := decide_eq_true c47
                  clear c47
                  by_cases c48 : x8_2.length < 5864062014805
                  ·rw [if_pos c48] at H
                   have LMc48 := Aside0.mk c48
                   clear c48
                   obtain ⟨y234, hy234⟩ : ∃ y_ : List (S51), y_ = (x8_2 ++ [(⟨(rd_T51 t216 x9_2).f0, (rd_T51 t216 x9_2).f1⟩ : S51)]) := ⟨_, rfl⟩
                   replace H : (variorumref08_Two.l0 kj27 t216 t219 y234 (wrap64 (x9_2 + 1)) (wrap64 (x10_2 + 1))) = some (r1, r2) := by (rw [hy234]; with_reducible exact H)
                   have Ny234 := Aside0.mk hy234
                   clear hy234
                   have H' := Aside0.mk H
                   clear H
                   obtain ⟨Ao49, co49, eo49⟩ := Kd.R_slice HO_7.out
                   subst eo49
                   have p227 : 0 ≤ (x10_2 : Int) := of_decide_eq_true (by (with_reducible assumption))
                   have q227 : x10_2 < (t219.length : Int) := of_decide_eq_true (by (with_reducible assumption))
                   obtain ⟨ad227, e227, hx227_0, hx227_1⟩ := at_T51 (Kd.R_reads' HO_7.out).2.2 x10_2 p227 q227
                   cases e227
                   replace p227 := eq_true p227
                   replace q227 := eq_true q227
                   have p232 : 0 ≤ (x10_2 : Int) := of_decide_eq_true (by (with_reducible assumption))
                   have q232 : x10_2 < (t219.length : Int) := of_decide_eq_true (by (with_reducible assumption))
                   obtain ⟨ad232, e232, hx232_0, hx232_1⟩ := at_T51 (Kd.R_reads' HO_7.out).2.2 x10_2 p232 q232
                   obtain rfl : ad227 = ad232 := (by injection e232)
                   replace p232 := eq_true p232
                   replace q232 := eq_true q232
                   obtain ⟨Ao50, co50, eo50⟩ := Kd.R_slice HO_6.out
                   subst eo50
                   have p233 : 0 ≤ (x9_2 : Int) := of_decide_eq_true (by (with_reducible assumption))
                   have q233 : x9_2 < (t216.length : Int) := of_decide_eq_true (by (with_reducible assumption))
                   obtain ⟨ad233, e233, hx233_0, hx233_1⟩ := at_T51 (Kd.R_reads' HO_6.out).2.2 x9_2 p233 q233
                   cases e233
                   replace p233 := eq_true p233
                   replace q233 := eq_true q233
                   go_wp2_with (first | ((with_reducible refine gate_builtin (b := .append) (xs := #[.tmp 84, .tmp 89]) rfl ?_); (try (refine gate_guard (by rfl) ?_; dsimp only)); at_builtin; refine Kd.R_append k51 (w0 := w) w.heap.size rfl (.tmp 84) (.tmp 89) 48 51 (.agg #[(.int .i64 0), (.string ⟨#[]⟩)]) 24 rfl Try.underlying48 info51 rfl (by decide) (by omega) u8 x8_2 (⟨(rd_T51 t216 x9_2).f0, (rd_T51 t216 x9_2).f1⟩ : S51) [.int .i64 ((rd_T51 t216 x9_2).f0), .string ((rd_T51 t216 x9_2).f1)] (fun k_ => some k_ ≠ (.slice (some ad233) t216.length co50 : Value).ownBlock ∧ some k_ ≠ (.slice (some ad227) t219.length co49 : Value).ownBlock) (fun _ => False) rfl rfl ?aP (fun _ hk => hk.elim) ?aF ?aO ?aB ?aS ?aL ?_; (case aP => exact k51_mkM _ _ _ (⟨(rd_T51 t216 x9_2).f0, (rd_T51 t216 x9_2).f1⟩ : S51)); (case aB => exact (by repeat ((with_reducible (exact HB.out))))); (case aF => exact (fun k_ hk => ⟨Kd.fresh' (Kd.R_lt (by (with_reducible repeat ((apply Kd.R_drew))); exact HO_6.out)) k_ hk, Kd.fresh' (Kd.R_lt (by (with_reducible repeat ((apply Kd.R_drew))); exact HO_7.out)) k_ hk⟩)); (case aO => exact (by (with_reducible repeat ((apply Kd.R_drew))); exact HO_8.out)); (case aS => exact (below_size (by repeat ((with_reducible (exact HB.out)))))); (case aL => have := LMc48.out; omega); intro v235 w51 ho hb hg hat; rw [← Ny234.out] at ho; have n0_ := Aside0.mk (Kd.R_after (ok := (fun k_ => some k_ ≠ (.slice (some ad227) t219.length co49 : Value).ownBlock)) (by (with_reducible repeat ((apply Kd.R_drew))); exact HO_6.out) hg hat); have n1_ := Aside0.mk (Kd.R_after (ok := (fun k_ => some k_ ≠ (.slice (some ad233) t216.length co50 : Value).ownBlock)) (by (with_reducible repeat ((apply Kd.R_drew))); exact HO_7.out) hg hat); have n2_ := Aside0.mk (hb); have n3_ := Aside0.mk (ho); clear HO_6; clear HO_7; clear HB; clear HO_8; have HO_6 := n0_; have HO_7 := n1_; have HB := n2_; have HO236 := n3_; clear n0_ n1_ n2_ n3_; clear ho hb hg hat))
                   go_roundg kj27
                   case measure => have := HJ2.out; have := HK2.out; have := HJ21.out; have := HJ27.out; omega
                   case rel => exact ⟨(y234), (wrap64 (x9_2 + 1)), (wrap64 (x10_2 + 1)), (by (rfl)), (by (rfl)), H', ⟨by have := HJ2.out; have := HK2.out; have := HJ21.out; have := HJ27.out; omega⟩, ⟨by (with_reducible repeat ((apply Kd.R_drew))); exact HO_6.out⟩, ⟨by (with_reducible repeat ((apply Kd.R_drew))); exact HO_7.out⟩, ⟨by (with_reducible repeat ((apply Kd.R_drew))); exact HO236.out⟩, ⟨by repeat ((with_reducible (exact HB.out)))⟩⟩
                  ·rw [if_neg c48] at H
                   exact absurd H (by simp)
                 ·rw [if_neg c47] at H
                  exact absurd H (by simp)
                ·rw [if_neg c46] at H
                 exact absurd H (by simp)
               ·rw [if_neg c45] at H
                have c45b0 : (((rd_T51 t219 x10_2).f0) == 1) = false := beq_eq_false_iff_ne.mpr c45
                have c45b1 : (((rd_T51 t219 x10_2).f0) != 1) = true := bne_iff_ne.mpr c45
                by_cases c52 : 0 ≤ x9_2
                ·rw [if_pos c52] at H
                 have c52b0 : decide (0 ≤ x9_2) = true := decide_eq_true c52
                 clear c52
                 by_cases c53 : x9_2 < (t216.length : Int)
                 ·rw [if_pos c53] at H
                  have c53b0 : decide (x9_2 < (t216.length : Int)) = true := decide_eq_true c53
                  clear c53
                  by_cases c54 : ((rd_T51 t216 x9_2).f0) = 1
                  ·rw [if_pos c54] at H
                   have c54b0 : (((rd_T51 t216 x9_2).f0) == 1) = true := beq_iff_eq.mpr c54
                   have c54b1 : (((rd_T51 t216 x9_2).f0) != 1) = false := bne_eq_false_iff_eq.mpr c54
                   clear c54
                   by_cases c55 : x8_2.length < 5864062014805
                   ·rw [if_pos c55] at H
                    have LMc55 := Aside0.mk c55
                    clear c55
                    obtain ⟨y239, hy239⟩ : ∃ y_ : List (S51), y_ = (x8_2 ++ [(⟨(rd_T51 t219 x10_2).f0, (rd_T51 t219 x10_2).f1⟩ : S51)]) := ⟨_, rfl⟩
                    replace H : (variorumref08_Two.l0 kj27 t216 t219 y239 (wrap64 (x9_2 + 1)) (wrap64 (x10_2 + 1))) = some (r1, r2) := by (rw [hy239]; with_reducible exact H)
                    have Ny239 := Aside0.mk hy239
                    clear hy239
                    have H' := Aside0.mk H
                    clear H
                    obtain ⟨Ao56, co56, eo56⟩ := Kd.R_slice HO_7.out
                    subst eo56
                    have p227 : 0 ≤ (x10_2 : Int) := of_decide_eq_true (by (with_reducible assumption))
                    have q227 : x10_2 < (t219.length : Int) := of_decide_eq_true (by (with_reducible assumption))
                    obtain ⟨ad227, e227, hx227_0, hx227_1⟩ := at_T51 (Kd.R_reads' HO_7.out).2.2 x10_2 p227 q227
                    cases e227
                    replace p227 := eq_true p227
                    replace q227 := eq_true q227
                    have p232 : 0 ≤ (x10_2 : Int) := of_decide_eq_true (by (with_reducible assumption))
                    have q232 : x10_2 < (t219.length : Int) := of_decide_eq_true (by (with_reducible assumption))
                    obtain ⟨ad232, e232, hx232_0, hx232_1⟩ := at_T51 (Kd.R_reads' HO_7.out).2.2 x10_2 p232 q232
                    obtain rfl : ad227 = ad232 := (by injection e232)
                    replace p232 := eq_true p232
                    replace q232 := eq_true q232
                    obtain ⟨Ao57, co57, eo57⟩ := Kd.R_slice HO_6.out
                    subst eo57
                    have p237 : 0 ≤ (x9_2 : Int) := of_decide_eq_true (by (with_reducible assumption))
                    have q237 : x9_2 < (t216.length : Int) := of_decide_eq_true (by (with_reducible assumption))
                    obtain ⟨ad237, e237, hx237_0, hx237_1⟩ := at_T51 (Kd.R_reads' HO_6.out).2.2 x9_2 p237 q237
                    cases e237
                    replace p237 := eq_true p237
                    replace q237 := eq_true q237
                    have p238 : 0 ≤ (x10_2 : Int) := of_decide_eq_true (by (with_reducible assumption))
                    have q238 : x10_2 < (t219.length : Int) := of_decide_eq_true (by (with_reducible assumption))
                    obtain ⟨ad238, e238, hx238_0, hx238_1⟩ := at_T51 (Kd.R_reads' HO_7.out).2.2 x10_2 p238 q238
                    obtain rfl : ad227 = ad238 := (by injection e238)
                    replace p238 := eq_true p238
                    replace q238 := eq_true q238
                    go_wp2_with (first | ((with_reducible refine gate_builtin (b := .append) (xs := #[.tmp 97, .tmp 102]) rfl ?_); (try (refine gate_guard (by rfl) ?_; dsimp only)); at_builtin; refine Kd.R_append k51 (w0 := w) w.heap.size rfl (.tmp 97) (.tmp 102) 48 51 (.agg #[(.int .i64 0), (.string ⟨#[]⟩)]) 24 rfl Try.underlying48 info51 rfl (by decide) (by omega) u8 x8_2 (⟨(rd_T51 t219 x10_2).f0, (rd_T51 t219 x10_2).f1⟩ : S51) [.int .i64 ((rd_T51 t219 x10_2).f0), .string ((rd_T51 t219 x10_2).f1)] (fun k_ => some k_ ≠ (.slice (some ad237) t216.length co57 : Value).ownBlock ∧ some k_ ≠ (.slice (some ad227) t219.length co56 : Value).ownBlock) (fun _ => False) rfl rfl ?aP (fun _ hk => hk.elim) ?aF ?aO ?aB ?aS ?aL ?_; (case aP => exact k51_mkM _ _ _ (⟨(rd_T51 t219 x10_2).f0, (rd_T51 t219 x10_2).f1⟩ : S51)); (case aB => exact (by repeat ((with_reducible (exact HB.out))))); (case aF => exact (fun k_ hk => ⟨Kd.fresh' (Kd.R_lt (by (with_reducible repeat ((apply Kd.R_drew))); exact HO_6.out)) k_ hk, Kd.fresh' (Kd.R_lt (by (with_reducible repeat ((apply Kd.R_drew))); exact HO_7.out)) k_ hk⟩)); (case aO => exact (by (with_reducible repeat ((apply Kd.R_drew))); exact HO_8.out)); (case aS => exact (below_size (by repeat ((with_reducible (exact HB.out)))))); (case aL => have := LMc55.out; omega); intro v240 w58 ho hb hg hat; rw [← Ny239.out] at ho; have n0_ := Aside0.mk (Kd.R_after (ok := (fun k_ => some k_ ≠ (.slice (some ad227) t219.length co56 : Value).ownBlock)) (by (with_reducible repeat ((apply Kd.R_drew))); exact HO_6.out) hg hat); have n1_ := Aside0.mk (Kd.R_after (ok := (fun k_ => some k_ ≠ (.slice (some ad237) t216.length co57 : Value).ownBlock)) (by (with_reducible repeat ((apply Kd.R_drew))); exact HO_7.out) hg hat); have n2_ := Aside0.mk (hb); have n3_ := Aside0.mk (ho); clear HO_6; clear HO_7; clear HB; clear HO_8; have HO_6 := n0_; have HO_7 := n1_; have HB := n2_; have HO241 := n3_; clear n0_ n1_ n2_ n3_; clear ho hb hg hat))
                    go_roundg kj27
                    case measure => have := HJ2.out; have := HK2.out; have := HJ21.out; have := HJ27.out; omega
                    case rel => exact ⟨(y239), (wrap64 (x9_2 + 1)), (wrap64 (x10_2 + 1)), (by (rfl)), (by (rfl)), H', ⟨by have := HJ2.out; have := HK2.out; have := HJ21.out; have := HJ27.out; omega⟩, ⟨by (with_reducible repeat ((apply Kd.R_drew))); exact HO_6.out⟩, ⟨by (with_reducible repeat ((apply Kd.R_drew))); exact HO_7.out⟩, ⟨by (with_reducible repeat ((apply Kd.R_drew))); exact HO241.out⟩, ⟨by repeat ((with_reducible (exact HB.out)))⟩⟩
                   ·rw [if_neg c55] at H
                    exact absurd H (by simp)
                  ·rw [if_neg c54] at H
                   have c54b0 : (((rd_T51 t216 x9_2).f0) == 1) = false := beq_eq_false_iff_ne.mpr c54
                   have c54b1 : (((rd_T51 t216 x9_2).f0) != 1) = true := bne_iff_ne.mpr c54
                   have H' := Aside0.mk H
                   clear H
                   obtain ⟨Ao59, co59, eo59⟩ := Kd.R_slice HO_7.out
                   subst eo59
                   have p227 : 0 ≤ (x10_2 : Int) := of_decide_eq_true (by (with_reducible assumption))
                   have q227 : x10_2 < (t219.length : Int) := of_decide_eq_true (by (with_reducible assumption))
                   obtain ⟨ad227, e227, hx227_0, hx227_1⟩ := at_T51 (Kd.R_reads' HO_7.out).2.2 x10_2 p227 q227
                   cases e227
                   replace p227 := eq_true p227
                   replace q227 := eq_true q227
                   have p232 : 0 ≤ (x10_2 : Int) := of_decide_eq_true (by (with_reducible assumption))
                   have q232 : x10_2 < (t219.length : Int) := of_decide_eq_true (by (with_reducible assumption))
                   obtain ⟨ad232, e232, hx232_0, hx232_1⟩ := at_T51 (Kd.R_reads' HO_7.out).2.2 x10_2 p232 q232
                   obtain rfl : ad227 = ad232 := (by injection e232)
                   replace p232 := eq_true p232
                   replace q232 := eq_true q232
                   obtain ⟨Ao60, co60, eo60⟩ := Kd.R_slice HO_6.out
                   subst eo60
                   have p237 : 0 ≤ (x9_2 : Int) := of_decide_eq_true (by (with_reducible assumption))
                   have q237 : x9_2 < (t216.length : Int) := of_decide_eq_true (by (with_reducible assumption))
                   obtain ⟨ad237, e237, hx237_0, hx237_1⟩ := at_T51 (Kd.R_reads' HO_6.out).2.2 x9_2 p237 q237
                   cases e237
                   replace p237 := eq_true p237
                   replace q237 := eq_true q237
                   go_wp2
                   go_roundg kj27
                   case measure => have := HJ2.out; have := HK2.out; have := HJ21.out; have := HJ27.out; omega
                   case rel => exact ⟨(x8_2), (wrap64 (x9_2 + 1)), (wrap64 (x10_2 + 1)), (by (rfl)), (by (rfl)), H', ⟨by have := HJ2.out; have := HK2.out; have := HJ21.out; have := HJ27.out; omega⟩, ⟨by (with_reducible repeat ((apply Kd.R_drew))); exact HO_6.out⟩, ⟨by (with_reducible repeat ((apply Kd.R_drew))); exact HO_7.out⟩, ⟨by (with_reducible repeat ((apply Kd.R_drew))); exact HO_8.out⟩, ⟨by repeat ((with_reducible (exact HB.out)))⟩⟩
                 ·rw [if_neg c53] at H
                  exact absurd H (by simp)
                ·rw [if_neg c52] at H
                 exact absurd H (by simp)
             ·rw [if_neg c40] at H
              exact absurd H (by simp)
            ·rw [if_neg c39] at H
             exact absurd H (by simp)
        ·replace c27 := Bool.eq_false_iff.mpr c27
         subst c27
         have H1 : ((variorumref08_runs.f kj21 x8_2).bind fun t242 => ((variorumref06_Norm.f kj21 t242).bind fun t245 => (if (t242.length : Int) > 0 then (if (t245.length : Int) = 0 then (some (([] : List (S43)), 31)) else (some (t245, 0))) else (some (t245, 0))))) = some (r1, r2) := by rw [if_neg (show ¬ (false = true) by decide)] at H; exact H
         clear H
         have H := H1
         clear H1
         replace H := Option.bind_eq_some_iff.mp H
         obtain ⟨t242, A610, H⟩ := H
         replace H : ((variorumref06_Norm.f kj21 t242).bind fun t245 => (if (t242.length : Int) > 0 then (if (t245.length : Int) = 0 then (some (([] : List (S43)), 31)) else (some (t245, 0))) else (some (t245, 0)))) = some (r1, r2) := H
         have A61 := Aside0.mk A610
         clear A610
         replace H := Option.bind_eq_some_iff.mp H
         obtain ⟨t245, A620, H⟩ := H
         replace H : (if (t242.length : Int) > 0 then (if (t245.length : Int) = 0 then (some (([] : List (S43)), 31)) else (some (t245, 0))) else (some (t245, 0))) = some (r1, r2) := H
         have A62 := Aside0.mk A620
         clear A620
         by_cases c63 : (t242.length : Int) > 0
         ·rw [if_pos c63] at H
          have c63b0 : decide (0 < (t242.length : Int)) = true := decide_eq_true c63
          have c63b1 : decide (0 < t242.length) = true := decide_eq_true (by omega)
          clear c63
          by_cases c64 : (t245.length : Int) = 0
          ·rw [if_pos c64] at H
           have c64b0 : ((t245.length : Int) == 0) = true := beq_iff_eq.mpr c64
           have c64b1 : ((t245.length : Int) != 0) = false := bne_eq_false_iff_eq.mpr c64
           clear c64
           simp only [Option.some.injEq, Prod.mk.injEq] at H
           obtain ⟨rfl, rfl⟩ := H
           obtain ⟨Ao65, co65, eo65⟩ := Kd.R_slice HO_8.out
           subst eo65
           go_wp2_with (first | ((with_reducible refine gate_callee (f := 27) rfl ?_); refine goesL_ (some 109) rfl rfl Try.func27 (by kernel_rfl) rfl #[.slice Ao65 x8_2.length co65] rfl (by (try simp only [List.map_toArray, List.map_cons, List.map_nil]); (rfl)) ?_; (with_reducible refine (variorumref08_runs.calls kj21 _ _ x8_2 t242 _ ?side1 ?side2 A61.out).mono ?_); (case side1 => repeat ((exact (Kd.R_reads' HO_8.out).2.2))); (case side2 => exact (Kd.R_reads' HO_8.out).2.1); rintro e w66 ⟨v243, rfl, ho0, hb⟩; refine ⟨_, rfl, ?_⟩; have n0_ := Aside0.mk (Kd.R_below (by (with_reducible repeat ((apply Kd.R_drew))); exact HO_6.out) hb); have n1_ := Aside0.mk (Kd.R_below (by (with_reducible repeat ((apply Kd.R_drew))); exact HO_7.out) hb); have n2_ := Aside0.mk (Kd.R_below (by (with_reducible repeat ((apply Kd.R_drew))); exact HO_8.out) hb); have n3_ := Aside0.mk (Kd.R_lower ho0 (below_size (by repeat ((with_reducible (exact HB.out)))))); have n4_ := Aside0.mk (below_step (by repeat ((with_reducible (exact HB.out)))) hb); clear HO_6; clear HO_7; clear HO_8; clear HB; have HO_6 := n0_; have HO_7 := n1_; have HO_8 := n2_; have HO244 := n3_; have HB := n4_; clear n0_ n1_ n2_ n3_ n4_; (try clear hb); (try clear hb2); (try clear hk); (try clear hi); (try clear ho0); obtain ⟨Ao67, co67, eo67⟩ := Kd.R_slice HO244.out; subst eo67) | ((with_reducible refine gate_callee (f := 28) rfl ?_); refine goesL_ (some 111) rfl rfl Try.func28 (by kernel_rfl) rfl #[.slice Ao67 t242.length co67] rfl (by (try simp only [List.map_toArray, List.map_cons, List.map_nil]); (rfl)) ?_; (with_reducible refine (variorumref06_Norm.calls kj21 _ _ t242 t245 _ ?side1 ?side2 A62.out).mono ?_); (case side1 => repeat ((exact (Kd.R_reads' HO244.out).2.2))); (case side2 => exact (Kd.R_reads' HO244.out).2.1); rintro e w68 ⟨v246, rfl, ho0, hb⟩; refine ⟨_, rfl, ?_⟩; have n0_ := Aside0.mk (Kd.R_below (by (with_reducible repeat ((apply Kd.R_drew))); exact HO_6.out) hb); have n1_ := Aside0.mk (Kd.R_below (by (with_reducible repeat ((apply Kd.R_drew))); exact HO_7.out) hb); have n2_ := Aside0.mk (Kd.R_below (by (with_reducible repeat ((apply Kd.R_drew))); exact HO_8.out) hb); have n3_ := Aside0.mk (Kd.R_elder' (by (with_reducible repeat ((apply Kd.R_drew))); exact HO244.out) (Kd.R_base ho0) hb); have n4_ := Aside0.mk (Kd.R_lower (Kd.R_new' ho0 (Kd.R_lt (by (with_reducible repeat ((apply Kd.R_drew))); exact HO244.out))) (below_size (by repeat ((with_reducible (exact HB.out)))))); have n5_ := Aside0.mk (below_step (by repeat ((with_reducible (exact HB.out)))) hb); clear HO_6; clear HO_7; clear HO_8; clear HO244; clear HB; have HO_6 := n0_; have HO_7 := n1_; have HO_8 := n2_; have HO244 := n3_; have HO247 := n4_; have HB := n5_; clear n0_ n1_ n2_ n3_ n4_ n5_; (try clear hb); (try clear hb2); (try clear hk); (try clear hi); (try clear ho0); obtain ⟨Ao69, co69, eo69⟩ := Kd.R_slice HO247.out; subst eo69))
           go_ret2
           exact ⟨_, by (rfl), by (exact Kd.R_nil _ _ _ _ _), by repeat ((with_reducible (exact HB.out)))⟩
          ·rw [if_neg c64] at H
           have c64b0 : ((t245.length : Int) == 0) = false := beq_eq_false_iff_ne.mpr c64
           have c64b1 : ((t245.length : Int) != 0) = true := bne_iff_ne.mpr c64
           have c64b2 : ¬ (t245 = []) := fun h_ => c64 (by rw [h_]; rfl)
           simp only [Option.some.injEq, Prod.mk.injEq] at H
           obtain ⟨rfl, rfl⟩ := H
           obtain ⟨Ao70, co70, eo70⟩ := Kd.R_slice HO_8.out
           subst eo70
           go_wp2_with (first | ((with_reducible refine gate_callee (f := 27) rfl ?_); refine goesL_ (some 109) rfl rfl Try.func27 (by kernel_rfl) rfl #[.slice Ao70 x8_2.length co70] rfl (by (try simp only [List.map_toArray, List.map_cons, List.map_nil]); (rfl)) ?_; (with_reducible refine (variorumref08_runs.calls kj21 _ _ x8_2 t242 _ ?side1 ?side2 A61.out).mono ?_); (case side1 => repeat ((exact (Kd.R_reads' HO_8.out).2.2))); (case side2 => exact (Kd.R_reads' HO_8.out).2.1); rintro e w71 ⟨v243, rfl, ho0, hb⟩; refine ⟨_, rfl, ?_⟩; have n0_ := Aside0.mk (Kd.R_below (by (with_reducible repeat ((apply Kd.R_drew))); exact HO_6.out) hb); have n1_ := Aside0.mk (Kd.R_below (by (with_reducible repeat ((apply Kd.R_drew))); exact HO_7.out) hb); have n2_ := Aside0.mk (Kd.R_below (by (with_reducible repeat ((apply Kd.R_drew))); exact HO_8.out) hb); have n3_ := Aside0.mk (Kd.R_lower ho0 (below_size (by repeat ((with_reducible (exact HB.out)))))); have n4_ := Aside0.mk (below_step (by repeat ((with_reducible (exact HB.out)))) hb); clear HO_6; clear HO_7; clear HO_8; clear HB; have HO_6 := n0_; have HO_7 := n1_; have HO_8 := n2_; have HO244 := n3_; have HB := n4_; clear n0_ n1_ n2_ n3_ n4_; (try clear hb); (try clear hb2); (try clear hk); (try clear hi); (try clear ho0); obtain ⟨Ao72, co72, eo72⟩ := Kd.R_slice HO244.out; subst eo72) | ((with_reducible refine gate_callee (f := 28) rfl ?_); refine goesL_ (some 111) rfl rfl Try.func28 (by kernel_rfl) rfl #[.slice Ao72 t242.length co72] rfl (by (try simp only [List.map_toArray, List.map_cons, List.map_nil]); (rfl)) ?_; (with_reducible refine (variorumref06_Norm.calls kj21 _ _ t242 t245 _ ?side1 ?side2 A62.out).mono ?_); (case side1 => repeat ((exact (Kd.R_reads' HO244.out).2.2))); (case side2 => exact (Kd.R_reads' HO244.out).2.1); rintro e w73 ⟨v246, rfl, ho0, hb⟩; refine ⟨_, rfl, ?_⟩; have n0_ := Aside0.mk (Kd.R_below (by (with_reducible repeat ((apply Kd.R_drew))); exact HO_6.out) hb); have n1_ := Aside0.mk (Kd.R_below (by (with_reducible repeat ((apply Kd.R_drew))); exact HO_7.out) hb); have n2_ := Aside0.mk (Kd.R_below (by (with_reducible repeat ((apply Kd.R_drew))); exact HO_8.out) hb); have n3_ := Aside0.mk (Kd.R_elder' (by (with_reducible repeat ((apply Kd.R_drew))); exact HO244.out) (Kd.R_base ho0) hb); have n4_ := Aside0.mk (Kd.R_lower (Kd.R_new' ho0 (Kd.R_lt (by (with_reducible repeat ((apply Kd.R_drew))); exact HO244.out))) (below_size (by repeat ((with_reducible (exact HB.out)))))); have n5_ := Aside0.mk (below_step (by repeat ((with_reducible (exact HB.out)))) hb); clear HO_6; clear HO_7; clear HO_8; clear HO244; clear HB; have HO_6 := n0_; have HO_7 := n1_; have HO_8 := n2_; have HO244 := n3_; have HO247 := n4_; have HB := n5_; clear n0_ n1_ n2_ n3_ n4_ n5_; (try clear hb); (try clear hb2); (try clear hk); (try clear hi); (try clear ho0); obtain ⟨Ao74, co74, eo74⟩ := Kd.R_slice HO247.out; subst eo74))
           go_ret2
           exact ⟨_, by (rfl), by (with_reducible repeat ((apply Kd.R_drew))); exact Kd.R_mono HO247.out (fun _ hk => trivial), by repeat ((with_reducible (exact HB.out)))⟩
         ·rw [if_neg c63] at H
          have c63b0 : decide (0 < (t242.length : Int)) = false := decide_eq_false c63
          have c63b1 : decide (0 < t242.length) = false := decide_eq_false (by omega)
          clear c63
          simp only [Option.some.injEq, Prod.mk.injEq] at H
          obtain ⟨rfl, rfl⟩ := H
          obtain ⟨Ao75, co75, eo75⟩ := Kd.R_slice HO_8.out
          subst eo75
          go_wp2_with (first | ((with_reducible refine gate_callee (f := 27) rfl ?_); refine goesL_ (some 109) rfl rfl Try.func27 (by kernel_rfl) rfl #[.slice Ao75 x8_2.length co75] rfl (by (try simp only [List.map_toArray, List.map_cons, List.map_nil]); (rfl)) ?_; (with_reducible refine (variorumref08_runs.calls kj21 _ _ x8_2 t242 _ ?side1 ?side2 A61.out).mono ?_); (case side1 => repeat ((exact (Kd.R_reads' HO_8.out).2.2))); (case side2 => exact (Kd.R_reads' HO_8.out).2.1); rintro e w76 ⟨v243, rfl, ho0, hb⟩; refine ⟨_, rfl, ?_⟩; have n0_ := Aside0.mk (Kd.R_below (by (with_reducible repeat ((apply Kd.R_drew))); exact HO_6.out) hb); have n1_ := Aside0.mk (Kd.R_below (by (with_reducible repeat ((apply Kd.R_drew))); exact HO_7.out) hb); have n2_ := Aside0.mk (Kd.R_below (by (with_reducible repeat ((apply Kd.R_drew))); exact HO_8.out) hb); have n3_ := Aside0.mk (Kd.R_lower ho0 (below_size (by repeat ((with_reducible (exact HB.out)))))); have n4_ := Aside0.mk (below_step (by repeat ((with_reducible (exact HB.out)))) hb); clear HO_6; clear HO_7; clear HO_8; clear HB; have HO_6 := n0_; have HO_7 := n1_; have HO_8 := n2_; have HO244 := n3_; have HB := n4_; clear n0_ n1_ n2_ n3_ n4_; (try clear hb); (try clear hb2); (try clear hk); (try clear hi); (try clear ho0); obtain ⟨Ao77, co77, eo77⟩ := Kd.R_slice HO244.out; subst eo77) | ((with_reducible refine gate_callee (f := 28) rfl ?_); refine goesL_ (some 111) rfl rfl Try.func28 (by kernel_rfl) rfl #[.slice Ao77 t242.length co77] rfl (by (try simp only [List.map_toArray, List.map_cons, List.map_nil]); (rfl)) ?_; (with_reducible refine (variorumref06_Norm.calls kj21 _ _ t242 t245 _ ?side1 ?side2 A62.out).mono ?_); (case side1 => repeat ((exact (Kd.R_reads' HO244.out).2.2))); (case side2 => exact (Kd.R_reads' HO244.out).2.1); rintro e w78 ⟨v246, rfl, ho0, hb⟩; refine ⟨_, rfl, ?_⟩; have n0_ := Aside0.mk (Kd.R_below (by (with_reducible repeat ((apply Kd.R_drew))); exact HO_6.out) hb); have n1_ := Aside0.mk (Kd.R_below (by (with_reducible repeat ((apply Kd.R_drew))); exact HO_7.out) hb); have n2_ := Aside0.mk (Kd.R_below (by (with_reducible repeat ((apply Kd.R_drew))); exact HO_8.out) hb); have n3_ := Aside0.mk (Kd.R_elder' (by (with_reducible repeat ((apply Kd.R_drew))); exact HO244.out) (Kd.R_base ho0) hb); have n4_ := Aside0.mk (Kd.R_lower (Kd.R_new' ho0 (Kd.R_lt (by (with_reducible repeat ((apply Kd.R_drew))); exact HO244.out))) (below_size (by repeat ((with_reducible (exact HB.out)))))); have n5_ := Aside0.mk (below_step (by repeat ((with_reducible (exact HB.out)))) hb); clear HO_6; clear HO_7; clear HO_8; clear HO244; clear HB; have HO_6 := n0_; have HO_7 := n1_; have HO_8 := n2_; have HO244 := n3_; have HO247 := n4_; have HB := n5_; clear n0_ n1_ n2_ n3_ n4_ n5_; (try clear hb); (try clear hb2); (try clear hk); (try clear hi); (try clear ho0)))
          go_ret2
          exact ⟨_, by (rfl), by (with_reducible repeat ((apply Kd.R_drew))); exact Kd.R_mono HO247.out (fun _ hk => trivial), by repeat ((with_reducible (exact HB.out)))⟩
end Go.Proofs.Ytbfdplmgefcogaa.P
end
-- MERGED YtbfdplmgefcogaaComposeRef
section

namespace Go.Proofs.Ytbfdplmgefcogaa.ComposeRef
open Go.RowKit Go.Proofs.Ytbfdplmgefcogaa.P Go.Proofs.YtbfdplmgefcogaaW.PrintWords Go.Proofs.YtbfdplmgefcogaaW.PrintLast Go.Proofs.YtbfdplmgefcogaaW.PrintMore Go.Proofs.Ytbfdplmgefcogaa.EditL Go.Proofs.Ytbfdplmgefcogaa.EditK Go.Proofs.Ytbfdplmgefcogaa.EditF Go.Proofs.Ytbfdplmgefcogaa.EditG Go.Proofs.Ytbfdplmgefcogaa.EditH1 Go.Proofs.Ytbfdplmgefcogaa.RunA Go.Proofs.Ytbfdplmgefcogaa.RunL Go.Proofs.Ytbfdplmgefcogaa.ComposeL Go.Proofs.Ytbfdplmgefcogaa.ComposeU Go.Proofs.Ytbfdplmgefcogaa.ComposeT
set_option linter.unusedSimpArgs false
set_option linter.unusedVariables false
abbrev Un := S51
def nK : Un := ⟨1, E⟩
def nD : Un := ⟨3, E⟩
def nA (s : ByteArray) (i : Nat) : Un := ⟨2, s.extract i (i + 1)⟩
def un1 (r : Rn) : List Un := List.replicate r.f0.toNat nK ++ ((List.range' 0 r.f1.size).map (nA r.f1) ++ List.replicate r.f2.toNat nD)
def un : List Rn → List Un
 | [] => []
 | r :: l => un1 r ++ un l
def ru (u : Un) : Rn := if u.f0 = 1 then uk else if u.f0 = 2 then ⟨0, u.f1, 0⟩ else ud
theorem map_un1 (r : Rn) : (un1 r).map ru = us1 r := by
 unfold un1 us1
 rw [List.map_append, List.map_append, List.map_map, List.map_replicate, List.map_replicate]
 rfl
theorem map_un : ∀ l : List Rn, (un l).map ru = us l := by
 intro l
 induction l with
 | nil => rfl
 | cons r l ih =>
  show (un1 r ++ un l).map ru = us1 r ++ us l
  rw [List.map_append, map_un1, ih]
theorem un1_len {r : Rn} (h : knd r ≠ 0) : ((un1 r).length : Int) = sz r := by
 have hp := knd_pos h
 unfold un1 sz
 simp
 omega
theorem un_len {l : List Rn} (h : ∀ r ∈ l, knd r ≠ 0) : ((un l).length : Int) = szL l := by
 induction l with
 | nil => rfl
 | cons r l ih =>
  have := ih fun x hx => h x (List.mem_cons_of_mem _ hx)
  have := un1_len (h r List.mem_cons_self)
  show ((un1 r ++ un l).length : Int) = sz r + szL l
  rw [List.length_append]; omega
theorem rd_un {l pre suf : List Un} {r : Un} (h : l = pre ++ r :: suf) : rd_T51 l (pre.length : Int) = r := by
 unfold rd_T51
 rw [Int.toNat_natCast, h]
 simp [List.getD_eq_getElem?_getD]
theorem u1_f (x0 : List Rn) (i : Int) (a0 : Int) (a1 : ByteArray) (a2 : Int) (ha : a0 ≤ 100000) : ∀ (m j k : Nat) (acc : List Un), (j : Int) + m = a0 → m < k → acc.length + m ≤ 1000000 → ∃ k', k ≤ k' + m + 1 ∧ variorumref08_units.l1 k x0 acc i (j : Int) a0 a1 a2 = variorumref08_units.l2 k' x0 (acc ++ List.replicate m nK) i 0 a0 a1 a2 := by
 intro m
 induction m with
 | zero =>
  intro j k acc hj hk _
  obtain ⟨k, rfl⟩ : ∃ m, k = m + 1 := ⟨k - 1, by omega⟩
  refine ⟨k, by omega, ?_⟩
  simp only [variorumref08_units.l1]
  rw [if_neg (by omega)]; simp
 | succ m ih =>
  intro j k acc hj hk hacc
  obtain ⟨k, rfl⟩ : ∃ m, k = m + 1 := ⟨k - 1, by omega⟩
  obtain ⟨k', h1, h2⟩ := ih (j + 1) k (acc ++ [nK]) (by omega) (by omega) (by simp; omega)
  refine ⟨k', by omega, ?_⟩
  simp only [variorumref08_units.l1]
  rw [if_pos (by omega), if_pos (by omega), w64 (x := (j : Int) + 1) (by omega) (by omega), List.replicate_succ, show acc ++ nK :: List.replicate m nK = (acc ++ [nK]) ++ List.replicate m nK by simp, ← h2]
  rfl
theorem u2_f (x0 : List Rn) (i : Int) (a0 : Int) (a1 : ByteArray) (a2 : Int) (ha : a1.size ≤ 100000) : ∀ (m j k : Nat) (acc : List Un), j + m = a1.size → m < k → acc.length + m ≤ 1000000 → ∃ k', k ≤ k' + m + 1 ∧ variorumref08_units.l2 k x0 acc i (j : Int) a0 a1 a2 = variorumref08_units.l3 k' x0 (acc ++ (List.range' j m).map (nA a1)) i 0 a0 a1 a2 := by
 intro m
 induction m with
 | zero =>
  intro j k acc hj hk _
  obtain ⟨k, rfl⟩ : ∃ m, k = m + 1 := ⟨k - 1, by omega⟩
  refine ⟨k, by omega, ?_⟩
  simp only [variorumref08_units.l2]
  rw [if_neg (by omega)]; simp
 | succ m ih =>
  intro j k acc hj hk hacc
  obtain ⟨k, rfl⟩ : ∃ m, k = m + 1 := ⟨k - 1, by omega⟩
  obtain ⟨k', h1, h2⟩ := ih (j + 1) k (acc ++ [nA a1 j]) (by omega) (by omega) (by simp; omega)
  refine ⟨k', by omega, ?_⟩
  simp only [variorumref08_units.l2]
  rw [w64 (x := (j : Int) + 1) (by omega) (by omega), if_pos (by omega), if_pos (by omega), if_pos (by omega), if_pos (by omega), if_pos (by omega), List.range'_succ, List.map_cons, show acc ++ nA a1 j :: (List.range' (j + 1) m).map (nA a1) = (acc ++ [nA a1 j]) ++ (List.range' (j + 1) m).map (nA a1) by simp, ← h2, Int.toNat_natCast, show ((j : Int) + 1).toNat = j + 1 by omega]
  rfl
theorem u3_f (x0 : List Rn) (i : Int) (a0 : Int) (a1 : ByteArray) (a2 : Int) (ha : a2 ≤ 100000) : ∀ (m j k : Nat) (acc : List Un), (j : Int) + m = a2 → m < k → acc.length + m ≤ 1000000 → ∃ k', k ≤ k' + m + 1 ∧ variorumref08_units.l3 k x0 acc i (j : Int) a0 a1 a2 = variorumref08_units.l0 k' x0 (acc ++ List.replicate m nD) (wrap64 (i + 1)) := by
 intro m
 induction m with
 | zero =>
  intro j k acc hj hk _
  obtain ⟨k, rfl⟩ : ∃ m, k = m + 1 := ⟨k - 1, by omega⟩
  refine ⟨k, by omega, ?_⟩
  simp only [variorumref08_units.l3]
  rw [if_neg (by omega)]; simp
 | succ m ih =>
  intro j k acc hj hk hacc
  obtain ⟨k, rfl⟩ : ∃ m, k = m + 1 := ⟨k - 1, by omega⟩
  obtain ⟨k', h1, h2⟩ := ih (j + 1) k (acc ++ [nD]) (by omega) (by omega) (by simp; omega)
  refine ⟨k', by omega, ?_⟩
  simp only [variorumref08_units.l3]
  rw [if_pos (by omega), if_pos (by omega), w64 (x := (j : Int) + 1) (by omega) (by omega), List.replicate_succ, show acc ++ nD :: List.replicate m nD = (acc ++ [nD]) ++ List.replicate m nD by simp, ← h2]
  rfl
theorem units_l (l0 : List Rn) (hl : l0.length ≤ 100000) : ∀ (suf pre : List Rn) (k : Nat) (acc : List Un), l0 = pre ++ suf → (∀ r ∈ suf, knd r ≠ 0) → szL suf ≤ 100000 → acc.length + (szL suf).toNat ≤ 1000000 → 4 * suf.length + (szL suf).toNat < k →
  variorumref08_units.l0 k l0 acc (pre.length : Int) = some (acc ++ un suf) := by
 intro suf
 induction suf with
 | nil =>
  intro pre k acc hfe _ _ _ hk
  obtain ⟨k, rfl⟩ : ∃ m, k = m + 1 := ⟨k - 1, by omega⟩
  have : l0.length = pre.length := by rw [hfe]; simp
  simp only [variorumref08_units.l0]
  rw [if_neg (by omega)]
  show _ = some (acc ++ [])
  rw [List.append_nil]
 | cons r suf ih =>
  intro pre k acc hfe hok hz hacc hk
  obtain ⟨hl2, hn, hlt⟩ := snoc hfe
  have hr := hok r List.mem_cons_self
  have hp := knd_pos hr
  have hs : ∀ x ∈ suf, knd x ≠ 0 := fun x hx => hok x (List.mem_cons_of_mem _ hx)
  have hsp := szL_pos hs
  have e : szL (r :: suf) = r.f0 + (r.f1.size : Int) + r.f2 + szL suf := rfl
  rw [e] at hz hacc hk
  simp only [List.length_cons] at hk
  obtain ⟨k, rfl⟩ : ∃ m, k = m + 1 := ⟨k - 1, by omega⟩
  simp only [variorumref08_units.l0]
  rw [rd_at hfe, if_pos hlt, if_pos (by omega)]
  obtain ⟨k1, a1, b1⟩ := u1_f l0 (pre.length : Int) r.f0 r.f1 r.f2 (by omega) r.f0.toNat 0 k acc (by omega) (by omega) (by omega)
  obtain ⟨k2, a2, b2⟩ := u2_f l0 (pre.length : Int) r.f0 r.f1 r.f2 (by omega) r.f1.size 0 k1 (acc ++ List.replicate r.f0.toNat nK) (by omega) (by omega) (by simp; omega)
  obtain ⟨k3, a3, b3⟩ := u3_f l0 (pre.length : Int) r.f0 r.f1 r.f2 (by omega) r.f2.toNat 0 k2 (acc ++ List.replicate r.f0.toNat nK ++ (List.range' 0 r.f1.size).map (nA r.f1)) (by omega) (by omega) (by simp; omega)
  rw [show ((0 : Nat) : Int) = 0 from rfl] at b1 b2 b3
  rw [b1, b2, b3, w64 (x := (pre.length : Int) + 1) (by omega) (by omega), ← hn, ih (pre ++ [r]) k3 _ hl2 hs (by omega) (by simp; omega) (by omega)]
  show _ = some (acc ++ (un1 r ++ un suf))
  unfold un1
  simp only [List.append_assoc]
theorem units_f {l : List Rn} (hl : l.length ≤ 10000) (hok : ∀ r ∈ l, knd r ≠ 0) (hz : szL l ≤ 10000) (k : Nat) (hk : 50001 ≤ k) : variorumref08_units.f k l = some (un l) := by
 have := szL_pos hok
 unfold variorumref08_units.f
 exact units_l l (by omega) l [] k [] rfl hok (by omega) (by simp; omega) (by omega)
theorem runs_l (l0 : List Un) (hl : l0.length ≤ 1000000) : ∀ (suf pre : List Un) (k : Nat) (acc : List Rn), l0 = pre ++ suf → suf.length < k → acc.length + suf.length ≤ 1000000 → (∀ u ∈ suf, u.f0 = 1 ∨ u.f0 = 2 ∨ u.f0 = 3) →
  variorumref08_runs.l0 k l0 acc (pre.length : Int) = some (acc ++ suf.map ru) := by
 intro suf
 induction suf with
 | nil =>
  intro pre k acc hfe hk _ _
  obtain ⟨k, rfl⟩ : ∃ m, k = m + 1 := ⟨k - 1, by omega⟩
  have : l0.length = pre.length := by rw [hfe]; simp
  simp only [variorumref08_runs.l0]
  rw [if_neg (by omega)]; simp
 | cons u suf ih =>
  intro pre k acc hfe hk hacc hkd
  obtain ⟨k, rfl⟩ : ∃ m, k = m + 1 := ⟨k - 1, by omega⟩
  have hlt : (pre.length : Int) < (l0.length : Int) := by rw [hfe]; simp; omega
  have hl2 : l0 = (pre ++ [u]) ++ suf := by rw [hfe]; simp
  have hn : ((pre ++ [u]).length : Int) = (pre.length : Int) + 1 := by simp
  simp only [List.length_cons] at hk hacc
  have next := fun x => ih (pre ++ [u]) k (acc ++ [x]) hl2 (by omega) (by simp; omega) (fun v hv => hkd v (List.mem_cons_of_mem _ hv))
  rw [hn] at next
  simp only [variorumref08_runs.l0]
  rw [rd_un hfe, if_pos hlt, if_pos (by omega), w64 (x := (pre.length : Int) + 1) (by omega) (by omega)]
  have e : acc ++ (u :: suf).map ru = (acc ++ [ru u]) ++ suf.map ru := by simp
  rw [e, ← next]
  rcases hkd u List.mem_cons_self with h | h | h
  ·rw [if_pos h, if_pos (by omega)]
   show _ = variorumref08_runs.l0 k l0 (acc ++ [if u.f0 = 1 then uk else _]) _
   rw [if_pos h]; rfl
  ·rw [if_neg (by omega), if_pos h, if_pos (by omega)]
   show _ = variorumref08_runs.l0 k l0 (acc ++ [if u.f0 = 1 then uk else if u.f0 = 2 then _ else _]) _
   rw [if_neg (by omega), if_pos h]
  ·rw [if_neg (by omega), if_neg (by omega), if_pos (by omega)]
   show _ = variorumref08_runs.l0 k l0 (acc ++ [if u.f0 = 1 then uk else if u.f0 = 2 then _ else ud]) _
   rw [if_neg (by omega), if_neg (by omega)]; rfl
inductive Ub : List Un → List Un → List Un → Prop
 | nil : Ub [] [] []
 | drop {x : Un} {X Y L : List Un} : x.f0 = 3 → Ub X Y L → Ub (x :: X) Y (x :: L)
 | add {X : List Un} {y : Un} {Y L : List Un} : (∀ x X', X = x :: X' → x.f0 ≠ 3) → y.f0 = 2 → Ub X Y L → Ub X (y :: Y) (y :: L)
 | keep {x : Un} {X : List Un} {y : Un} {Y L : List Un} : x.f0 ≠ 3 → y.f0 = 1 → Ub X Y L → Ub (x :: X) (y :: Y) (x :: L)
 | gone {x : Un} {X : List Un} {y : Un} {Y L : List Un} : x.f0 = 1 → y.f0 = 3 → Ub X Y L → Ub (x :: X) (y :: Y) (y :: L)
 | none {x : Un} {X : List Un} {y : Un} {Y L : List Un} : x.f0 = 2 → y.f0 = 3 → Ub X Y L → Ub (x :: X) (y :: Y) L
theorem ub_drops {X Y L : List Un} (h : Ub X Y L) : ∀ n : Nat, Ub (List.replicate n nD ++ X) Y (List.replicate n nD ++ L) := by
 intro n
 induction n with
 | zero => exact h
 | succ n ih => exact Ub.drop (x := nD) rfl ih
theorem ub_adds {X Y L : List Un} (h : Ub X Y L) (h3 : ∀ x X', X = x :: X' → x.f0 ≠ 3) (s : ByteArray) : ∀ (m j : Nat), Ub X ((List.range' j m).map (nA s) ++ Y) ((List.range' j m).map (nA s) ++ L) := by
 intro m
 induction m with
 | zero => intro j; exact h
 | succ m ih => intro j; exact Ub.add (y := nA s j) h3 rfl (ih (j + 1))
theorem ub_kk {X Y L : List Un} (h : Ub X Y L) : ∀ n : Nat, Ub (List.replicate n nK ++ X) (List.replicate n nK ++ Y) (List.replicate n nK ++ L) := by
 intro n
 induction n with
 | zero => exact h
 | succ n ih => exact Ub.keep (x := nK) (y := nK) (by decide) rfl ih
theorem ub_kd {X Y L : List Un} (h : Ub X Y L) : ∀ n : Nat, Ub (List.replicate n nK ++ X) (List.replicate n nD ++ Y) (List.replicate n nD ++ L) := by
 intro n
 induction n with
 | zero => exact h
 | succ n ih => exact Ub.gone (x := nK) (y := nD) rfl rfl ih
theorem ub_ak {X Y L : List Un} (h : Ub X Y L) (s : ByteArray) : ∀ (m j : Nat), Ub ((List.range' j m).map (nA s) ++ X) (List.replicate m nK ++ Y) ((List.range' j m).map (nA s) ++ L) := by
 intro m
 induction m with
 | zero => intro j; exact h
 | succ m ih => intro j; exact Ub.keep (x := nA s j) (y := nK) (show (2 : Int) ≠ 3 by decide) rfl (ih (j + 1))
theorem ub_ad {X Y L : List Un} (h : Ub X Y L) (s : ByteArray) : ∀ (m j : Nat), Ub ((List.range' j m).map (nA s) ++ X) (List.replicate m nD ++ Y) L := by
 intro m
 induction m with
 | zero => intro j; exact h
 | succ m ih => intro j; exact Ub.none (x := nA s j) (y := nD) rfl rfl (ih (j + 1))
theorem un1_keep {r : Rn} (h : knd r = 1) : un1 r = List.replicate r.f0.toNat nK := by
 have e := run_eq h
 unfold un1
 rw [e.2.2.1, e.2.2.2]; simp [E_size]
theorem un1_add {r : Rn} (h : knd r = 2) : un1 r = (List.range' 0 r.f1.size).map (nA r.f1) := by
 have e := run_eq2 h
 unfold un1
 rw [e.2.1, e.2.2.2]; simp
theorem un1_drop {r : Rn} (h : knd r = 3) : un1 r = List.replicate r.f2.toNat nD := by
 have e := run_eq3 h
 unfold un1
 rw [e.2.1, e.2.2.1]; simp [E_size]
theorem un1_part {x : Rn} (h : knd x ≠ 0) {n : Int} (h0 : 0 < n) (h1 : n < sz x) : un1 x = un1 (ComposeL.part x 0 n) ++ un1 (ComposeL.part x n (sz x)) := by
 rcases knd_three h with c | c | c
 ·have z := sz_keep c
  rw [un1_keep c, part_keep c, part_keep c, un1_keep (knd_keep (by omega)), un1_keep (knd_keep (by omega)), List.replicate_append_replicate]
  show List.replicate x.f0.toNat nK = List.replicate ((n - 0).toNat + (sz x - n).toNat) nK
  rw [show (n - 0).toNat + (sz x - n).toNat = x.f0.toNat by omega]
 ·have z := sz_add c
  have s1 : (x.f1.extract (0 : Int).toNat n.toNat).size = n.toNat := by rw [ext_size]; omega
  have s2 : (x.f1.extract n.toNat (sz x).toNat).size = x.f1.size - n.toNat := by rw [ext_size]; omega
  rw [un1_add c, part_add c, part_add c, un1_add (knd_add (by omega)), un1_add (knd_add (by omega))]
  show (List.range' 0 x.f1.size).map (nA x.f1) = (List.range' 0 (x.f1.extract (0 : Int).toNat n.toNat).size).map (nA (x.f1.extract (0 : Int).toNat n.toNat)) ++ (List.range' 0 (x.f1.extract n.toNat (sz x).toNat).size).map (nA (x.f1.extract n.toNat (sz x).toNat))
  rw [s1, s2]
  apply List.ext_getElem?
  intro i
  by_cases hi : i < n.toNat
  ·rw [List.getElem?_append_left (by simp; omega), List.getElem?_map, List.getElem?_map, List.getElem?_range' (by omega), List.getElem?_range' (by omega)]
   simp only [Option.map_some, nA, Nat.zero_add, Nat.one_mul, show (0 : Int).toNat = 0 from rfl]
   rw [ext_ext _ (by omega), Nat.zero_add, Nat.zero_add]
  ·rw [List.getElem?_append_right (by simp; omega), List.length_map, List.length_range', List.getElem?_map, List.getElem?_map]
   by_cases hj : i < x.f1.size
   ·rw [List.getElem?_range' (by omega), List.getElem?_range' (by omega)]
    simp only [Option.map_some, nA, Nat.zero_add, Nat.one_mul]
    rw [ext_ext _ (by omega), show n.toNat + (i - n.toNat) = i by omega, show n.toNat + (i - n.toNat + 1) = i + 1 by omega]
   ·rw [List.getElem?_eq_none (by simp; omega), List.getElem?_eq_none (by simp; omega)]; rfl
 ·have z := sz_drop c
  rw [un1_drop c, part_drop c, part_drop c, un1_drop (knd_drop (by omega)), un1_drop (knd_drop (by omega)), List.replicate_append_replicate]
  show List.replicate x.f2.toNat nD = List.replicate ((n - 0).toNat + (sz x - n).toNat) nD
  rw [show (n - 0).toNat + (sz x - n).toNat = x.f2.toNat by omega]
theorem un_cut {n : Int} {x : Rn} {X : List Rn} (h : knd x ≠ 0) (h0 : 0 < n) (h1 : n ≤ sz x) : un (x :: X) = un1 (ComposeL.part x 0 n) ++ un (cutl n x X) := by
 by_cases hn : n = sz x
 ·rw [show cutl n x X = X from if_pos hn, hn, part_all h]; rfl
 ·rw [show cutl n x X = ComposeL.part x n (sz x) :: X from if_neg hn]
  show un1 x ++ un X = un1 (ComposeL.part x 0 n) ++ (un1 (ComposeL.part x n (sz x)) ++ un X)
  rw [un1_part h h0 (by omega), List.append_assoc]
theorem un_head {X : List Rn} (h : ∀ r ∈ X, knd r ≠ 0) (h3 : ∀ x X', X = x :: X' → knd x ≠ 3) : ∀ u U, un X = u :: U → u.f0 ≠ 3 := by
 intro u U e
 cases X with
 | nil => cases e
 | cons x X =>
  have e : un1 x ++ un X = u :: U := e
  rcases knd_three (h x List.mem_cons_self) with c | c | c
  ·have z := run_eq c
   obtain ⟨m, hm⟩ : ∃ m, x.f0.toNat = m + 1 := ⟨x.f0.toNat - 1, by omega⟩
   rw [un1_keep c, hm] at e
   injection e with e1 _
   rw [← e1]; decide
  ·have z := run_eq2 c
   obtain ⟨m, hm⟩ : ∃ m, x.f1.size = m + 1 := ⟨x.f1.size - 1, by omega⟩
   rw [un1_add c, hm] at e
   injection e with e1 _
   rw [← e1]
   show (2 : Int) ≠ 3
   decide
  ·exact absurd c (h3 x X rfl)
theorem bo_ub {X Y M : List Rn} (h : Bo X Y M) : (∀ r ∈ X, knd r ≠ 0) → (∀ r ∈ Y, knd r ≠ 0) → Ub (un X) (un Y) (un M) := by
 induction h with
 | nil => intro _ _; exact .nil
 | @drop x X Y M h3 _ ih =>
  intro hX hY
  show Ub (un1 x ++ un X) (un Y) (un1 x ++ un M)
  rw [un1_drop h3]
  exact ub_drops (ih (fun r hr => hX r (List.mem_cons_of_mem x hr)) hY) _
 | @add X y Y M h3 h2 _ ih =>
  intro hX hY
  show Ub (un X) (un1 y ++ un Y) (un1 y ++ un M)
  rw [un1_add h2]
  exact ub_adds (ih hX (fun r hr => hY r (List.mem_cons_of_mem y hr))) (un_head hX h3) _ _ _
 | @two x X y Y M hx hy _ ih =>
  intro hX hY
  have kx := hX x List.mem_cons_self
  have ky := hY y List.mem_cons_self
  obtain ⟨n1, n2, n3⟩ := mn2_le (sz x) (sz y)
  have n0 := n3 (sz_pos kx) (sz_pos ky)
  generalize mn2 (sz x) (sz y) = n at *
  have ih := ih (cut_ok hX n0 n1).ok (cut_ok hY n0 n2).ok
  rw [un_cut kx n0 n1, un_cut ky n0 n2]
  unfold mid
  have kk : knd ⟨n - 0, E, 0⟩ = 1 := knd_keep (by omega)
  have kd : knd ⟨0, E, n - 0⟩ = 3 := knd_drop (by omega)
  rcases hx with c | c
  ·have ea : un1 (ComposeL.part x 0 n) = List.replicate n.toNat nK := by rw [part_keep c, un1_keep kk]; show List.replicate (n - 0).toNat nK = _; rw [Int.sub_zero]
   rcases hy with d | d
   ·have eb : un1 (ComposeL.part y 0 n) = List.replicate n.toNat nK := by rw [part_keep d, un1_keep kk]; show List.replicate (n - 0).toNat nK = _; rw [Int.sub_zero]
    rw [if_pos d, ea, eb]
    show Ub _ _ (un1 (ComposeL.part x 0 n) ++ un M)
    rw [ea]
    exact ub_kk ih _
   ·have eb : un1 (ComposeL.part y 0 n) = List.replicate n.toNat nD := by rw [part_drop d, un1_drop kd]; show List.replicate (n - 0).toNat nD = _; rw [Int.sub_zero]
    rw [d, if_neg (by decide), if_pos c, ea, eb]
    show Ub _ _ (un1 (ComposeL.part y 0 n) ++ un M)
    rw [eb]
    exact ub_kd ih _
  ·have z := sz_add c
   obtain ⟨t, ht⟩ : ∃ t, t = x.f1.extract (0 : Int).toNat n.toNat := ⟨_, rfl⟩
   have hs : t.size = n.toNat := by rw [ht, ext_size]; omega
   have ea : un1 (ComposeL.part x 0 n) = (List.range' 0 n.toNat).map (nA t) := by
    rw [part_add c, ← ht, un1_add (knd_add (by omega))]
    show (List.range' 0 t.size).map (nA t) = _
    rw [hs]
   rcases hy with d | d
   ·have eb : un1 (ComposeL.part y 0 n) = List.replicate n.toNat nK := by rw [part_keep d, un1_keep kk]; show List.replicate (n - 0).toNat nK = _; rw [Int.sub_zero]
    rw [if_pos d, ea, eb]
    show Ub _ _ (un1 (ComposeL.part x 0 n) ++ un M)
    rw [ea]
    exact ub_ak ih _ _ _
   ·have eb : un1 (ComposeL.part y 0 n) = List.replicate n.toNat nD := by rw [part_drop d, un1_drop kd]; show List.replicate (n - 0).toNat nD = _; rw [Int.sub_zero]
    rw [d, c, if_neg (by decide), if_neg (by decide), ea, eb]
    exact ub_ad ih _ _ _
theorem un_kinds (l : List Rn) : ∀ u ∈ un l, u.f0 = 1 ∨ u.f0 = 2 ∨ u.f0 = 3 := by
 induction l with
 | nil => intro u hu; cases hu
 | cons r l ih =>
  intro u hu
  rcases List.mem_append.1 (show u ∈ un1 r ++ un l from hu) with hu | hu
  ·unfold un1 at hu
   rcases List.mem_append.1 hu with hu | hu
   ·rw [List.eq_of_mem_replicate hu]; exact .inl rfl
   ·rcases List.mem_append.1 hu with hu | hu
    ·obtain ⟨i, _, rfl⟩ := List.mem_map.1 hu; exact .inr (.inl rfl)
    ·rw [List.eq_of_mem_replicate hu]; exact .inr (.inr rfl)
  ·exact ih u hu
def fin3 (l : List Un) : Option (List Rn × Int) := some (fin2 (l.map ru))
theorem end_f (acc : List Un) (hl : acc.length ≤ 100000) (hk : ∀ u ∈ acc, u.f0 = 1 ∨ u.f0 = 2 ∨ u.f0 = 3) (X Y : List Un) (k : Nat) (hk2 : 400000 ≤ k) : variorumref08_Two.l0 k X Y acc (X.length : Int) (Y.length : Int) = fin3 acc := by
 obtain ⟨k, rfl⟩ : ∃ m, k = m + 1 + 1 := ⟨k - 2, by omega⟩
 obtain ⟨m, hm⟩ : ∃ m, m = k + 1 := ⟨_, rfl⟩
 rw [← hm]
 simp only [variorumref08_Two.l0]
 rw [if_neg (by omega), decide_eq_false (by omega), hm]
 simp only [variorumref08_Two.j2]
 have hr : variorumref08_runs.f k acc = some (acc.map ru) := runs_l acc (by omega) acc [] k [] rfl (by omega) (by simp; omega) hk
 rw [if_neg (by simp), hr, Option.bind_some, EditH.rnorm_f (by rw [List.length_map]; omega) k (by rw [List.length_map]; omega), Option.bind_some]
 unfold fin3 fin2
 by_cases h : 0 < (acc.map ru).length
 ·rw [if_pos (by omega)]
  by_cases h2 : (norm (acc.map ru)).length = 0
  ·rw [if_pos (by omega), if_pos ⟨h, h2⟩]
  ·rw [if_neg (by omega), if_neg (fun e => h2 e.2)]
 ·rw [if_neg (by omega), if_neg (fun e => h e.1)]
theorem loop_f {X' Y' L' : List Un} (h : Ub X' Y' L') : ∀ (X Y preX preY acc : List Un) (k : Nat), X = preX ++ X' → Y = preY ++ Y' → X.length ≤ 20000 → Y.length ≤ 20000 → acc.length + X'.length + Y'.length ≤ 100000 → (∀ u ∈ X, u.f0 = 1 ∨ u.f0 = 2 ∨ u.f0 = 3) → (∀ u ∈ Y, u.f0 = 1 ∨ u.f0 = 2 ∨ u.f0 = 3) → (∀ u ∈ acc, u.f0 = 1 ∨ u.f0 = 2 ∨ u.f0 = 3) → 400000 + 3 * (X'.length + Y'.length) ≤ k →
  variorumref08_Two.l0 k X Y acc (preX.length : Int) (preY.length : Int) = fin3 (acc ++ L') := by
 have mem1 : ∀ {P : Un → Prop} {acc : List Un} {x : Un}, (∀ u ∈ acc, P u) → P x → ∀ u ∈ acc ++ [x], P u := fun h1 h2 u hu => by
  rcases List.mem_append.1 hu with hu | hu
  ·exact h1 u hu
  ·obtain rfl := List.mem_singleton.1 hu; exact h2
 have cons1 : ∀ {X pre suf : List Un} {x : Un}, X = pre ++ x :: suf → X = (pre ++ [x]) ++ suf ∧ ((pre ++ [x]).length : Int) = (pre.length : Int) + 1 ∧ (pre.length : Int) < (X.length : Int) ∧ x ∈ X := fun e => by subst e; simp; omega
 induction h with
 | nil =>
  intro X Y preX preY acc k hX hY _ _ hacc _ _ hka hk
  rw [List.append_nil] at hX hY
  subst hX
  subst hY
  rw [List.append_nil]
  simp only [List.length_nil] at hacc
  exact end_f acc (by omega) hka _ _ k (by omega)
 | @drop x X' Y' L' h3 _ ih =>
  intro X Y preX preY acc k hX hY lX lY hacc kX kY hka hk
  obtain ⟨e1, e2, e3, e4⟩ := cons1 hX
  simp only [List.length_cons] at hacc hk
  obtain ⟨k, rfl⟩ : ∃ m, k = m + 1 + 1 + 1 := ⟨k - 3, by omega⟩
  have next := ih X Y (preX ++ [x]) preY (acc ++ [x]) k e1 hY lX lY (by simp; omega) kX kY (mem1 hka (kX x e4)) (by omega)
  rw [e2] at next
  obtain ⟨m1, hm1⟩ : ∃ m, m = k + 1 := ⟨_, rfl⟩
  obtain ⟨m2, hm2⟩ : ∃ m, m = m1 + 1 := ⟨_, rfl⟩
  rw [← hm1, ← hm2]
  simp only [variorumref08_Two.l0]
  rw [if_pos e3, hm2]
  simp only [variorumref08_Two.j2]
  rw [if_pos (by trivial), if_pos e3, if_pos (by omega), rd_un hX, h3, hm1]
  simp only [variorumref08_Two.j3]
  rw [if_pos (by trivial), if_pos (by omega), if_pos e3, if_pos (by omega), rd_un hX, w64 (x := (preX.length : Int) + 1) (by omega) (by omega), show acc ++ x :: L' = (acc ++ [x]) ++ L' by simp, ← next]
 | @add X' y Y' L' h3 h2 _ ih =>
  intro X Y preX preY acc k hX hY lX lY hacc kX kY hka hk
  obtain ⟨e1, e2, e3, e4⟩ := cons1 hY
  simp only [List.length_cons] at hacc hk
  obtain ⟨k, rfl⟩ : ∃ m, k = m + 1 + 1 + 1 := ⟨k - 3, by omega⟩
  have next := ih X Y preX (preY ++ [y]) (acc ++ [y]) k hX e1 lX lY (by simp; omega) kX kY (mem1 hka (kY y e4)) (by omega)
  rw [e2] at next
  obtain ⟨m1, hm1⟩ : ∃ m, m = k + 1 := ⟨_, rfl⟩
  obtain ⟨m2, hm2⟩ : ∃ m, m = m1 + 1 := ⟨_, rfl⟩
  rw [← hm1, ← hm2]
  have tail : variorumref08_Two.j3 m1 X Y acc (preX.length : Int) (preY.length : Int) false = fin3 (acc ++ y :: L') := by
   rw [hm1]
   simp only [variorumref08_Two.j3]
   rw [if_neg (by simp), if_pos (by omega), if_pos e3, rd_un hY, if_pos h2, if_pos (by omega), w64 (x := (preY.length : Int) + 1) (by omega) (by omega), show acc ++ y :: L' = (acc ++ [y]) ++ L' by simp, ← next]
  simp only [variorumref08_Two.l0]
  cases X' with
  | nil =>
   have : X.length = preX.length := by rw [hX]; simp
   rw [if_neg (by omega), decide_eq_true e3, hm2]
   simp only [variorumref08_Two.j2]
   rw [if_pos (by trivial), if_neg (by omega)]
   exact tail
  | cons x X' =>
   obtain ⟨_, _, f3, _⟩ := cons1 hX
   have hx3 := h3 x X' rfl
   rw [if_pos f3, hm2]
   simp only [variorumref08_Two.j2]
   rw [if_pos (by trivial), if_pos f3, if_pos (by omega), rd_un hX, show (x.f0 == 3) = false by simpa using hx3]
   exact tail
 | @keep x X' y Y' L' h3 h1 _ ih =>
  intro X Y preX preY acc k hX hY lX lY hacc kX kY hka hk
  obtain ⟨e1, e2, e3, e4⟩ := cons1 hX
  obtain ⟨g1, g2, g3, g4⟩ := cons1 hY
  simp only [List.length_cons] at hacc hk
  obtain ⟨k, rfl⟩ : ∃ m, k = m + 1 + 1 + 1 := ⟨k - 3, by omega⟩
  have next := ih X Y (preX ++ [x]) (preY ++ [y]) (acc ++ [x]) k e1 g1 lX lY (by simp; omega) kX kY (mem1 hka (kX x e4)) (by omega)
  rw [e2, g2] at next
  obtain ⟨m1, hm1⟩ : ∃ m, m = k + 1 := ⟨_, rfl⟩
  obtain ⟨m2, hm2⟩ : ∃ m, m = m1 + 1 := ⟨_, rfl⟩
  rw [← hm1, ← hm2]
  simp only [variorumref08_Two.l0]
  rw [if_pos e3, hm2]
  simp only [variorumref08_Two.j2]
  rw [if_pos (by trivial), if_pos e3, if_pos (by omega), rd_un hX, show (x.f0 == 3) = false by simpa using h3, hm1]
  simp only [variorumref08_Two.j3]
  rw [if_neg (by simp), if_pos (by omega), if_pos g3, rd_un hY, if_neg (by omega), if_pos h1, if_pos (by omega), if_pos e3, if_pos (by omega), rd_un hX, w64 (x := (preX.length : Int) + 1) (by omega) (by omega), w64 (x := (preY.length : Int) + 1) (by omega) (by omega), show acc ++ x :: L' = (acc ++ [x]) ++ L' by simp, ← next]
 | @gone x X' y Y' L' h1 h3 _ ih =>
  intro X Y preX preY acc k hX hY lX lY hacc kX kY hka hk
  obtain ⟨e1, e2, e3, e4⟩ := cons1 hX
  obtain ⟨g1, g2, g3, g4⟩ := cons1 hY
  simp only [List.length_cons] at hacc hk
  obtain ⟨k, rfl⟩ : ∃ m, k = m + 1 + 1 + 1 := ⟨k - 3, by omega⟩
  have next := ih X Y (preX ++ [x]) (preY ++ [y]) (acc ++ [y]) k e1 g1 lX lY (by simp; omega) kX kY (mem1 hka (kY y g4)) (by omega)
  rw [e2, g2] at next
  obtain ⟨m1, hm1⟩ : ∃ m, m = k + 1 := ⟨_, rfl⟩
  obtain ⟨m2, hm2⟩ : ∃ m, m = m1 + 1 := ⟨_, rfl⟩
  rw [← hm1, ← hm2]
  simp only [variorumref08_Two.l0]
  rw [if_pos e3, hm2]
  simp only [variorumref08_Two.j2]
  rw [if_pos (by trivial), if_pos e3, if_pos (by omega), rd_un hX, show (x.f0 == 3) = false by rw [h1]; rfl, hm1]
  simp only [variorumref08_Two.j3]
  rw [if_neg (by simp), if_pos (by omega), if_pos g3, rd_un hY, if_neg (by omega), if_neg (by omega), if_pos (by omega), if_pos e3, rd_un hX, if_pos h1, if_pos (by omega), w64 (x := (preX.length : Int) + 1) (by omega) (by omega), w64 (x := (preY.length : Int) + 1) (by omega) (by omega), show acc ++ y :: L' = (acc ++ [y]) ++ L' by simp, ← next]
 | @none x X' y Y' L' h2 h3 _ ih =>
  intro X Y preX preY acc k hX hY lX lY hacc kX kY hka hk
  obtain ⟨e1, e2, e3, e4⟩ := cons1 hX
  obtain ⟨g1, g2, g3, g4⟩ := cons1 hY
  simp only [List.length_cons] at hacc hk
  obtain ⟨k, rfl⟩ : ∃ m, k = m + 1 + 1 + 1 := ⟨k - 3, by omega⟩
  have next := ih X Y (preX ++ [x]) (preY ++ [y]) acc k e1 g1 lX lY (by omega) kX kY hka (by omega)
  rw [e2, g2] at next
  obtain ⟨m1, hm1⟩ : ∃ m, m = k + 1 := ⟨_, rfl⟩
  obtain ⟨m2, hm2⟩ : ∃ m, m = m1 + 1 := ⟨_, rfl⟩
  rw [← hm1, ← hm2]
  simp only [variorumref08_Two.l0]
  rw [if_pos e3, hm2]
  simp only [variorumref08_Two.j2]
  rw [if_pos (by trivial), if_pos e3, if_pos (by omega), rd_un hX, show (x.f0 == 3) = false by rw [h2]; rfl, hm1]
  simp only [variorumref08_Two.j3]
  rw [if_neg (by simp), if_pos (by omega), if_pos g3, rd_un hY, if_neg (by omega), if_neg (by omega), if_pos (by omega), if_pos e3, rd_un hX, if_neg (by omega), w64 (x := (preX.length : Int) + 1) (by omega) (by omega), w64 (x := (preY.length : Int) + 1) (by omega) (by omega), ← next]
theorem szL_le {l : List Rn} (h : ∀ r ∈ l, knd r ≠ 0) : szL l ≤ inL l + outL l ∧ (l.length : Int) ≤ szL l := by
 induction l with
 | nil => exact ⟨Int.le_refl _, Int.le_refl _⟩
 | cons r l ih =>
  have := ih fun x hx => h x (List.mem_cons_of_mem _ hx)
  have hr := h r List.mem_cons_self
  have hp := knd_pos hr
  have := sz_pos hr
  have e : sz r = r.f0 + (r.f1.size : Int) + r.f2 := rfl
  simp only [inL, outL, szL, List.length_cons]
  omega
theorem rtwo_f {a b : List Rn} (hla : a.length ≤ 10000) (hlb : b.length ≤ 10000) (hs : meet a b = true → inL a ≤ 3000 ∧ outL a ≤ 3000 ∧ outL b ≤ 3000) (k : Nat) (hk : 600000 ≤ k) : variorumref08_Two.f k a b = some (twoL a b) := by
 have hj : ∀ k, 1 ≤ k → variorumref08_Two.j0 k a b true = some ([], 60) := fun k hk => by
  obtain ⟨k, rfl⟩ : ∃ m, k = m + 1 := ⟨k - 1, by omega⟩
  simp only [variorumref08_Two.j0]
  rw [if_pos (by trivial)]
 unfold variorumref08_Two.f
 rw [rgood_f (by omega), Option.bind_some]
 cases ga : good a with
 | false =>
  rw [if_neg Bool.false_ne_true, two_no (fun h => by rw [(meet_iff.1 h).1] at ga; cases ga)]
  exact hj k (by omega)
 | true =>
  rw [if_pos rfl, rgood_f (by omega), Option.bind_some]
  cases gb : good b with
  | false =>
   rw [if_neg Bool.false_ne_true, two_no (fun h => by rw [(meet_iff.1 h).2.1] at gb; cases gb)]
   exact hj k (by omega)
  | true =>
   rw [if_pos rfl, rout_f (by omega) _ (by omega), Option.bind_some, ga, if_pos rfl, rin_f (by omega) _ (by omega), Option.bind_some, gb, if_pos rfl]
   by_cases ho : outL a = inL b
   ·have mt : meet a b = true := meet_iff.2 ⟨ga, gb, ho⟩
    obtain ⟨z1, z2, z3⟩ := hs mt
    have ka := (good_ok ga).2.2.2
    have kb := (good_ok gb).2.2.2
    have la := szL_le ka
    have lb := szL_le kb
    have ua := un_len ka
    have ub := un_len kb
    have pa := szL_pos ka
    have pb := szL_pos kb
    have md := both_made ka kb ho
    rw [show (outL a != inL b) = false by rw [ho]; simp, two_yes mt]
    obtain ⟨k, rfl⟩ : ∃ m, k = m + 1 := ⟨k - 1, by omega⟩
    simp only [variorumref08_Two.j0]
    rw [if_neg (by simp), units_f hla ka (by omega) k (by omega), Option.bind_some, units_f hlb kb (by omega) k (by omega), Option.bind_some]
    have := loop_f (bo_ub md.bo ka kb) (un a) (un b) [] [] [] k rfl rfl (by omega) (by omega) (by simp; omega) (un_kinds a) (un_kinds b) (fun u hu => by cases hu) (by omega)
    refine this.trans ?_
    unfold fin3
    rw [List.nil_append, map_un]
    unfold fin2
    rw [norm_us md.ok]
    have hpos : (0 < (us (both a b)).length) ↔ (0 < (both a b).length) := by
     cases hb : both a b with
     | nil => simp [us]
     | cons x l =>
      have hx : knd x ≠ 0 := md.ok x (by rw [hb]; exact List.mem_cons_self)
      have h1 := un1_len hx
      have h2 := sz_pos hx
      have h3 : (us1 x).length = (un1 x).length := by rw [← map_un1, List.length_map]
      show 0 < (us1 x ++ us l).length ↔ _
      rw [List.length_append]
      constructor
      ·intro _; simp
      ·intro _; omega
    by_cases h : 0 < (both a b).length ∧ (norm (both a b)).length = 0
    ·rw [if_pos ⟨hpos.2 h.1, h.2⟩, if_pos h]
    ·rw [if_neg (fun e => h ⟨hpos.1 e.1, e.2⟩), if_neg h]
   ·rw [show (outL a != inL b) = true by simpa using ho, two_no (fun h => ho (meet_iff.1 h).2.2)]
    exact hj k (by omega)
end Go.Proofs.Ytbfdplmgefcogaa.ComposeRef
end

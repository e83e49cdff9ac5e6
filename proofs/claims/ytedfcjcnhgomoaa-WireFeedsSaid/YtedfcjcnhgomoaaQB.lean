import Derived.Test.YtedfcjcnhgomoaaQA
import Derived.Outline
import Derived.Laws.BitsLemmas
import Derived.Deep.RegionWith
-- MERGED YtedfcjcnhgomoaaVaryP
section
/- The walks of vary's writers: what they put. -/
namespace Go.Proofs.Ytedfcjcnhgomoaa.VaryP
open Go.RowKit Go.Proofs.Ytedfcjcnhgomoaa.P Go.Proofs.YtedfcjcnhgomoaaW.PrintWords Go.Proofs.YtedfcjcnhgomoaaW.PrintLast Go.Proofs.YtedfcjcnhgomoaaW.PrintMore Go.Proofs.Ytedfcjcnhgomoaa.Own Go.Proofs.Ytedfcjcnhgomoaa.Vy

set_option maxHeartbeats 1000000 in
set_option maxRecDepth 100000 in
theorem put_c (v : Value) (l : List Int) (n : Nat) (w : World) (hs : Sl w v l) (hl : l.length ≤ 140737488355000) (hn : n ≤ 4611686018427387904) :
    Calls Try.prog 38 #[v, .int .i64 (n : Int)] w fun e w' => ∃ v', e = .returned v' ∧ Gr w.heap.size 5 w' v' (l ++ enc n) ∧ Below w.heap.size w w' := by
  obtain ⟨A, c, rfl, hc, hC⟩ := hs
  have HG := Aside0.mk (Gr.cut w.heap.size 5 (Sl.mk hC hc))
  have HL := Aside0.mk hl
  have h63 : (l.length : Int) ≤ 140737488355000 := by omega
  have g1 : decide (4611686018427387904 < (n : Int)) = false := by simp; omega
  have g0 : decide ((n : Int) < 0) = false := by simp
  have HN := Aside0.mk hn
  clear hC hl hn
  go_enter Try.func38, Try.ntmps38
  go_wp2_with fail
  go_loopw [0, 1] (fun sv nv wr => ∃ (ys : List Int) (m : Nat), nv = .int .i64 (m : Int) ∧ m ≤ 4611686018427387904 ∧ Gr w.heap.size 5 wr sv ys ∧ ys ++ enc m = l ++ enc n ∧ Below w.heap.size w wr) (fun _ nv _ => (intOf nv).toNat)
  case atStart => exact ⟨l, n, rfl, HN.out, HG.out, rfl, Below.refl _ _⟩
  case round =>
    obtain ⟨ys, m, rfl, hm, hg, he, hb⟩ := hrel
    have HGR := Aside0.mk hg
    have HE := Aside0.mk he
    have HB := Aside0.mk hb
    clear hg he hb
    have HM := Aside0.mk hm
    by_cases hlt : m < 128
    · skip
      go_wp2_with (at_builtin; refine wpList_gr rfl rfl Try.underlying25 info5 ?hB rfl (HGR.out.alloc _) rfl (Sl.one _ _ _ _) ?b1 ?_)
      case hB => have := HB.out.size; simp; omega
      case b1 => have := HE.out; have h2 := congrArg List.length this; rw [List.length_append, List.length_append] at h2; have := enc_len9 HN.out; have := enc_pos m; have := HL.out; simp; omega
      intro v' w' hg hb
      clear HGR
      have hx : ∀ x : Int, x = (m : Int) → Gr w.heap.size 5 w' v' (ys ++ [x]) → Gr w.heap.size 5 w' v' (l ++ enc n) := fun x e h => by
        have he := HE.out
        rw [enc_lt hlt] at he
        rw [← he, ← e]; exact h
      have HR := Aside0.mk (hx _ (by omega) hg)
      have HBR := Aside0.mk ((below_alloc HB.out _).trans hb)
      clear hg hb hx
      go_wp2_with fail
      go_ret
      exact ⟨v', rfl, HR.out, HBR.out⟩
    · skip
      go_wp2_with (at_builtin; refine wpList_gr rfl rfl Try.underlying25 info5 ?hB rfl (HGR.out.alloc _) rfl (Sl.one _ _ _ _) ?b1 ?_)
      case hB => have := HB.out.size; simp; omega
      case b1 => have := HE.out; have h2 := congrArg List.length this; rw [List.length_append, List.length_append] at h2; have := enc_len9 HN.out; have := enc_pos m; have := HL.out; simp; omega
      intro v' w' hg hb
      clear HGR
      have hx : ∀ x : Int, x = ((m % 128 + 128 : Nat) : Int) → Gr w.heap.size 5 w' v' (ys ++ [x]) → Gr w.heap.size 5 w' v' (ys ++ [((m % 128 + 128 : Nat) : Int)]) := fun x e h => by rw [← e]; exact h
      have HR := Aside0.mk (hx _ (by omega) hg)
      have HBR := Aside0.mk ((below_alloc HB.out _).trans hb)
      have HE2 := Aside0.mk (show (ys ++ [((m % 128 + 128 : Nat) : Int)]) ++ enc (m / 128) = l ++ enc n by rw [List.append_assoc, ← HE.out, enc_ge (n := m) (by omega)]; rfl)
      clear hg hb hx
      go_wp2_with fail
      go_roundw
      case rel => exact ⟨_, m / 128, by go_num, by omega, HR.out, HE2.out, HBR.out⟩
      case measure => simp [intOf]; omega
theorem put_bad (v : Value) (l : List Int) (n : Int) (w : World) (hs : Sl w v l) (hl : l.length ≤ 140737488355000) (hn : n < 0 ∨ 4611686018427387904 < n) :
    Calls Try.prog 38 #[v, .int .i64 n] w fun e w' => ∃ v', e = .returned v' ∧ Gr w.heap.size 5 w' v' l ∧ Below w.heap.size w w' := by
  obtain ⟨A, c, rfl, hc, hC⟩ := hs
  have HG := Aside0.mk (Gr.cut w.heap.size 5 (Sl.mk hC hc))
  have h63 : (l.length : Int) ≤ 140737488355000 := by omega
  clear hC hl
  rcases hn with h | h
  · go_enter Try.func38, Try.ntmps38
    go_wp2_with fail
    go_ret
    exact ⟨_, rfl, HG.out, Below.refl _ _⟩
  · have h0 : decide (n < 0) = false := by simp; omega
    go_enter Try.func38, Try.ntmps38
    go_wp2_with fail
    go_ret
    exact ⟨_, rfl, HG.out, Below.refl _ _⟩
theorem nPut (v : Value) (l : List Int) (n : Int) (w : World) (hs : Sl w v l) (hl : l.length ≤ 140737488355000) :
    Calls Try.prog 38 #[v, .int .i64 n] w fun e w' => ∃ v', e = .returned v' ∧ Gr w.heap.size 5 w' v' (putL l n) ∧ Below w.heap.size w w' := by
  unfold putL
  by_cases h : n < 0 ∨ M < n
  · rw [if_pos h]; exact put_bad v l n w hs hl h
  · obtain ⟨m, rfl⟩ : ∃ m : Nat, n = (m : Int) := ⟨n.toNat, by omega⟩
    rw [if_neg h, Int.toNat_natCast]
    exact put_c v l m w hs hl (by have : M = 4611686018427387904 := rfl; omega)
set_option maxHeartbeats 1000000 in
set_option maxRecDepth 100000 in
theorem nPutSigned (v : Value) (l : List Int) (n : Int) (w : World) (hs : Sl w v l) (hl : l.length ≤ 140737488355000) :
    Calls Try.prog 92 #[v, .int .i64 n] w fun e w' => ∃ v', e = .returned v' ∧ Gr w.heap.size 5 w' v' (putSL l n) ∧ Below w.heap.size w w' := by
  have HC := hs
  obtain ⟨A, c, rfl, hc, hC⟩ := hs
  have HG := Aside0.mk (Gr.cut w.heap.size 5 (Sl.mk hC hc))
  have HS := Aside0.mk HC
  have HL := Aside0.mk hl
  have h63 : (l.length : Int) ≤ 140737488355000 := by omega
  clear hC hl HC
  unfold putSL
  by_cases h1 : n < -2305843009213693952
  · rw [if_pos (.inl h1)]
    go_enter Try.func92, Try.ntmps92
    go_wp2_with fail
    go_ret
    exact ⟨_, rfl, HG.out, Below.refl _ _⟩
  · have g1 : decide (n < -2305843009213693952) = false := by simp; omega
    by_cases h2 : 2305843009213693952 < n
    · rw [if_pos (.inr h2)]
      go_enter Try.func92, Try.ntmps92
      go_wp2_with fail
      go_ret
      exact ⟨_, rfl, HG.out, Below.refl _ _⟩
    · have g2 : decide (2305843009213693952 < n) = false := by simp; omega
      rw [if_neg (by omega)]
      by_cases h3 : n < 0
      · have HZ := Aside0.mk (show zig n = -2 * n - 1 by unfold zig; rw [if_pos h3])
        go_enter Try.func92, Try.ntmps92
        go_wp2_with fail
        rw [← HZ.out]
        refine (nPut _ l (zig n) _ HS.out HL.out).mono ?_
        rintro e w1 ⟨v', rfl, hg, hb⟩
        have HG1 := Aside0.mk hg
        have HB1 := Aside0.mk hb
        clear hg hb
        go_wp2_with fail
        go_ret
        exact ⟨_, rfl, HG1.out, HB1.out⟩
      · have HZ := Aside0.mk (show zig n = 2 * n by unfold zig; rw [if_neg h3])
        go_enter Try.func92, Try.ntmps92
        go_wp2_with fail
        rw [← HZ.out]
        refine (nPut _ l (zig n) _ HS.out HL.out).mono ?_
        rintro e w1 ⟨v', rfl, hg, hb⟩
        have HG1 := Aside0.mk hg
        have HB1 := Aside0.mk hb
        clear hg hb
        go_wp2_with fail
        go_ret
        exact ⟨_, rfl, HG1.out, HB1.out⟩
set_option maxHeartbeats 1000000 in
set_option maxRecDepth 100000 in
theorem nPutText (v : Value) (l : List Int) (s : ByteArray) (w : World) (hs : Sl w v l) (hl : l.length + s.size ≤ 140737488355000) :
    Calls Try.prog 60 #[v, .string s] w fun e w' => ∃ v', e = .returned v' ∧ Gr w.heap.size 5 w' v' (putTL l (numsOf s)) ∧ Below w.heap.size w w' := by
  have HS := Aside0.mk hs
  have HL := Aside0.mk hl
  obtain ⟨A, c, rfl, hc, hC⟩ := hs
  have h63 : (s.size : Int) ≤ 140737488355000 := by omega
  clear hC hl
  go_enter Try.func60, Try.ntmps60
  go_wp2_with fail
  refine (nPut _ l (s.size : Int) _ HS.out (by have := HL.out; omega)).mono ?_
  rintro e w1 ⟨v', rfl, hg, hb⟩
  have HG1 := Aside0.mk hg
  have HB1 := Aside0.mk hb
  clear hg hb
  go_wp2_with (at_builtin; refine wpList_gr_str rfl rfl Try.underlying25 Try.underlying9 info5 HB1.out.size rfl HG1.out rfl ?b1 ?_)
  case b1 => have := HL.out; have := putL_len l (s.size : Int); omega
  intro v2 w2 hg hb
  have HG2 := Aside0.mk hg
  have HB2 := Aside0.mk (HB1.out.trans hb)
  clear hg hb HG1 HB1
  go_wp2_with fail
  go_ret
  exact ⟨_, rfl, by unfold putTL; rw [numsOf_length]; exact HG2.out, HB2.out⟩
end Go.Proofs.Ytedfcjcnhgomoaa.VaryP
end
-- MERGED YtedfcjcnhgomoaaPvariorumref01Put
section
-- Written by wip/myprint.py of this session, over the kit's print.py: a Lean function for each Go function, and the proof that the code comes to it.
namespace Go.Proofs.Ytedfcjcnhgomoaa.P
open Go.RowKit Go.Proofs.YtedfcjcnhgomoaaW.PrintWords Go.Proofs.YtedfcjcnhgomoaaW.PrintLast Go.Proofs.YtedfcjcnhgomoaaW.PrintMore
attribute [local go_sem] max2_int min2_int max_two min_two max_three min_three max_four min_four   -- for this text's walks alone
set_option linter.unusedVariables false
set_option linter.unusedSimpArgs false

/-! ### variorumref01_Put: function 41 -/
mutual
def variorumref01_Put.j0 : Nat → Int → List Int → Bool → Option (List Int)
  | 0, _, _, _ => none
  | k + 1, x1, x5, x14 => if x14 = true then (some x5) else (variorumref01_Put.l0 k x1 x5)
def variorumref01_Put.l0 : Nat → Int → List Int → Option (List Int)
  | 0, _, _ => none
  | k + 1, x1, x5 => if x1 ≥ 128 then (if x5.length < 140737488355328 then (variorumref01_Put.l0 k (wrap64 (Int.tdiv x1 128)) (x5 ++ [(wrap64 ((Int.tmod x1 128) + 128)) % 256])) else (none)) else (if x5.length < 140737488355328 then (some (x5 ++ [(x1) % 256])) else (none))
end
def variorumref01_Put.f (k : Nat) (l0 : List Int) (a1 : Int) : Option (List Int) := (some (([] : List Int) : List Int)).bind fun y110 => (if y110.length + l0.length < 140737488355328 then ((some (y110 ++ l0 : List Int)).bind fun y113 => (if a1 < 0 then (variorumref01_Put.j0 k a1 y113 true) else (variorumref01_Put.j0 k a1 y113 (decide (a1 > 4611686018427387904))))) else (none))
theorem variorumref01_Put.mono_l : ∀ k, (∀ y0 y1 y2, LeO (variorumref01_Put.j0 k y0 y1 y2) (variorumref01_Put.j0 (k + 1) y0 y1 y2)) ∧ (∀ y0 y1, LeO (variorumref01_Put.l0 k y0 y1) (variorumref01_Put.l0 (k + 1) y0 y1))
  | 0 => ⟨fun _ _ _ r h => by simp [variorumref01_Put.j0] at h, fun _ _ r h => by simp [variorumref01_Put.l0] at h⟩
  | k + 1 => by
    obtain ⟨ih0, ih1⟩ := variorumref01_Put.mono_l k
    refine ⟨?_, ?_⟩
    · intro y0 y1 y2
      unfold variorumref01_Put.j0
      repeat' first
      | (with_reducible exact ih0 _ _ _)
      | (with_reducible exact ih1 _ _)
      | (with_reducible exact LeO.refl _)
      | (with_reducible exact LeO.none _)
      | (with_reducible refine LeO.ite ?_ ?_)
      | (with_reducible refine LeO.bind ?_ (fun _ => ?_))
      | exact ih0 _ _ _
      | exact ih1 _ _
      | exact LeO.none _
      | refine LeO.ite ?_ ?_
      | refine LeO.bind ?_ (fun _ => ?_)
    · intro y0 y1
      unfold variorumref01_Put.l0
      repeat' first
      | (with_reducible exact ih0 _ _ _)
      | (with_reducible exact ih1 _ _)
      | (with_reducible exact LeO.refl _)
      | (with_reducible exact LeO.none _)
      | (with_reducible refine LeO.ite ?_ ?_)
      | (with_reducible refine LeO.bind ?_ (fun _ => ?_))
      | exact ih0 _ _ _
      | exact ih1 _ _
      | exact LeO.none _
      | refine LeO.ite ?_ ?_
      | refine LeO.bind ?_ (fun _ => ?_)
theorem variorumref01_Put.mono : ∀ a0 a1 k, LeO (variorumref01_Put.f k a0 a1) (variorumref01_Put.f (k + 1) a0 a1) := by
  intro a0 a1 k
  obtain ⟨ih0, ih1⟩ := variorumref01_Put.mono_l k
  unfold variorumref01_Put.f
  repeat' first
      | (with_reducible exact ih0 _ _ _)
      | (with_reducible exact ih1 _ _)
      | (with_reducible exact LeO.refl _)
      | (with_reducible exact LeO.none _)
      | (with_reducible refine LeO.ite ?_ ?_)
      | (with_reducible refine LeO.bind ?_ (fun _ => ?_))
      | exact ih0 _ _ _
      | exact ih1 _ _
      | exact LeO.none _
      | refine LeO.ite ?_ ?_
      | refine LeO.bind ?_ (fun _ => ?_)
set_option maxHeartbeats 8000000 in
set_option maxRecDepth 100000 in
theorem variorumref01_Put.calls (k : Nat) (A0 : Option Addr) (c0 : Nat) (l0 : List Int) (a1 : Int) (r : List Int) (w : World) (hr0 : Kd.C (Kd.int .u8) w A0 l0.length l0) (hc0 : l0.length ≤ c0) (h : variorumref01_Put.f k l0 a1 = some r) :
    Calls Try.prog 41 #[.slice A0 l0.length c0, .int .i64 a1] w fun e w' => ∃ v0_ : Value, e = .returned (v0_) ∧ Kd.R (Kd.int .u8) 5 w' w.heap.size (fun _ => True) v0_ r ∧ Below w.heap.size w w' := by
  have HR0 := Aside0.mk hr0
  have HC0 := Aside0.mk hc0
  clear hr0 hc0
  have HB := Aside0.mk (Below.refl w.heap.size w)
  have H : ((some (([] : List Int) : List Int)).bind fun y110 => (if y110.length + l0.length < 140737488355328 then ((some (y110 ++ l0 : List Int)).bind fun y113 => (if a1 < 0 then (variorumref01_Put.j0 k a1 y113 true) else (variorumref01_Put.j0 k a1 y113 (decide (a1 > 4611686018427387904))))) else (none))) = some r := h
  clear h
  obtain ⟨y110, hy110⟩ : ∃ y_ : List Int, y_ = (([] : List Int)) := ⟨_, rfl⟩
  replace H : (if y110.length + l0.length < 140737488355328 then ((some (y110 ++ l0 : List Int)).bind fun y113 => (if a1 < 0 then (variorumref01_Put.j0 k a1 y113 true) else (variorumref01_Put.j0 k a1 y113 (decide (a1 > 4611686018427387904))))) else (none)) = some r := by first | (rw [hy110]; with_reducible exact H) | (have H2_ := (Option.bind_some _ _).symm.trans H; rw [hy110]; with_reducible exact H2_) | (have H2_ := (Option.bind_some _ _).symm.trans H; with_reducible exact H2_) | with_reducible exact H | (rw [hy110]; exact H) | exact H
  have Ny110 := Aside0.mk hy110
  clear hy110
  by_cases c3 : y110.length + l0.length < 140737488355328
  · rw [if_pos c3] at H
    have LMc3 := Aside0.mk c3
    clear c3
    obtain ⟨y113, hy113⟩ : ∃ y_ : List Int, y_ = (y110 ++ l0) := ⟨_, rfl⟩
    replace H : (if a1 < 0 then (variorumref01_Put.j0 k a1 y113 true) else (variorumref01_Put.j0 k a1 y113 (decide (a1 > 4611686018427387904)))) = some r := by first | (rw [hy113]; with_reducible exact H) | (have H2_ := (Option.bind_some _ _).symm.trans H; rw [hy113]; with_reducible exact H2_) | (have H2_ := (Option.bind_some _ _).symm.trans H; with_reducible exact H2_) | with_reducible exact H | (rw [hy113]; exact H) | exact H
    have Ny113 := Aside0.mk hy113
    clear hy113
    have HC4 := Aside0.mk H
    clear H
    go_enter Try.func41, Try.ntmps41
    go_upto_region 2 with (first | ((with_reducible refine gate_dst (N := 6) rfl ?_); refine Kd.R_lit (Kd.int .u8) _ 5 ?hg (N := 6) ?hd (xs := ([] : List Int)) (inner := []) (ok := fun _ => True) (okp := fun _ => True) ?hr ?hp (fun _ hk => hk) trivial (Below.refl _ _) (Nat.le_refl _) (by simp) ?_; (case hd => rfl); (case hg => rfl); (case hr => first | (go_simp; done) | (go_simp; rfl)); (case hp => exact (Reps.none _ _)); intro v111 w5 ho6 hb hg_ hnew_; clear hg_ hnew_; (first | rw [← Ny110.out] at ho6 | (simp only [Int.reduceToNat] at ho6; rw [← Ny110.out] at ho6)); have n0_ := Aside0.mk (Kd.R_lower ho6 (below_size (by repeat (first | (with_reducible first | exact HB.out | apply below_alloc | apply pw_below_drewN | apply below_drew1) | exact HB.out)))); have n1_ := Aside0.mk (below_step (by repeat (first | (with_reducible first | exact HB.out | apply below_alloc | apply pw_below_drewN | apply below_drew1) | exact HB.out)) hb); clear HB; have HO112 := n0_; have HB := n1_; clear n0_ n1_; clear hb ho6) | ((with_reducible refine gate_builtin (b := .append) (xs := #[.tmp 6, .tmp 7]) rfl ?_); at_builtin; refine Kd.R_append_rows (Kd.int .u8) (w0 := w) w.heap.size rfl (.tmp 6) (.tmp 7) 25 5 (.int .u8 0) 1 rfl Try.underlying25 info5 rfl (by decide) (by omega) v111 y110 l0 _ _ _ (fun _ => True) (fun _ => False) rfl rfl ?aO ?aR (fun _ _ h => h) (fun _ h => h.elim) ?aF ?aB ?aS ?aL ?_; (case aR => repeat (first | exact (Kd.C_below HR0.out HB.out) | (with_reducible refine Kd.C_alloc ?_ _) | (with_reducible refine Kd.C_drewN ?_ _) | (with_reducible refine Kd.C_drew ?_))); (case aB => exact (by repeat (first | (with_reducible first | exact HB.out | apply below_alloc | apply pw_below_drewN | apply below_drew1) | exact HB.out))); (case aF => exact (fun _ _ => trivial)); (case aO => exact (by (with_reducible repeat (first | apply Kd.R_alloc | apply Kd.R_drewN | apply Kd.R_drew)); exact HO112.out)); (case aS => exact (below_size (by repeat (first | (with_reducible first | exact HB.out | apply below_alloc | apply pw_below_drewN | apply below_drew1) | exact HB.out)))); (case aL => have := LMc3.out; omega); intro v114 w7 ho hb hg hat; rw [← Ny113.out] at ho; have n0_ := Aside0.mk (hb); have n1_ := Aside0.mk (ho); clear HB; clear HO112; have HB := n0_; have HO115 := n1_; clear n0_ n1_; clear ho hb hg hat))
    (try simp only [Act.put, List.setIfInBounds_toArray, List.set_cons_zero, List.set_cons_succ])
    go_cut [14] (fun v14 wc => ∃ (kq : Nat) (x14_3 : Bool), v14 = .bool x14_3 ∧ Aside0 (variorumref01_Put.j0 kq a1 y113 x14_3 = some r) ∧ Aside0 (kq ≤ k) ∧ Aside0 (Kd.R (Kd.int .u8) 5 wc w.heap.size (fun _ => True) v114 y113) ∧ Aside0 (Below w.heap.size w wc))
    case first =>
      have H := HC4.out
      clear HC4
      by_cases c8 : a1 < 0
      · rw [if_pos c8] at H
        have c8b0 : decide (a1 < 0) = true := decide_eq_true c8
        clear c8
        (first | rw [c8b0] | (simp only [i64_w, i32_w]; rw [c8b0]) | skip)
        have H' := Aside0.mk H
        clear H
        go_wp2
        go_meet
        case rel => exact ⟨_, (true), (by first | rfl | (simp; done) | (simp [*]; done)), H', ⟨by first | omega | exact Nat.le_refl _⟩, ⟨by (with_reducible repeat (first | apply Kd.R_alloc | apply Kd.R_drewN | apply Kd.R_drew)); exact HO115.out⟩, ⟨by repeat (first | (with_reducible first | exact HB.out | apply below_alloc | apply pw_below_drewN | apply below_drew1) | exact HB.out)⟩⟩
      · rw [if_neg c8] at H
        have c8b0 : decide (a1 < 0) = false := decide_eq_false c8
        clear c8
        (first | rw [c8b0] | (simp only [i64_w, i32_w]; rw [c8b0]) | skip)
        have H' := Aside0.mk H
        clear H
        go_wp2
        go_meet
        case rel => exact ⟨_, (decide (a1 > 4611686018427387904)), (by first | rfl | (simp; done) | (simp [*]; done)), H', ⟨by first | omega | exact Nat.le_refl _⟩, ⟨by (with_reducible repeat (first | apply Kd.R_alloc | apply Kd.R_drewN | apply Kd.R_drew)); exact HO115.out⟩, ⟨by repeat (first | (with_reducible first | exact HB.out | apply below_alloc | apply pw_below_drewN | apply below_drew1) | exact HB.out)⟩⟩
    case rest =>
      clear HC4
      try clear p2
      try clear c3
      try clear c4
      try clear c8
      try clear c8b0
      obtain ⟨kq, x14_3, rfl, HA, HJ3, HO_5, HB⟩ := hcut
      cases kq with
      | zero => exact absurd HA.out (by simp [variorumref01_Put.j0])
      | succ kj3 =>
        have H := HA.out
        clear HA
        simp only [variorumref01_Put.j0] at H
        by_cases c9 : x14_3 = true
        · subst c9
          have H1 : (some y113) = some r := by rw [if_pos rfl] at H; exact H
          clear H
          have H := H1
          clear H1
          obtain rfl := Option.some.inj H
          go_wp2
          go_ret
          exact ⟨_, by first | rfl | (simp [errW_none, errW_some] <;> rfl) | (simp [*, errW_none, errW_some] <;> rfl), by (with_reducible repeat (first | apply Kd.R_alloc | apply Kd.R_drewN | apply Kd.R_drew)); exact HO_5.out, by repeat (first | (with_reducible first | exact HB.out | apply below_alloc | apply pw_below_drewN | apply below_drew1) | exact HB.out)⟩
        · replace c9 := Bool.eq_false_iff.mpr c9
          subst c9
          have H1 : (variorumref01_Put.l0 kj3 a1 y113) = some r := by rw [if_neg (show ¬ (false = true) by decide)] at H; exact H
          clear H
          have H := H1
          clear H1
          have H' := Aside0.mk H
          clear H
          go_wp2
          go_loopg [1, 5] kj3 (fun kq v1 v5 w' => ∃ (x1_2 : Int) (x5_2 : List Int), v1 = .int .i64 x1_2 ∧ Aside0 (variorumref01_Put.l0 kq x1_2 x5_2 = some r) ∧ Aside0 (kq ≤ kj3) ∧ Aside0 (Kd.R (Kd.int .u8) 5 w' w.heap.size (fun _ => True) v5 x5_2) ∧ Aside0 (Below w.heap.size w w'))
          case atStart => exact ⟨(a1), (y113), (by first | rfl | (simp; done) | (simp [*]; done)), H', ⟨Nat.le_refl _⟩, ⟨by (with_reducible repeat (first | apply Kd.R_alloc | apply Kd.R_drewN | apply Kd.R_drew)); exact HO_5.out⟩, ⟨by repeat (first | (with_reducible first | exact HB.out | apply below_alloc | apply pw_below_drewN | apply below_drew1) | exact HB.out)⟩⟩
          case round =>
            clear H'
            try clear p2
            try clear c3
            try clear c4
            try clear c8
            try clear c8b0
            try clear c9
            try clear p2
            obtain ⟨x1_2, x5_2, rfl, HA, HK2, HO_5, HB⟩ := hrel
            cases gk with
            | zero => exact absurd HA.out (by simp [variorumref01_Put.l0])
            | succ k2 =>
              have H := HA.out
              clear HA
              simp only [variorumref01_Put.l0] at H
              by_cases c10 : x1_2 ≥ 128
              · rw [if_pos c10] at H
                have c10b0 : decide (128 ≤ x1_2) = true := decide_eq_true c10
                clear c10
                by_cases c11 : x5_2.length < 140737488355328
                · rw [if_pos c11] at H
                  have LMc11 := Aside0.mk c11
                  clear c11
                  obtain ⟨y116, hy116⟩ : ∃ y_ : List Int, y_ = (x5_2 ++ [(wrap64 ((Int.tmod x1_2 128) + 128)) % 256]) := ⟨_, rfl⟩
                  replace H : (variorumref01_Put.l0 k2 (wrap64 (Int.tdiv x1_2 128)) y116) = some r := by first | (rw [hy116]; with_reducible exact H) | (have H2_ := (Option.bind_some _ _).symm.trans H; rw [hy116]; with_reducible exact H2_) | (have H2_ := (Option.bind_some _ _).symm.trans H; with_reducible exact H2_) | with_reducible exact H | (rw [hy116]; exact H) | exact H
                  have Ny116 := Aside0.mk hy116
                  clear hy116
                  have H' := Aside0.mk H
                  clear H
                  go_wp2_with (first | ((with_reducible refine gate_builtin (b := .append) (xs := #[.tmp 18, .tmp 23]) rfl ?_); at_builtin; refine Kd.R_append (Kd.int .u8) (w0 := w) w.heap.size rfl (.tmp 18) (.tmp 23) 25 5 (.int .u8 0) 1 rfl Try.underlying25 info5 rfl (by decide) (by omega) u5 x5_2 ((wrap64 ((Int.tmod x1_2 128) + 128)) % 256) [.int .u8 ((wrap64 ((Int.tmod x1_2 128) + 128)) % 256)] (fun _ => True) (fun _ => False) rfl rfl ?aP (fun _ hk => hk.elim) ?aF ?aO ?aB ?aS ?aL ?_; (case aP => exact rfl); (case aB => exact (by repeat (first | (with_reducible first | exact HB.out | apply below_alloc | apply pw_below_drewN | apply below_drew1) | exact HB.out))); (case aF => exact (fun _ _ => trivial)); (case aO => exact (by (with_reducible repeat (first | apply Kd.R_alloc | apply Kd.R_drewN | apply Kd.R_drew)); exact HO_5.out)); (case aS => exact (below_size (by repeat (first | (with_reducible first | exact HB.out | apply below_alloc | apply pw_below_drewN | apply below_drew1) | exact HB.out)))); (case aL => have := LMc11.out; omega); intro v117 w12 ho hb hg hat; rw [← Ny116.out] at ho; have n0_ := Aside0.mk (hb); have n1_ := Aside0.mk (ho); clear HB; clear HO_5; have HB := n0_; have HO118 := n1_; clear n0_ n1_; clear ho hb hg hat))
                  go_roundg k2
                  case measure => have := HJ3.out; have := HK2.out; omega
                  case rel => exact ⟨(wrap64 (Int.tdiv x1_2 128)), (y116), (by first | rfl | (simp; done) | (simp [*]; done)), H', ⟨by have := HJ3.out; have := HK2.out; omega⟩, ⟨by (with_reducible repeat (first | apply Kd.R_alloc | apply Kd.R_drewN | apply Kd.R_drew)); exact HO118.out⟩, ⟨by repeat (first | (with_reducible first | exact HB.out | apply below_alloc | apply pw_below_drewN | apply below_drew1) | exact HB.out)⟩⟩
                · rw [if_neg c11] at H
                  exact absurd H (by simp)
              · rw [if_neg c10] at H
                have c10b0 : decide (128 ≤ x1_2) = false := decide_eq_false c10
                clear c10
                by_cases c13 : x5_2.length < 140737488355328
                · rw [if_pos c13] at H
                  have LMc13 := Aside0.mk c13
                  clear c13
                  obtain ⟨y119, hy119⟩ : ∃ y_ : List Int, y_ = (x5_2 ++ [(x1_2) % 256]) := ⟨_, rfl⟩
                  replace H : (some y119) = some r := by first | (rw [hy119]; with_reducible exact H) | (have H2_ := (Option.bind_some _ _).symm.trans H; rw [hy119]; with_reducible exact H2_) | (have H2_ := (Option.bind_some _ _).symm.trans H; with_reducible exact H2_) | with_reducible exact H | (rw [hy119]; exact H) | exact H
                  have Ny119 := Aside0.mk hy119
                  clear hy119
                  obtain rfl := Option.some.inj H
                  go_wp2_with (first | ((with_reducible refine gate_builtin (b := .append) (xs := #[.tmp 27, .tmp 30]) rfl ?_); at_builtin; refine Kd.R_append (Kd.int .u8) (w0 := w) w.heap.size rfl (.tmp 27) (.tmp 30) 25 5 (.int .u8 0) 1 rfl Try.underlying25 info5 rfl (by decide) (by omega) u5 x5_2 ((x1_2) % 256) [.int .u8 ((x1_2) % 256)] (fun _ => True) (fun _ => False) rfl rfl ?aP (fun _ hk => hk.elim) ?aF ?aO ?aB ?aS ?aL ?_; (case aP => exact rfl); (case aB => exact (by repeat (first | (with_reducible first | exact HB.out | apply below_alloc | apply pw_below_drewN | apply below_drew1) | exact HB.out))); (case aF => exact (fun _ _ => trivial)); (case aO => exact (by (with_reducible repeat (first | apply Kd.R_alloc | apply Kd.R_drewN | apply Kd.R_drew)); exact HO_5.out)); (case aS => exact (below_size (by repeat (first | (with_reducible first | exact HB.out | apply below_alloc | apply pw_below_drewN | apply below_drew1) | exact HB.out)))); (case aL => have := LMc13.out; omega); intro v120 w14 ho hb hg hat; rw [← Ny119.out] at ho; have n0_ := Aside0.mk (hb); have n1_ := Aside0.mk (ho); clear HB; clear HO_5; have HB := n0_; have HO121 := n1_; clear n0_ n1_; clear ho hb hg hat))
                  go_ret
                  exact ⟨_, by first | rfl | (simp [errW_none, errW_some] <;> rfl) | (simp [*, errW_none, errW_some] <;> rfl), by (with_reducible repeat (first | apply Kd.R_alloc | apply Kd.R_drewN | apply Kd.R_drew)); exact HO121.out, by repeat (first | (with_reducible first | exact HB.out | apply below_alloc | apply pw_below_drewN | apply below_drew1) | exact HB.out)⟩
                · rw [if_neg c13] at H
                  exact absurd H (by simp)
  · rw [if_neg c3] at H
    exact absurd H (by simp)

end Go.Proofs.Ytedfcjcnhgomoaa.P
end
-- MERGED YtedfcjcnhgomoaaPvariorumref01PutText
section
-- Written by wip/myprint.py of this session, over the kit's print.py: a Lean function for each Go function, and the proof that the code comes to it.
namespace Go.Proofs.Ytedfcjcnhgomoaa.P
open Go.RowKit Go.Proofs.YtedfcjcnhgomoaaW.PrintWords Go.Proofs.YtedfcjcnhgomoaaW.PrintLast Go.Proofs.YtedfcjcnhgomoaaW.PrintMore
attribute [local go_sem] max2_int min2_int max_two min_two max_three min_three max_four min_four   -- for this text's walks alone
set_option linter.unusedVariables false
set_option linter.unusedSimpArgs false

/-! ### variorumref01_PutText: function 65 -/
def variorumref01_PutText.f (k : Nat) (l0 : List Int) (a1 : ByteArray) : Option (List Int) := (variorumref01_Put.f k l0 (a1.size : Int)).bind fun t122 => (if t122.length + a1.size < 140737488355328 then (some (t122 ++ bytesOf a1)) else (none))
theorem variorumref01_PutText.mono : ∀ a0 a1 k, LeO (variorumref01_PutText.f k a0 a1) (variorumref01_PutText.f (k + 1) a0 a1) := by
  intro a0 a1 k
  unfold variorumref01_PutText.f
  repeat' first
      | (with_reducible exact variorumref01_Put.mono _ _ _)
      | (with_reducible exact LeO.refl _)
      | (with_reducible exact LeO.none _)
      | (with_reducible refine LeO.ite ?_ ?_)
      | (with_reducible refine LeO.bind ?_ (fun _ => ?_))
      | exact variorumref01_Put.mono _ _ _
      | exact LeO.none _
      | refine LeO.ite ?_ ?_
      | refine LeO.bind ?_ (fun _ => ?_)
set_option maxHeartbeats 8000000 in
set_option maxRecDepth 100000 in
theorem variorumref01_PutText.calls (k : Nat) (A0 : Option Addr) (c0 : Nat) (l0 : List Int) (a1 : ByteArray) (r : List Int) (w : World) (hr0 : Kd.C (Kd.int .u8) w A0 l0.length l0) (hc0 : l0.length ≤ c0) (h : variorumref01_PutText.f k l0 a1 = some r) :
    Calls Try.prog 65 #[.slice A0 l0.length c0, .string a1] w fun e w' => ∃ v0_ : Value, e = .returned (v0_) ∧ Kd.R (Kd.int .u8) 5 w' w.heap.size (fun _ => True) v0_ r ∧ Below w.heap.size w w' := by
  have HR0 := Aside0.mk hr0
  have HC0 := Aside0.mk hc0
  clear hr0 hc0
  have HB := Aside0.mk (Below.refl w.heap.size w)
  have H : ((variorumref01_Put.f k l0 (a1.size : Int)).bind fun t122 => (if t122.length + a1.size < 140737488355328 then (some (t122 ++ bytesOf a1)) else (none))) = some r := h
  clear h
  replace H := Option.bind_eq_some_iff.mp H
  obtain ⟨t122, A30, H⟩ := H
  replace H : (if t122.length + a1.size < 140737488355328 then (some (t122 ++ bytesOf a1)) else (none)) = some r := H
  have A3 := Aside0.mk A30
  clear A30
  by_cases c4 : t122.length + a1.size < 140737488355328
  · rw [if_pos c4] at H
    have LMc4 := Aside0.mk c4
    clear c4
    obtain ⟨y125, hy125⟩ : ∃ y_ : List Int, y_ = (t122 ++ bytesOf a1) := ⟨_, rfl⟩
    replace H : (some y125) = some r := by first | (rw [hy125]; with_reducible exact H) | (have H2_ := (Option.bind_some _ _).symm.trans H; rw [hy125]; with_reducible exact H2_) | (have H2_ := (Option.bind_some _ _).symm.trans H; with_reducible exact H2_) | with_reducible exact H | (rw [hy125]; exact H) | exact H
    have Ny125 := Aside0.mk hy125
    clear hy125
    obtain rfl := Option.some.inj H
    go_enter Try.func65, Try.ntmps65
    go_wp2_with (first | ((with_reducible refine gate_callee (f := 41) rfl ?_); refine goesL_ (some 8) rfl rfl Try.func41 (by kernel_rfl) rfl #[.slice A0 l0.length c0, .int .i64 (a1.size : Int)] rfl (by (try simp only [List.map_toArray, List.map_cons, List.map_nil]); first | done | rfl | (simp only [List.length_drop, List.length_take]; rfl)) ?_; (with_reducible refine (variorumref01_Put.calls k _ _ l0 (a1.size : Int) t122 _ ?side1 ?side2 A3.out).mono ?_); (case side1 => repeat (first | exact HR0.out | (with_reducible refine Kd.C_alloc ?_ _) | (with_reducible refine Kd.C_drewN ?_ _) | (with_reducible refine Kd.C_drew ?_))); (case side2 => exact HC0.out); rintro e w5 ⟨v123, rfl, ho0, hb⟩; refine ⟨_, rfl, ?_⟩; have n0_ := Aside0.mk (Kd.R_lower ho0 (below_size (by repeat (first | (with_reducible first | exact HB.out | apply below_alloc | apply pw_below_drewN | apply below_drew1) | exact HB.out)))); have n1_ := Aside0.mk (below_step (by repeat (first | (with_reducible first | exact HB.out | apply below_alloc | apply pw_below_drewN | apply below_drew1) | exact HB.out)) hb); clear HB; have HO124 := n0_; have HB := n1_; clear n0_ n1_; (try clear hb); (try clear hb2); (try clear hk); (try clear hi); (try clear ho0)) | (at_builtin; refine print_append_str (w0 := w) w.heap.size rfl (.tmp 8) _ 25 9 5 rfl Try.underlying25 Try.underlying9 info5 v123 t122 a1 rfl rfl ?aO ?aB ?aS ?aL ?_; (case aB => exact (by repeat (first | (with_reducible first | exact HB.out | apply below_alloc | apply pw_below_drewN | apply below_drew1) | exact HB.out))); (case aO => exact (Kd.own_of_R (by (with_reducible repeat (first | apply Kd.R_alloc | apply Kd.R_drewN | apply Kd.R_drew)); exact HO124.out))); (case aS => exact (below_size (by repeat (first | (with_reducible first | exact HB.out | apply below_alloc | apply pw_below_drewN | apply below_drew1) | exact HB.out)))); (case aL => have := LMc4.out; omega); intro v126 w6 ho0 hb hg; have ho := Kd.R_of_own (h1 := fun _ => rfl) (ok := fun _ => True) ho0 (fun _ _ => trivial); clear ho0; have hat := True.intro; rw [← Ny125.out] at ho; change Kd.R (Kd.int .u8) 5 w6 w.heap.size (fun _ => True) v126 y125 at ho; have n0_ := Aside0.mk (hb); have n1_ := Aside0.mk (ho); clear HB; clear HO124; have HB := n0_; have HO127 := n1_; clear n0_ n1_; clear ho hb hg hat))
    go_ret
    exact ⟨_, by first | rfl | (simp [errW_none, errW_some] <;> rfl) | (simp [*, errW_none, errW_some] <;> rfl), by (with_reducible repeat (first | apply Kd.R_alloc | apply Kd.R_drewN | apply Kd.R_drew)); exact HO127.out, by repeat (first | (with_reducible first | exact HB.out | apply below_alloc | apply pw_below_drewN | apply below_drew1) | exact HB.out)⟩
  · rw [if_neg c4] at H
    exact absurd H (by simp)

end Go.Proofs.Ytedfcjcnhgomoaa.P
end
-- MERGED YtedfcjcnhgomoaaPvariorumref01PutSigned
section
-- Written by wip/myprint.py of this session, over the kit's print.py: a Lean function for each Go function, and the proof that the code comes to it.
namespace Go.Proofs.Ytedfcjcnhgomoaa.P
open Go.RowKit Go.Proofs.YtedfcjcnhgomoaaW.PrintWords Go.Proofs.YtedfcjcnhgomoaaW.PrintLast Go.Proofs.YtedfcjcnhgomoaaW.PrintMore
attribute [local go_sem] max2_int min2_int max_two min_two max_three min_three max_four min_four   -- for this text's walks alone
set_option linter.unusedVariables false
set_option linter.unusedSimpArgs false

/-! ### variorumref01_PutSigned: function 64 -/
def variorumref01_PutSigned.j0 : Nat → List Int → Int → Bool → Option (List Int)
  | 0, _, _, _ => none
  | k + 1, x0, x1, x10 => if x10 = true then ((some (([] : List Int) : List Int)).bind fun y294 => (if y294.length + x0.length < 140737488355328 then (some (y294 ++ x0)) else (none))) else (if x1 < 0 then ((variorumref01_Put.f k x0 (wrap64 ((wrap64 (2 * (wrap64 (-x1)))) - 1))).bind fun t300 => (some t300)) else ((variorumref01_Put.f k x0 (wrap64 (2 * x1))).bind fun t303 => (some t303)))
def variorumref01_PutSigned.f (k : Nat) (l0 : List Int) (a1 : Int) : Option (List Int) := if a1 < (-2305843009213693952) then (variorumref01_PutSigned.j0 k l0 a1 true) else (variorumref01_PutSigned.j0 k l0 a1 (decide (a1 > 2305843009213693952)))
theorem variorumref01_PutSigned.mono_l : ∀ k, (∀ y0 y1 y2, LeO (variorumref01_PutSigned.j0 k y0 y1 y2) (variorumref01_PutSigned.j0 (k + 1) y0 y1 y2))
  | 0 => fun _ _ _ r h => by simp [variorumref01_PutSigned.j0] at h
  | k + 1 => by
    have ih0 := variorumref01_PutSigned.mono_l k
    · intro y0 y1 y2
      unfold variorumref01_PutSigned.j0
      repeat' first
      | (with_reducible exact ih0 _ _ _)
      | (with_reducible exact variorumref01_Put.mono _ _ _)
      | (with_reducible exact LeO.refl _)
      | (with_reducible exact LeO.none _)
      | (with_reducible refine LeO.ite ?_ ?_)
      | (with_reducible refine LeO.bind ?_ (fun _ => ?_))
      | exact ih0 _ _ _
      | exact variorumref01_Put.mono _ _ _
      | exact LeO.none _
      | refine LeO.ite ?_ ?_
      | refine LeO.bind ?_ (fun _ => ?_)
theorem variorumref01_PutSigned.mono : ∀ a0 a1 k, LeO (variorumref01_PutSigned.f k a0 a1) (variorumref01_PutSigned.f (k + 1) a0 a1) := by
  intro a0 a1 k
  have ih0 := variorumref01_PutSigned.mono_l k
  unfold variorumref01_PutSigned.f
  repeat' first
      | (with_reducible exact ih0 _ _ _)
      | (with_reducible exact variorumref01_Put.mono _ _ _)
      | (with_reducible exact LeO.refl _)
      | (with_reducible exact LeO.none _)
      | (with_reducible refine LeO.ite ?_ ?_)
      | (with_reducible refine LeO.bind ?_ (fun _ => ?_))
      | exact ih0 _ _ _
      | exact variorumref01_Put.mono _ _ _
      | exact LeO.none _
      | refine LeO.ite ?_ ?_
      | refine LeO.bind ?_ (fun _ => ?_)
set_option maxHeartbeats 8000000 in
set_option maxRecDepth 100000 in
theorem variorumref01_PutSigned.calls (k : Nat) (A0 : Option Addr) (c0 : Nat) (l0 : List Int) (a1 : Int) (r : List Int) (w : World) (hr0 : Kd.C (Kd.int .u8) w A0 l0.length l0) (hc0 : l0.length ≤ c0) (h : variorumref01_PutSigned.f k l0 a1 = some r) :
    Calls Try.prog 64 #[.slice A0 l0.length c0, .int .i64 a1] w fun e w' => ∃ v0_ : Value, e = .returned (v0_) ∧ Kd.R (Kd.int .u8) 5 w' w.heap.size (fun _ => True) v0_ r ∧ Below w.heap.size w w' := by
  have HR0 := Aside0.mk hr0
  have HC0 := Aside0.mk hc0
  clear hr0 hc0
  have HB := Aside0.mk (Below.refl w.heap.size w)
  have H : (if a1 < (-2305843009213693952) then (variorumref01_PutSigned.j0 k l0 a1 true) else (variorumref01_PutSigned.j0 k l0 a1 (decide (a1 > 2305843009213693952)))) = some r := h
  clear h
  have HC3 := Aside0.mk H
  clear H
  go_enter Try.func64, Try.ntmps64
  go_upto_region 1 with (fail)
  go_cut [10] (fun v10 wc => ∃ (kq : Nat) (x10_2 : Bool), v10 = .bool x10_2 ∧ Aside0 (variorumref01_PutSigned.j0 kq l0 a1 x10_2 = some r) ∧ Aside0 (kq ≤ k) ∧ Aside0 (Below w.heap.size w wc))
  case first =>
    have H := HC3.out
    clear HC3
    by_cases c4 : a1 < (-2305843009213693952)
    · rw [if_pos c4] at H
      have c4b0 : decide (a1 < (-2305843009213693952)) = true := decide_eq_true c4
      clear c4
      (first | rw [c4b0] | (simp only [i64_w, i32_w]; rw [c4b0]) | skip)
      have H' := Aside0.mk H
      clear H
      go_wp2
      go_meet
      case rel => exact ⟨_, (true), (by first | rfl | (simp; done) | (simp [*]; done)), H', ⟨by first | omega | exact Nat.le_refl _⟩, ⟨by repeat (first | (with_reducible first | exact HB.out | apply below_alloc | apply pw_below_drewN | apply below_drew1) | exact HB.out)⟩⟩
    · rw [if_neg c4] at H
      have c4b0 : decide (a1 < (-2305843009213693952)) = false := decide_eq_false c4
      clear c4
      (first | rw [c4b0] | (simp only [i64_w, i32_w]; rw [c4b0]) | skip)
      have H' := Aside0.mk H
      clear H
      go_wp2
      go_meet
      case rel => exact ⟨_, (decide (a1 > 2305843009213693952)), (by first | rfl | (simp; done) | (simp [*]; done)), H', ⟨by first | omega | exact Nat.le_refl _⟩, ⟨by repeat (first | (with_reducible first | exact HB.out | apply below_alloc | apply pw_below_drewN | apply below_drew1) | exact HB.out)⟩⟩
  case rest =>
    clear HC3
    try clear p2
    try clear c4
    try clear c4b0
    obtain ⟨kq, x10_2, rfl, HA, HJ2, HB⟩ := hcut
    cases kq with
    | zero => exact absurd HA.out (by simp [variorumref01_PutSigned.j0])
    | succ kj2 =>
      have H := HA.out
      clear HA
      simp only [variorumref01_PutSigned.j0] at H
      by_cases c5 : x10_2 = true
      · subst c5
        have H1 : ((some (([] : List Int) : List Int)).bind fun y294 => (if y294.length + l0.length < 140737488355328 then (some (y294 ++ l0)) else (none))) = some r := by rw [if_pos rfl] at H; exact H
        clear H
        have H := H1
        clear H1
        obtain ⟨y294, hy294⟩ : ∃ y_ : List Int, y_ = (([] : List Int)) := ⟨_, rfl⟩
        replace H : (if y294.length + l0.length < 140737488355328 then (some (y294 ++ l0)) else (none)) = some r := by first | (rw [hy294]; with_reducible exact H) | (have H2_ := (Option.bind_some _ _).symm.trans H; rw [hy294]; with_reducible exact H2_) | (have H2_ := (Option.bind_some _ _).symm.trans H; with_reducible exact H2_) | with_reducible exact H | (rw [hy294]; exact H) | exact H
        have Ny294 := Aside0.mk hy294
        clear hy294
        by_cases c6 : y294.length + l0.length < 140737488355328
        · rw [if_pos c6] at H
          have LMc6 := Aside0.mk c6
          clear c6
          obtain ⟨y297, hy297⟩ : ∃ y_ : List Int, y_ = (y294 ++ l0) := ⟨_, rfl⟩
          replace H : (some y297) = some r := by first | (rw [hy297]; with_reducible exact H) | (have H2_ := (Option.bind_some _ _).symm.trans H; rw [hy297]; with_reducible exact H2_) | (have H2_ := (Option.bind_some _ _).symm.trans H; with_reducible exact H2_) | with_reducible exact H | (rw [hy297]; exact H) | exact H
          have Ny297 := Aside0.mk hy297
          clear hy297
          obtain rfl := Option.some.inj H
          go_wp2_with (first | ((with_reducible refine gate_dst (N := 11) rfl ?_); refine Kd.R_lit (Kd.int .u8) _ 5 ?hg (N := 11) ?hd (xs := ([] : List Int)) (inner := []) (ok := fun _ => True) (okp := fun _ => True) ?hr ?hp (fun _ hk => hk) trivial (Below.refl _ _) (Nat.le_refl _) (by simp) ?_; (case hd => rfl); (case hg => rfl); (case hr => first | (go_simp; done) | (go_simp; rfl)); (case hp => exact (Reps.none _ _)); intro v295 w7 ho8 hb hg_ hnew_; clear hg_ hnew_; (first | rw [← Ny294.out] at ho8 | (simp only [Int.reduceToNat] at ho8; rw [← Ny294.out] at ho8)); have n0_ := Aside0.mk (Kd.R_lower ho8 (below_size (by repeat (first | (with_reducible first | exact HB.out | apply below_alloc | apply pw_below_drewN | apply below_drew1) | exact HB.out)))); have n1_ := Aside0.mk (below_step (by repeat (first | (with_reducible first | exact HB.out | apply below_alloc | apply pw_below_drewN | apply below_drew1) | exact HB.out)) hb); clear HB; have HO296 := n0_; have HB := n1_; clear n0_ n1_; clear hb ho8) | ((with_reducible refine gate_builtin (b := .append) (xs := #[.tmp 11, .tmp 12]) rfl ?_); at_builtin; refine Kd.R_append_rows (Kd.int .u8) (w0 := w) w.heap.size rfl (.tmp 11) (.tmp 12) 25 5 (.int .u8 0) 1 rfl Try.underlying25 info5 rfl (by decide) (by omega) v295 y294 l0 _ _ _ (fun _ => True) (fun _ => False) rfl rfl ?aO ?aR (fun _ _ h => h) (fun _ h => h.elim) ?aF ?aB ?aS ?aL ?_; (case aR => repeat (first | exact (Kd.C_below HR0.out HB.out) | (with_reducible refine Kd.C_alloc ?_ _) | (with_reducible refine Kd.C_drewN ?_ _) | (with_reducible refine Kd.C_drew ?_))); (case aB => exact (by repeat (first | (with_reducible first | exact HB.out | apply below_alloc | apply pw_below_drewN | apply below_drew1) | exact HB.out))); (case aF => exact (fun _ _ => trivial)); (case aO => exact (by (with_reducible repeat (first | apply Kd.R_alloc | apply Kd.R_drewN | apply Kd.R_drew)); exact HO296.out)); (case aS => exact (below_size (by repeat (first | (with_reducible first | exact HB.out | apply below_alloc | apply pw_below_drewN | apply below_drew1) | exact HB.out)))); (case aL => have := LMc6.out; omega); intro v298 w9 ho hb hg hat; rw [← Ny297.out] at ho; have n0_ := Aside0.mk (hb); have n1_ := Aside0.mk (ho); clear HB; clear HO296; have HB := n0_; have HO299 := n1_; clear n0_ n1_; clear ho hb hg hat))
          go_ret
          exact ⟨_, by first | rfl | (simp [errW_none, errW_some] <;> rfl) | (simp [*, errW_none, errW_some] <;> rfl), by (with_reducible repeat (first | apply Kd.R_alloc | apply Kd.R_drewN | apply Kd.R_drew)); exact HO299.out, by repeat (first | (with_reducible first | exact HB.out | apply below_alloc | apply pw_below_drewN | apply below_drew1) | exact HB.out)⟩
        · rw [if_neg c6] at H
          exact absurd H (by simp)
      · replace c5 := Bool.eq_false_iff.mpr c5
        subst c5
        have H1 : (if a1 < 0 then ((variorumref01_Put.f kj2 l0 (wrap64 ((wrap64 (2 * (wrap64 (-a1)))) - 1))).bind fun t300 => (some t300)) else ((variorumref01_Put.f kj2 l0 (wrap64 (2 * a1))).bind fun t303 => (some t303))) = some r := by rw [if_neg (show ¬ (false = true) by decide)] at H; exact H
        clear H
        have H := H1
        clear H1
        by_cases c10 : a1 < 0
        · rw [if_pos c10] at H
          have c10b0 : decide (a1 < 0) = true := decide_eq_true c10
          clear c10
          replace H := Option.bind_eq_some_iff.mp H
          obtain ⟨t300, A110, H⟩ := H
          replace H : (some t300) = some r := H
          have A11 := Aside0.mk A110
          clear A110
          obtain rfl := Option.some.inj H
          go_wp2_with (first | ((with_reducible refine gate_callee (f := 41) rfl ?_); refine goesL_ (some 21) rfl rfl Try.func41 (by kernel_rfl) rfl #[.slice A0 l0.length c0, .int .i64 (wrap64 ((wrap64 (2 * (wrap64 (-a1)))) - 1))] rfl (by (try simp only [List.map_toArray, List.map_cons, List.map_nil]); first | done | rfl | (simp only [List.length_drop, List.length_take]; rfl)) ?_; (with_reducible refine (variorumref01_Put.calls kj2 _ _ l0 (wrap64 ((wrap64 (2 * (wrap64 (-a1)))) - 1)) t300 _ ?side1 ?side2 A11.out).mono ?_); (case side1 => repeat (first | exact (Kd.C_below HR0.out HB.out) | (with_reducible refine Kd.C_alloc ?_ _) | (with_reducible refine Kd.C_drewN ?_ _) | (with_reducible refine Kd.C_drew ?_))); (case side2 => exact HC0.out); rintro e w12 ⟨v301, rfl, ho0, hb⟩; refine ⟨_, rfl, ?_⟩; have n0_ := Aside0.mk (Kd.R_lower ho0 (below_size (by repeat (first | (with_reducible first | exact HB.out | apply below_alloc | apply pw_below_drewN | apply below_drew1) | exact HB.out)))); have n1_ := Aside0.mk (below_step (by repeat (first | (with_reducible first | exact HB.out | apply below_alloc | apply pw_below_drewN | apply below_drew1) | exact HB.out)) hb); clear HB; have HO302 := n0_; have HB := n1_; clear n0_ n1_; (try clear hb); (try clear hb2); (try clear hk); (try clear hi); (try clear ho0)))
          go_ret
          exact ⟨_, by first | rfl | (simp [errW_none, errW_some] <;> rfl) | (simp [*, errW_none, errW_some] <;> rfl), by (with_reducible repeat (first | apply Kd.R_alloc | apply Kd.R_drewN | apply Kd.R_drew)); exact HO302.out, by repeat (first | (with_reducible first | exact HB.out | apply below_alloc | apply pw_below_drewN | apply below_drew1) | exact HB.out)⟩
        · rw [if_neg c10] at H
          have c10b0 : decide (a1 < 0) = false := decide_eq_false c10
          clear c10
          replace H := Option.bind_eq_some_iff.mp H
          obtain ⟨t303, A130, H⟩ := H
          replace H : (some t303) = some r := H
          have A13 := Aside0.mk A130
          clear A130
          obtain rfl := Option.some.inj H
          go_wp2_with (first | ((with_reducible refine gate_callee (f := 41) rfl ?_); refine goesL_ (some 25) rfl rfl Try.func41 (by kernel_rfl) rfl #[.slice A0 l0.length c0, .int .i64 (wrap64 (2 * a1))] rfl (by (try simp only [List.map_toArray, List.map_cons, List.map_nil]); first | done | rfl | (simp only [List.length_drop, List.length_take]; rfl)) ?_; (with_reducible refine (variorumref01_Put.calls kj2 _ _ l0 (wrap64 (2 * a1)) t303 _ ?side1 ?side2 A13.out).mono ?_); (case side1 => repeat (first | exact (Kd.C_below HR0.out HB.out) | (with_reducible refine Kd.C_alloc ?_ _) | (with_reducible refine Kd.C_drewN ?_ _) | (with_reducible refine Kd.C_drew ?_))); (case side2 => exact HC0.out); rintro e w14 ⟨v304, rfl, ho0, hb⟩; refine ⟨_, rfl, ?_⟩; have n0_ := Aside0.mk (Kd.R_lower ho0 (below_size (by repeat (first | (with_reducible first | exact HB.out | apply below_alloc | apply pw_below_drewN | apply below_drew1) | exact HB.out)))); have n1_ := Aside0.mk (below_step (by repeat (first | (with_reducible first | exact HB.out | apply below_alloc | apply pw_below_drewN | apply below_drew1) | exact HB.out)) hb); clear HB; have HO305 := n0_; have HB := n1_; clear n0_ n1_; (try clear hb); (try clear hb2); (try clear hk); (try clear hi); (try clear ho0)))
          go_ret
          exact ⟨_, by first | rfl | (simp [errW_none, errW_some] <;> rfl) | (simp [*, errW_none, errW_some] <;> rfl), by (with_reducible repeat (first | apply Kd.R_alloc | apply Kd.R_drewN | apply Kd.R_drew)); exact HO305.out, by repeat (first | (with_reducible first | exact HB.out | apply below_alloc | apply pw_below_drewN | apply below_drew1) | exact HB.out)⟩

end Go.Proofs.Ytedfcjcnhgomoaa.P
end
-- MERGED YtedfcjcnhgomoaaPvariorumref01Num
section
-- Written by wip/myprint.py of this session, over the kit's print.py: a Lean function for each Go function, and the proof that the code comes to it.
namespace Go.Proofs.Ytedfcjcnhgomoaa.P
open Go.RowKit Go.Proofs.YtedfcjcnhgomoaaW.PrintWords Go.Proofs.YtedfcjcnhgomoaaW.PrintLast Go.Proofs.YtedfcjcnhgomoaaW.PrintMore
attribute [local go_sem] max2_int min2_int max_two min_two max_three min_three max_four min_four   -- for this text's walks alone
set_option linter.unusedVariables false
set_option linter.unusedSimpArgs false

/-! ### variorumref01_Num: function 53 -/
mutual
def variorumref01_Num.l0 : Nat → List Int → Int → Int → Int → Option (Int × Int)
  | 0, _, _, _, _ => none
  | k + 1, x0, x4, x5, x6 => if x6 < (x0.length : Int) then (variorumref01_Num.j1 k x0 x4 x5 x6 (decide (x6 < 9))) else (variorumref01_Num.j1 k x0 x4 x5 x6 false)
def variorumref01_Num.j1 : Nat → List Int → Int → Int → Int → Bool → Option (Int × Int)
  | 0, _, _, _, _, _ => none
  | k + 1, x0, x4, x5, x6, x15 => if x15 = true then (if 0 ≤ x6 then (if x6 < (x0.length : Int) then (if (Int.tmod (wrap64 (rd x0 x6)) 128) > 0 then (if x5 = 0 then (none) else (variorumref01_Num.j2 k x0 x4 x5 x6 (Int.tmod (wrap64 (rd x0 x6)) 128) (decide ((Int.tmod (wrap64 (rd x0 x6)) 128) > (wrap64 (Int.tdiv (wrap64 (4611686018427387904 - x4)) x5)))))) else (variorumref01_Num.j2 k x0 x4 x5 x6 (Int.tmod (wrap64 (rd x0 x6)) 128) false)) else (none)) else (none)) else (some (0, 0))
def variorumref01_Num.j2 : Nat → List Int → Int → Int → Int → Int → Bool → Option (Int × Int)
  | 0, _, _, _, _, _, _ => none
  | k + 1, x0, x4, x5, x6, x7, x33 => if x33 = true then (some (0, 0)) else (if 0 ≤ x6 then (if x6 < (x0.length : Int) then (if (rd x0 x6) < 128 then (if x7 = 0 then (if x6 > 0 then (some (0, 0)) else (some (wrap64 (x4 + (wrap64 (x7 * x5))), wrap64 (x6 + 1)))) else (some (wrap64 (x4 + (wrap64 (x7 * x5))), wrap64 (x6 + 1)))) else (variorumref01_Num.l0 k x0 (wrap64 (x4 + (wrap64 (x7 * x5)))) (wrap64 (x5 * 128)) (wrap64 (x6 + 1)))) else (none)) else (none))
end
def variorumref01_Num.f (k : Nat) (l0 : List Int) : Option (Int × Int) := variorumref01_Num.l0 k l0 0 1 0
theorem variorumref01_Num.mono_l : ∀ k, (∀ y0 y1 y2 y3, LeO (variorumref01_Num.l0 k y0 y1 y2 y3) (variorumref01_Num.l0 (k + 1) y0 y1 y2 y3)) ∧ (∀ y0 y1 y2 y3 y4, LeO (variorumref01_Num.j1 k y0 y1 y2 y3 y4) (variorumref01_Num.j1 (k + 1) y0 y1 y2 y3 y4)) ∧ (∀ y0 y1 y2 y3 y4 y5, LeO (variorumref01_Num.j2 k y0 y1 y2 y3 y4 y5) (variorumref01_Num.j2 (k + 1) y0 y1 y2 y3 y4 y5))
  | 0 => ⟨fun _ _ _ _ r h => by simp [variorumref01_Num.l0] at h, fun _ _ _ _ _ r h => by simp [variorumref01_Num.j1] at h, fun _ _ _ _ _ _ r h => by simp [variorumref01_Num.j2] at h⟩
  | k + 1 => by
    obtain ⟨ih0, ih1, ih2⟩ := variorumref01_Num.mono_l k
    refine ⟨?_, ?_, ?_⟩
    · intro y0 y1 y2 y3
      unfold variorumref01_Num.l0
      repeat' first
      | (with_reducible exact ih0 _ _ _ _)
      | (with_reducible exact ih1 _ _ _ _ _)
      | (with_reducible exact ih2 _ _ _ _ _ _)
      | (with_reducible exact LeO.refl _)
      | (with_reducible exact LeO.none _)
      | (with_reducible refine LeO.ite ?_ ?_)
      | (with_reducible refine LeO.bind ?_ (fun _ => ?_))
      | exact ih0 _ _ _ _
      | exact ih1 _ _ _ _ _
      | exact ih2 _ _ _ _ _ _
      | exact LeO.none _
      | refine LeO.ite ?_ ?_
      | refine LeO.bind ?_ (fun _ => ?_)
    · intro y0 y1 y2 y3 y4
      unfold variorumref01_Num.j1
      repeat' first
      | (with_reducible exact ih0 _ _ _ _)
      | (with_reducible exact ih1 _ _ _ _ _)
      | (with_reducible exact ih2 _ _ _ _ _ _)
      | (with_reducible exact LeO.refl _)
      | (with_reducible exact LeO.none _)
      | (with_reducible refine LeO.ite ?_ ?_)
      | (with_reducible refine LeO.bind ?_ (fun _ => ?_))
      | exact ih0 _ _ _ _
      | exact ih1 _ _ _ _ _
      | exact ih2 _ _ _ _ _ _
      | exact LeO.none _
      | refine LeO.ite ?_ ?_
      | refine LeO.bind ?_ (fun _ => ?_)
    · intro y0 y1 y2 y3 y4 y5
      unfold variorumref01_Num.j2
      repeat' first
      | (with_reducible exact ih0 _ _ _ _)
      | (with_reducible exact ih1 _ _ _ _ _)
      | (with_reducible exact ih2 _ _ _ _ _ _)
      | (with_reducible exact LeO.refl _)
      | (with_reducible exact LeO.none _)
      | (with_reducible refine LeO.ite ?_ ?_)
      | (with_reducible refine LeO.bind ?_ (fun _ => ?_))
      | exact ih0 _ _ _ _
      | exact ih1 _ _ _ _ _
      | exact ih2 _ _ _ _ _ _
      | exact LeO.none _
      | refine LeO.ite ?_ ?_
      | refine LeO.bind ?_ (fun _ => ?_)
theorem variorumref01_Num.mono : ∀ a0 k, LeO (variorumref01_Num.f k a0) (variorumref01_Num.f (k + 1) a0) := by
  intro a0 k
  obtain ⟨ih0, ih1, ih2⟩ := variorumref01_Num.mono_l k
  unfold variorumref01_Num.f
  repeat' first
      | (with_reducible exact ih0 _ _ _ _)
      | (with_reducible exact ih1 _ _ _ _ _)
      | (with_reducible exact ih2 _ _ _ _ _ _)
      | (with_reducible exact LeO.refl _)
      | (with_reducible exact LeO.none _)
      | (with_reducible refine LeO.ite ?_ ?_)
      | (with_reducible refine LeO.bind ?_ (fun _ => ?_))
      | exact ih0 _ _ _ _
      | exact ih1 _ _ _ _ _
      | exact ih2 _ _ _ _ _ _
      | exact LeO.none _
      | refine LeO.ite ?_ ?_
      | refine LeO.bind ?_ (fun _ => ?_)
set_option maxHeartbeats 8000000 in
set_option maxRecDepth 100000 in
theorem variorumref01_Num.calls (k : Nat) (A0 : Option Addr) (c0 : Nat) (l0 : List Int) (r1 : Int) (r2 : Int) (w : World) (hr0 : Kd.C (Kd.int .u8) w A0 l0.length l0) (hc0 : l0.length ≤ c0) (h : variorumref01_Num.f k l0 = some (r1, r2)) :
    Calls Try.prog 53 #[.slice A0 l0.length c0] w fun e w' => e = .returned (.tuple #[.int .i64 r1, .int .i64 r2]) ∧ Drawn0 w w' := by
  have HR0 := Aside0.mk hr0
  have HC0 := Aside0.mk hc0
  clear hr0 hc0
  have H : (variorumref01_Num.l0 k l0 0 1 0) = some (r1, r2) := h
  clear h
  have H' := Aside0.mk H
  clear H
  go_enter Try.func53, Try.ntmps53
  go_wp2
  go_loopg [4, 5, 6] k (fun kq v4 v5 v6 w' => ∃ (x4_1 : Int) (x5_1 : Int) (x6_1 : Int), v4 = .int .i64 x4_1 ∧ v5 = .int .i64 x5_1 ∧ v6 = .int .i64 x6_1 ∧ Aside0 (variorumref01_Num.l0 kq l0 x4_1 x5_1 x6_1 = some (r1, r2)) ∧ Aside0 (kq ≤ k) ∧ Drawn0 w w')
  case atStart => exact ⟨(0), (1), (0), (by first | rfl | (simp; done) | (simp [*]; done)), (by first | rfl | (simp; done) | (simp [*]; done)), (by first | rfl | (simp; done) | (simp [*]; done)), H', ⟨Nat.le_refl _⟩, by repeat (first | exact Drawn0.refl _ | apply Drawn0.step)⟩
  case round =>
    clear H'
    obtain ⟨x4_1, x5_1, x6_1, rfl, rfl, rfl, HA, HK1, ⟨m1, rfl⟩⟩ := hrel
    cases gk with
    | zero => exact absurd HA.out (by simp [variorumref01_Num.l0])
    | succ k1 =>
      have H := HA.out
      clear HA
      simp only [variorumref01_Num.l0] at H
      have HC2 := Aside0.mk H
      clear H
      go_upto_region 4 with (fail)
      go_cut [15] (fun v15 wc => ∃ (kq : Nat) (x15_1 : Bool), v15 = .bool x15_1 ∧ Aside0 (variorumref01_Num.j1 kq l0 x4_1 x5_1 x6_1 x15_1 = some (r1, r2)) ∧ Aside0 (kq ≤ k1) ∧ Drawn0 w wc)
      case first =>
        have H := HC2.out
        clear HC2
        by_cases c3 : x6_1 < (l0.length : Int)
        · rw [if_pos c3] at H
          have c3b0 : decide (x6_1 < (l0.length : Int)) = true := decide_eq_true c3
          clear c3
          (first | rw [c3b0] | (simp only [i64_w, i32_w]; rw [c3b0]) | skip)
          have H' := Aside0.mk H
          clear H
          go_wp2
          go_meet
          case rel => exact ⟨_, (decide (x6_1 < 9)), (by first | rfl | (simp; done) | (simp [*]; done)), H', ⟨by have := HK1.out; first | omega | exact Nat.le_refl _⟩, by repeat (first | exact Drawn0.refl _ | apply Drawn0.step)⟩
        · rw [if_neg c3] at H
          have c3b0 : decide (x6_1 < (l0.length : Int)) = false := decide_eq_false c3
          clear c3
          (first | rw [c3b0] | (simp only [i64_w, i32_w]; rw [c3b0]) | skip)
          have H' := Aside0.mk H
          clear H
          go_wp2
          go_meet
          case rel => exact ⟨_, (false), (by first | rfl | (simp; done) | (simp [*]; done)), H', ⟨by have := HK1.out; first | omega | exact Nat.le_refl _⟩, by repeat (first | exact Drawn0.refl _ | apply Drawn0.step)⟩
      case rest =>
        clear HC2
        try clear p2
        try clear c3
        try clear c3b0
        obtain ⟨kq, x15_1, rfl, HA, HJ1, ⟨mc1, rfl⟩⟩ := hcut
        cases kq with
        | zero => exact absurd HA.out (by simp [variorumref01_Num.j1])
        | succ kj1 =>
          have H := HA.out
          clear HA
          simp only [variorumref01_Num.j1] at H
          by_cases c4 : x15_1 = true
          · subst c4
            have H1 : (if 0 ≤ x6_1 then (if x6_1 < (l0.length : Int) then (if (Int.tmod (wrap64 (rd l0 x6_1)) 128) > 0 then (if x5_1 = 0 then (none) else (variorumref01_Num.j2 kj1 l0 x4_1 x5_1 x6_1 (Int.tmod (wrap64 (rd l0 x6_1)) 128) (decide ((Int.tmod (wrap64 (rd l0 x6_1)) 128) > (wrap64 (Int.tdiv (wrap64 (4611686018427387904 - x4_1)) x5_1)))))) else (variorumref01_Num.j2 kj1 l0 x4_1 x5_1 x6_1 (Int.tmod (wrap64 (rd l0 x6_1)) 128) false)) else (none)) else (none)) = some (r1, r2) := by rw [if_pos rfl] at H; exact H
            clear H
            have H := H1
            clear H1
            by_cases c5 : 0 ≤ x6_1
            · rw [if_pos c5] at H
              have c5b0 : decide (0 ≤ x6_1) = true := decide_eq_true c5
              clear c5
              by_cases c6 : x6_1 < (l0.length : Int)
              · rw [if_pos c6] at H
                have c6b0 : decide (x6_1 < (l0.length : Int)) = true := decide_eq_true c6
                clear c6
                have HC7 := Aside0.mk H
                clear H
                have p178 : 0 ≤ (x6_1 : Int) := of_decide_eq_true (by first | (with_reducible assumption) | assumption)
                have q178 : x6_1 < (l0.length : Int) := of_decide_eq_true (by first | (with_reducible assumption) | assumption)
                obtain ⟨ad178, e178, hx178_0⟩ := Kd.at_int HR0.out x6_1 p178 q178
                cases e178
                replace p178 := eq_true p178
                replace q178 := eq_true q178
                go_upto_region 7 with (fail)
                go_cut [33] (fun v33 wc => ∃ (kq : Nat) (x33_6 : Bool), v33 = .bool x33_6 ∧ Aside0 (variorumref01_Num.j2 kq l0 x4_1 x5_1 x6_1 (Int.tmod (wrap64 (rd l0 x6_1)) 128) x33_6 = some (r1, r2)) ∧ Aside0 (kq ≤ kj1) ∧ Drawn0 w wc)
                case first =>
                  have H := HC7.out
                  clear HC7
                  by_cases c8 : (Int.tmod (wrap64 (rd l0 x6_1)) 128) > 0
                  · rw [if_pos c8] at H
                    have c8b0 : decide (0 < (Int.tmod (wrap64 (rd l0 x6_1)) 128)) = true := decide_eq_true c8
                    clear c8
                    (first | rw [c8b0] | (simp only [i64_w, i32_w]; rw [c8b0]) | skip)
                    by_cases c9 : x5_1 = 0
                    · rw [if_pos c9] at H
                      exact absurd H (by simp)
                    · rw [if_neg c9] at H
                      have c9b0 : (x5_1 == 0) = false := beq_eq_false_iff_ne.mpr c9
                      have c9b1 : (x5_1 != 0) = true := bne_iff_ne.mpr c9
                      have H' := Aside0.mk H
                      clear H
                      go_wp2
                      go_meet
                      case rel => exact ⟨_, (decide ((Int.tmod (wrap64 (rd l0 x6_1)) 128) > (wrap64 (Int.tdiv (wrap64 (4611686018427387904 - x4_1)) x5_1)))), (by first | rfl | (simp; done) | (simp [*]; done)), H', ⟨by have := HK1.out; have := HJ1.out; first | omega | exact Nat.le_refl _⟩, by repeat (first | exact Drawn0.refl _ | apply Drawn0.step)⟩
                  · rw [if_neg c8] at H
                    have c8b0 : decide (0 < (Int.tmod (wrap64 (rd l0 x6_1)) 128)) = false := decide_eq_false c8
                    clear c8
                    (first | rw [c8b0] | (simp only [i64_w, i32_w]; rw [c8b0]) | skip)
                    have H' := Aside0.mk H
                    clear H
                    go_wp2
                    go_meet
                    case rel => exact ⟨_, (false), (by first | rfl | (simp; done) | (simp [*]; done)), H', ⟨by have := HK1.out; have := HJ1.out; first | omega | exact Nat.le_refl _⟩, by repeat (first | exact Drawn0.refl _ | apply Drawn0.step)⟩
                case rest =>
                  clear HC7
                  try clear c1
                  try clear p1
                  try clear q1
                  try clear hx1
                  try clear p2
                  try clear c3
                  try clear c3b0
                  try clear c4
                  try clear c5
                  try clear c5b0
                  try clear c6
                  try clear c6b0
                  try clear p6
                  try clear c8
                  try clear c8b0
                  try clear c9
                  try clear c9b0
                  try clear c9b1
                  try clear hx178_0
                  try clear p178
                  try clear p2
                  try clear q178
                  obtain ⟨kq, x33_6, rfl, HA, HJ6, ⟨mc6, rfl⟩⟩ := hcut
                  cases kq with
                  | zero => exact absurd HA.out (by simp [variorumref01_Num.j2])
                  | succ kj6 =>
                    have H := HA.out
                    clear HA
                    simp only [variorumref01_Num.j2] at H
                    by_cases c10 : x33_6 = true
                    · subst c10
                      have H1 : (some (0, 0)) = some (r1, r2) := by rw [if_pos rfl] at H; exact H
                      clear H
                      have H := H1
                      clear H1
                      simp only [Option.some.injEq, Prod.mk.injEq] at H
                      obtain ⟨rfl, rfl⟩ := H
                      go_wp2
                      go_ret2
                      exact ⟨by first | rfl | (simp; done) | (simp [*]; done), by repeat (first | exact Drawn0.refl _ | apply Drawn0.step)⟩
                    · replace c10 := Bool.eq_false_iff.mpr c10
                      subst c10
                      have H1 : (if 0 ≤ x6_1 then (if x6_1 < (l0.length : Int) then (if (rd l0 x6_1) < 128 then (if (Int.tmod (wrap64 (rd l0 x6_1)) 128) = 0 then (if x6_1 > 0 then (some (0, 0)) else (some (wrap64 (x4_1 + (wrap64 ((Int.tmod (wrap64 (rd l0 x6_1)) 128) * x5_1))), wrap64 (x6_1 + 1)))) else (some (wrap64 (x4_1 + (wrap64 ((Int.tmod (wrap64 (rd l0 x6_1)) 128) * x5_1))), wrap64 (x6_1 + 1)))) else (variorumref01_Num.l0 kj6 l0 (wrap64 (x4_1 + (wrap64 ((Int.tmod (wrap64 (rd l0 x6_1)) 128) * x5_1)))) (wrap64 (x5_1 * 128)) (wrap64 (x6_1 + 1)))) else (none)) else (none)) = some (r1, r2) := by rw [if_neg (show ¬ (false = true) by decide)] at H; exact H
                      clear H
                      have H := H1
                      clear H1
                      by_cases c11 : 0 ≤ x6_1
                      · rw [if_pos c11] at H
                        have c11b0 : decide (0 ≤ x6_1) = true := decide_eq_true c11
                        clear c11
                        by_cases c12 : x6_1 < (l0.length : Int)
                        · rw [if_pos c12] at H
                          have c12b0 : decide (x6_1 < (l0.length : Int)) = true := decide_eq_true c12
                          clear c12
                          by_cases c13 : (rd l0 x6_1) < 128
                          · rw [if_pos c13] at H
                            have c13b0 : decide ((rd l0 x6_1) < 128) = true := decide_eq_true c13
                            clear c13
                            by_cases c14 : (Int.tmod (wrap64 (rd l0 x6_1)) 128) = 0
                            · rw [if_pos c14] at H
                              have c14b0 : ((Int.tmod (wrap64 (rd l0 x6_1)) 128) == 0) = true := beq_iff_eq.mpr c14
                              have c14b1 : ((Int.tmod (wrap64 (rd l0 x6_1)) 128) != 0) = false := bne_eq_false_iff_eq.mpr c14
                              clear c14
                              by_cases c15 : x6_1 > 0
                              · rw [if_pos c15] at H
                                have c15b0 : decide (0 < x6_1) = true := decide_eq_true c15
                                clear c15
                                simp only [Option.some.injEq, Prod.mk.injEq] at H
                                obtain ⟨rfl, rfl⟩ := H
                                have p179 : 0 ≤ (x6_1 : Int) := of_decide_eq_true (by first | (with_reducible assumption) | assumption)
                                have q179 : x6_1 < (l0.length : Int) := of_decide_eq_true (by first | (with_reducible assumption) | assumption)
                                obtain ⟨ad179, e179, hx179_0⟩ := Kd.at_int HR0.out x6_1 p179 q179
                                obtain rfl : ad178 = ad179 := (by injection e179)
                                replace p179 := eq_true p179
                                replace q179 := eq_true q179
                                go_wp2
                                go_ret2
                                exact ⟨by first | rfl | (simp; done) | (simp [*]; done), by repeat (first | exact Drawn0.refl _ | apply Drawn0.step)⟩
                              · rw [if_neg c15] at H
                                have c15b0 : decide (0 < x6_1) = false := decide_eq_false c15
                                clear c15
                                simp only [Option.some.injEq, Prod.mk.injEq] at H
                                obtain ⟨rfl, rfl⟩ := H
                                have p179 : 0 ≤ (x6_1 : Int) := of_decide_eq_true (by first | (with_reducible assumption) | assumption)
                                have q179 : x6_1 < (l0.length : Int) := of_decide_eq_true (by first | (with_reducible assumption) | assumption)
                                obtain ⟨ad179, e179, hx179_0⟩ := Kd.at_int HR0.out x6_1 p179 q179
                                obtain rfl : ad178 = ad179 := (by injection e179)
                                replace p179 := eq_true p179
                                replace q179 := eq_true q179
                                go_wp2
                                go_ret2
                                exact ⟨by first | rfl | (simp; done) | (simp [*]; done), by repeat (first | exact Drawn0.refl _ | apply Drawn0.step)⟩
                            · rw [if_neg c14] at H
                              have c14b0 : ((Int.tmod (wrap64 (rd l0 x6_1)) 128) == 0) = false := beq_eq_false_iff_ne.mpr c14
                              have c14b1 : ((Int.tmod (wrap64 (rd l0 x6_1)) 128) != 0) = true := bne_iff_ne.mpr c14
                              simp only [Option.some.injEq, Prod.mk.injEq] at H
                              obtain ⟨rfl, rfl⟩ := H
                              have p179 : 0 ≤ (x6_1 : Int) := of_decide_eq_true (by first | (with_reducible assumption) | assumption)
                              have q179 : x6_1 < (l0.length : Int) := of_decide_eq_true (by first | (with_reducible assumption) | assumption)
                              obtain ⟨ad179, e179, hx179_0⟩ := Kd.at_int HR0.out x6_1 p179 q179
                              obtain rfl : ad178 = ad179 := (by injection e179)
                              replace p179 := eq_true p179
                              replace q179 := eq_true q179
                              go_wp2
                              go_ret2
                              exact ⟨by first | rfl | (simp; done) | (simp [*]; done), by repeat (first | exact Drawn0.refl _ | apply Drawn0.step)⟩
                          · rw [if_neg c13] at H
                            have c13b0 : decide ((rd l0 x6_1) < 128) = false := decide_eq_false c13
                            clear c13
                            have H' := Aside0.mk H
                            clear H
                            have p179 : 0 ≤ (x6_1 : Int) := of_decide_eq_true (by first | (with_reducible assumption) | assumption)
                            have q179 : x6_1 < (l0.length : Int) := of_decide_eq_true (by first | (with_reducible assumption) | assumption)
                            obtain ⟨ad179, e179, hx179_0⟩ := Kd.at_int HR0.out x6_1 p179 q179
                            obtain rfl : ad178 = ad179 := (by injection e179)
                            replace p179 := eq_true p179
                            replace q179 := eq_true q179
                            go_wp2
                            go_roundg kj6
                            case measure => have := HK1.out; have := HJ1.out; have := HJ6.out; omega
                            case rel => exact ⟨(wrap64 (x4_1 + (wrap64 ((Int.tmod (wrap64 (rd l0 x6_1)) 128) * x5_1)))), (wrap64 (x5_1 * 128)), (wrap64 (x6_1 + 1)), (by first | rfl | (simp; done) | (simp [*]; done)), (by first | rfl | (simp; done) | (simp [*]; done)), (by first | rfl | (simp; done) | (simp [*]; done)), H', ⟨by have := HK1.out; have := HJ1.out; have := HJ6.out; omega⟩, by repeat (first | exact Drawn0.refl _ | apply Drawn0.step)⟩
                        · rw [if_neg c12] at H
                          exact absurd H (by simp)
                      · rw [if_neg c11] at H
                        exact absurd H (by simp)
              · rw [if_neg c6] at H
                exact absurd H (by simp)
            · rw [if_neg c5] at H
              exact absurd H (by simp)
          · replace c4 := Bool.eq_false_iff.mpr c4
            subst c4
            have H1 : (some (0, 0)) = some (r1, r2) := by rw [if_neg (show ¬ (false = true) by decide)] at H; exact H
            clear H
            have H := H1
            clear H1
            simp only [Option.some.injEq, Prod.mk.injEq] at H
            obtain ⟨rfl, rfl⟩ := H
            go_wp2
            go_ret2
            exact ⟨by first | rfl | (simp; done) | (simp [*]; done), by repeat (first | exact Drawn0.refl _ | apply Drawn0.step)⟩

end Go.Proofs.Ytedfcjcnhgomoaa.P
end
-- MERGED YtedfcjcnhgomoaaPvariorumref01Signed
section
-- Written by wip/myprint.py of this session, over the kit's print.py: a Lean function for each Go function, and the proof that the code comes to it.
namespace Go.Proofs.Ytedfcjcnhgomoaa.P
open Go.RowKit Go.Proofs.YtedfcjcnhgomoaaW.PrintWords Go.Proofs.YtedfcjcnhgomoaaW.PrintLast Go.Proofs.YtedfcjcnhgomoaaW.PrintMore
attribute [local go_sem] max2_int min2_int max_two min_two max_three min_three max_four min_four   -- for this text's walks alone
set_option linter.unusedVariables false
set_option linter.unusedSimpArgs false

/-! ### variorumref01_Signed: function 113 -/
def variorumref01_Signed.f (k : Nat) (l0 : List Int) : Option (Int × Int) := (variorumref01_Num.f k l0).bind fun bt381 => (if (Int.tmod bt381.1 2) = 1 then (some (wrap64 (-(wrap64 (Int.tdiv (wrap64 (bt381.1 + 1)) 2))), bt381.2)) else (some (wrap64 (Int.tdiv bt381.1 2), bt381.2)))
theorem variorumref01_Signed.mono : ∀ a0 k, LeO (variorumref01_Signed.f k a0) (variorumref01_Signed.f (k + 1) a0) := by
  intro a0 k
  unfold variorumref01_Signed.f
  repeat' first
      | (with_reducible exact variorumref01_Num.mono _ _)
      | (with_reducible exact LeO.refl _)
      | (with_reducible exact LeO.none _)
      | (with_reducible refine LeO.ite ?_ ?_)
      | (with_reducible refine LeO.bind ?_ (fun _ => ?_))
      | exact variorumref01_Num.mono _ _
      | exact LeO.none _
      | refine LeO.ite ?_ ?_
      | refine LeO.bind ?_ (fun _ => ?_)
set_option maxHeartbeats 8000000 in
set_option maxRecDepth 100000 in
theorem variorumref01_Signed.calls (k : Nat) (A0 : Option Addr) (c0 : Nat) (l0 : List Int) (r1 : Int) (r2 : Int) (w : World) (hr0 : Kd.C (Kd.int .u8) w A0 l0.length l0) (hc0 : l0.length ≤ c0) (h : variorumref01_Signed.f k l0 = some (r1, r2)) :
    Calls Try.prog 113 #[.slice A0 l0.length c0] w fun e w' => e = .returned (.tuple #[.int .i64 r1, .int .i64 r2]) ∧ Drawn0 w w' := by
  have HR0 := Aside0.mk hr0
  have HC0 := Aside0.mk hc0
  clear hr0 hc0
  have H : ((variorumref01_Num.f k l0).bind fun bt381 => (if (Int.tmod bt381.1 2) = 1 then (some (wrap64 (-(wrap64 (Int.tdiv (wrap64 (bt381.1 + 1)) 2))), bt381.2)) else (some (wrap64 (Int.tdiv bt381.1 2), bt381.2)))) = some (r1, r2) := h
  clear h
  replace H := Option.bind_eq_some_iff.mp H
  obtain ⟨⟨t381, t382⟩, A20, H⟩ := H
  replace H : (if (Int.tmod t381 2) = 1 then (some (wrap64 (-(wrap64 (Int.tdiv (wrap64 (t381 + 1)) 2))), t382)) else (some (wrap64 (Int.tdiv t381 2), t382))) = some (r1, r2) := H
  have A2 := Aside0.mk A20
  clear A20
  by_cases c3 : (Int.tmod t381 2) = 1
  · rw [if_pos c3] at H
    have c3b0 : ((Int.tmod t381 2) == 1) = true := beq_iff_eq.mpr c3
    have c3b1 : ((Int.tmod t381 2) != 1) = false := bne_eq_false_iff_eq.mpr c3
    clear c3
    simp only [Option.some.injEq, Prod.mk.injEq] at H
    obtain ⟨rfl, rfl⟩ := H
    go_enter Try.func113, Try.ntmps113
    go_wp2_with (first | ((with_reducible refine gate_callee (f := 53) rfl ?_); refine goesL_ (some 8) rfl rfl Try.func53 (by kernel_rfl) rfl #[.slice A0 l0.length c0] rfl (by (try simp only [List.map_toArray, List.map_cons, List.map_nil]); first | done | rfl | (simp only [List.length_drop, List.length_take]; rfl)) ?_; (with_reducible refine (variorumref01_Num.calls k _ _ l0 t381 t382 _ ?side1 ?side2 A2.out).mono ?_); (case side1 => repeat (first | exact HR0.out | (with_reducible refine Kd.C_alloc ?_ _) | (with_reducible refine Kd.C_drewN ?_ _) | (with_reducible refine Kd.C_drew ?_))); (case side2 => exact HC0.out); rintro e w' ⟨rfl, ⟨nd, rfl⟩⟩; refine ⟨_, rfl, ?_⟩))
    go_ret2
    exact ⟨by first | rfl | (simp; done) | (simp [*]; done), by repeat (first | exact Drawn0.refl _ | apply Drawn0.step)⟩
  · rw [if_neg c3] at H
    have c3b0 : ((Int.tmod t381 2) == 1) = false := beq_eq_false_iff_ne.mpr c3
    have c3b1 : ((Int.tmod t381 2) != 1) = true := bne_iff_ne.mpr c3
    simp only [Option.some.injEq, Prod.mk.injEq] at H
    obtain ⟨rfl, rfl⟩ := H
    go_enter Try.func113, Try.ntmps113
    go_wp2_with (first | ((with_reducible refine gate_callee (f := 53) rfl ?_); refine goesL_ (some 8) rfl rfl Try.func53 (by kernel_rfl) rfl #[.slice A0 l0.length c0] rfl (by (try simp only [List.map_toArray, List.map_cons, List.map_nil]); first | done | rfl | (simp only [List.length_drop, List.length_take]; rfl)) ?_; (with_reducible refine (variorumref01_Num.calls k _ _ l0 t381 t382 _ ?side1 ?side2 A2.out).mono ?_); (case side1 => repeat (first | exact HR0.out | (with_reducible refine Kd.C_alloc ?_ _) | (with_reducible refine Kd.C_drewN ?_ _) | (with_reducible refine Kd.C_drew ?_))); (case side2 => exact HC0.out); rintro e w' ⟨rfl, ⟨nd, rfl⟩⟩; refine ⟨_, rfl, ?_⟩))
    go_ret2
    exact ⟨by first | rfl | (simp; done) | (simp [*]; done), by repeat (first | exact Drawn0.refl _ | apply Drawn0.step)⟩

end Go.Proofs.Ytedfcjcnhgomoaa.P
end
-- MERGED YtedfcjcnhgomoaaVaryRef
section
/- The reference's numbers and texts as bytes come to the same plain law. -/
namespace Go.Proofs.Ytedfcjcnhgomoaa.VaryRef
open Go.RowKit Go.Proofs.Ytedfcjcnhgomoaa.P Go.Proofs.YtedfcjcnhgomoaaW.PrintWords Go.Proofs.YtedfcjcnhgomoaaW.PrintLast Go.Proofs.YtedfcjcnhgomoaaW.PrintMore Go.Proofs.Ytedfcjcnhgomoaa.Own Go.Proofs.Ytedfcjcnhgomoaa.Vy Go.Proofs.Ytedfcjcnhgomoaa.VaryR

theorem put_eq (k : Nat) (x : Int) (l : List Int) : variorumref01_Put.l0 (k + 1) x l = if x ≥ 128 then (if l.length < 140737488355328 then (variorumref01_Put.l0 k (wrap64 (Int.tdiv x 128)) (l ++ [(wrap64 ((Int.tmod x 128) + 128)) % 256])) else (none)) else (if l.length < 140737488355328 then (some (l ++ [(x) % 256])) else (none)) := by
  rw [variorumref01_Put.l0]
theorem put_j (k : Nat) (x : Int) (l : List Int) (b : Bool) : variorumref01_Put.j0 (k + 1) x l b = if b = true then (some l) else (variorumref01_Put.l0 k x l) := by
  rw [variorumref01_Put.j0]
theorem put_run : ∀ (m k : Nat) (acc : List Int), m ≤ 4611686018427387904 → acc.length + (enc m).length ≤ 140737488355000 → variorumref01_Put.l0 (k + (enc m).length) (m : Int) acc = some (acc ++ enc m) := by
  intro m
  induction m using Nat.strongRecOn with
  | _ m ih =>
    intro k acc hm hl
    by_cases h : m < 128
    · rw [enc_lt h] at hl ⊢
      rw [show k + [(m : Int)].length = k + 1 from rfl, put_eq, if_neg (by omega), if_pos (by omega), show (m : Int) % 256 = m by omega]
    · rw [enc_ge (by omega)] at hl ⊢
      simp only [List.length_cons] at hl ⊢
      rw [show k + ((enc (m / 128)).length + 1) = (k + (enc (m / 128)).length) + 1 by omega, put_eq, if_pos (by omega), if_pos (by omega)]
      rw [Int.tdiv_eq_ediv_of_nonneg (by omega), Int.tmod_eq_emod_of_nonneg (by omega), Byt.wrap_in _ (by omega), Byt.wrap_in _ (by omega)]
      rw [show (m : Int) / 128 = ((m / 128 : Nat) : Int) by omega, show ((m : Int) % 128 + 128) % 256 = ((m % 128 + 128 : Nat) : Int) by omega]
      rw [ih (m / 128) (by omega) k _ (by omega) (by simp; omega)]
      simp
theorem put_f (l : List Int) (n : Int) (k : Nat) (hk : 10 ≤ k) (hl : l.length ≤ 140737488354000) : variorumref01_Put.f k l n = some (putL l n) := by
  unfold variorumref01_Put.f putL
  obtain ⟨k, rfl⟩ : ∃ q, k = q + 1 := ⟨k - 1, by omega⟩
  simp only [Option.bind_some, List.nil_append, List.length_nil]
  rw [if_pos (by omega)]
  by_cases h0 : n < 0
  · rw [if_pos h0, put_j, if_pos rfl, if_pos (.inl h0)]
  · rw [if_neg h0, put_j]
    by_cases h1 : n > 4611686018427387904
    · rw [if_pos (by simpa using h1), if_pos (.inr h1)]
    · obtain ⟨m, rfl⟩ : ∃ m : Nat, n = (m : Int) := ⟨n.toNat, by omega⟩
      rw [if_neg (by simpa using h1), if_neg (by have : M = 4611686018427387904 := rfl; omega), Int.toNat_natCast]
      have h9 := enc_len9 (n := m) (by omega)
      have := put_run m (k - (enc m).length) l (by omega) (by omega)
      rwa [show k - (enc m).length + (enc m).length = k by omega] at this
theorem putS_f (l : List Int) (n : Int) (hl : l.length ≤ 140737488354000) : variorumref01_PutSigned.f 11 l n = some (putSL l n) := by
  unfold variorumref01_PutSigned.f putSL
  by_cases h0 : n < -2305843009213693952
  · rw [if_pos h0, if_pos (.inl h0), variorumref01_PutSigned.j0, if_pos rfl]
    simp only [Option.bind_some, List.nil_append, List.length_nil]
    rw [if_pos (by omega)]
  · rw [if_neg h0, variorumref01_PutSigned.j0]
    by_cases h1 : n > 2305843009213693952
    · rw [if_pos (by simpa using h1), if_pos (.inr h1)]
      simp only [Option.bind_some, List.nil_append, List.length_nil]
      rw [if_pos (by omega)]
    · have hno : ¬ (n < -2305843009213693952 ∨ 2305843009213693952 < n) := by omega
      rw [if_neg (by simpa using h1)]
      rw [if_neg hno]
      unfold zig
      by_cases h2 : n < 0
      · rw [if_pos h2, if_pos h2, Byt.wrap_in (-n) (by omega), Byt.wrap_in (2 * -n) (by omega), Byt.wrap_in _ (by omega), put_f _ _ _ (by decide) hl, show 2 * -n - 1 = -2 * n - 1 by omega]; rfl
      · rw [if_neg h2, if_neg h2, Byt.wrap_in _ (by omega), put_f _ _ _ (by decide) hl]; rfl
theorem bytesOf_eq (s : ByteArray) : bytesOf s = numsOf s := rfl
theorem putT_f (l : List Int) (s : ByteArray) (k : Nat) (hk : 10 ≤ k) (hl : l.length + s.size ≤ 140737488353000) : variorumref01_PutText.f k l s = some (putTL l (numsOf s)) := by
  unfold variorumref01_PutText.f putTL
  rw [put_f _ _ _ hk (by omega), Option.bind_some, numsOf_length]
  have := putL_len l (s.size : Int)
  rw [if_pos (by omega), bytesOf_eq]

theorem num_l0 (k : Nat) (l : List Int) (n s i : Int) : variorumref01_Num.l0 (k + 1) l n s i = if i < (l.length : Int) then (variorumref01_Num.j1 k l n s i (decide (i < 9))) else (variorumref01_Num.j1 k l n s i false) := by
  rw [variorumref01_Num.l0]
theorem num_j1 (k : Nat) (x0 : List Int) (x4 x5 x6 : Int) (x15 : Bool) : variorumref01_Num.j1 (k + 1) x0 x4 x5 x6 x15 = if x15 = true then (if 0 ≤ x6 then (if x6 < (x0.length : Int) then (if (Int.tmod (wrap64 (rd x0 x6)) 128) > 0 then (if x5 = 0 then (none) else (variorumref01_Num.j2 k x0 x4 x5 x6 (Int.tmod (wrap64 (rd x0 x6)) 128) (decide ((Int.tmod (wrap64 (rd x0 x6)) 128) > (wrap64 (Int.tdiv (wrap64 (4611686018427387904 - x4)) x5)))))) else (variorumref01_Num.j2 k x0 x4 x5 x6 (Int.tmod (wrap64 (rd x0 x6)) 128) false)) else (none)) else (none)) else (some (0, 0)) := by
  rw [variorumref01_Num.j1]
theorem num_j2 (k : Nat) (x0 : List Int) (x4 x5 x6 x7 : Int) (x33 : Bool) : variorumref01_Num.j2 (k + 1) x0 x4 x5 x6 x7 x33 = if x33 = true then (some (0, 0)) else (if 0 ≤ x6 then (if x6 < (x0.length : Int) then (if (rd x0 x6) < 128 then (if x7 = 0 then (if x6 > 0 then (some (0, 0)) else (some (wrap64 (x4 + (wrap64 (x7 * x5))), wrap64 (x6 + 1)))) else (some (wrap64 (x4 + (wrap64 (x7 * x5))), wrap64 (x6 + 1)))) else (variorumref01_Num.l0 k x0 (wrap64 (x4 + (wrap64 (x7 * x5)))) (wrap64 (x5 * 128)) (wrap64 (x6 + 1)))) else (none)) else (none)) := by
  rw [variorumref01_Num.j2]
/-- The pair as the machine has it. -/
def pr (p : Int × Nat) : Int × Int := (p.1, (p.2 : Int))
theorem num_run (l : List Int) (hok : Byt.Ok l) : ∀ (d i k : Nat) (n : Int), i + d = 9 → 0 ≤ n → n ≤ M →
    variorumref01_Num.l0 (k + 3 * d + 2) l n (scal i) (i : Int) = some (pr (numG i n (l.drop i))) := by
  intro d
  induction d with
  | zero =>
    intro i k n hd h0 h1
    obtain rfl : i = 9 := by omega
    rw [numG_end (.inl (by omega)), show k + 3 * 0 + 2 = (k + 1) + 1 by omega, num_l0]
    split
    · rw [num_j1, if_neg (by simp)]; rfl
    · rw [num_j1, if_neg (by simp)]; rfl
  | succ d ih =>
    intro i k n hd h0 h1
    rw [show k + 3 * (d + 1) + 2 = (((k + 3 * d + 2) + 1) + 1) + 1 by omega, num_l0]
    by_cases hlt : i < l.length
    · obtain ⟨x, hx⟩ : ∃ x, l[i] = x := ⟨_, rfl⟩
      have hxr : 0 ≤ x ∧ x ≤ 255 := hok x (hx ▸ List.getElem_mem hlt)
      have hrd : rd l (i : Int) = x := by unfold rd; rw [Byt.rd_at l i hlt, hx]
      have hdrop : l.drop i = x :: l.drop (i + 1) := by rw [List.drop_eq_getElem_cons hlt, hx]
      have hi9 : i < 9 := by omega
      have hs := scal_le hi9
      have hs0 := Vy.pow_pos i
      have hs1 := pow_le8 (k := i) (by omega)
      have hM : M = 4611686018427387904 := rfl
      rw [if_pos (by omega), num_j1, if_pos (by simp; omega), if_pos (by omega), if_pos (by omega), hrd, Byt.wrap_in x (by omega), Int.tmod_eq_emod_of_nonneg (by omega), hs, hdrop]
      have hP0 : 0 ≤ x % 128 * 128 ^ i := Int.mul_nonneg (by omega) (by omega)
      have hdv : (M - n) / 128 ^ i ≤ M - n := Int.ediv_le_self _ (by omega)
      have hdd : (4611686018427387904 - n) / 128 ^ i = (M - n) / 128 ^ i := rfl
      have hdv0 : 0 ≤ (M - n) / 128 ^ i := Int.ediv_nonneg (by omega) (by omega)
      by_cases hb : 0 < x % 128 ∧ (M - n) / 128 ^ i < x % 128
      · rw [if_pos hb.1, if_neg (by omega), Byt.wrap_in (4611686018427387904 - n) (by omega), Int.tdiv_eq_ediv_of_nonneg (by omega), Byt.wrap_in _ (by omega), num_j2, if_pos (by simpa using hb.2), numG_bad hi9 hb.1 hb.2]; rfl
      · have hle : n + x % 128 * 128 ^ i ≤ M := by
          by_cases hk : 0 < x % 128
          · have := (le_div (x % 128) (M - n) (128 ^ i) hs0).1 (by omega)
            omega
          · have : x % 128 = 0 := by omega
            rw [this]; omega
        have hj : (if x % 128 > 0 then (if (128 : Int) ^ i = 0 then (none) else (variorumref01_Num.j2 (k + 3 * d + 2 + 1) l n (128 ^ i) (i : Int) (x % 128) (decide (x % 128 > (wrap64 (Int.tdiv (wrap64 (4611686018427387904 - n)) (128 ^ i))))))) else (variorumref01_Num.j2 (k + 3 * d + 2 + 1) l n (128 ^ i) (i : Int) (x % 128) false)) = variorumref01_Num.j2 (k + 3 * d + 2 + 1) l n (128 ^ i) (i : Int) (x % 128) false := by
          by_cases hk : 0 < x % 128
          · rw [if_pos hk, if_neg (by omega), Byt.wrap_in (4611686018427387904 - n) (by omega), Int.tdiv_eq_ediv_of_nonneg (by omega), Byt.wrap_in _ (by omega), decide_eq_false (by omega)]
          · rw [if_neg hk]
        rw [hj, num_j2, if_neg (by simp), if_pos (by omega), if_pos (by omega), hrd, Byt.wrap_in (x % 128 * 128 ^ i) (by omega), Byt.wrap_in (n + x % 128 * 128 ^ i) (by omega), Byt.wrap_in ((i : Int) + 1) (by omega)]
        by_cases hge : 128 ≤ x
        · rw [if_neg (by omega), numG_more hi9 hb hge]
          have hsn := scal_next hi9
          rw [hs] at hsn
          rw [hsn, show (i : Int) + 1 = ((i + 1 : Nat) : Int) by omega]
          exact ih (i + 1) k _ (by omega) (by omega) hle
        · rw [if_pos (by omega)]
          by_cases hz : x % 128 = 0 ∧ 0 < i
          · rw [if_pos hz.1, if_pos (by omega), numG_idle hi9 (by omega) hz.1 hz.2]; rfl
          · rw [numG_last hi9 hb (by omega) hz]
            by_cases hz1 : x % 128 = 0
            · rw [if_pos hz1, if_neg (by omega)]; rfl
            · rw [if_neg hz1]; rfl
    · rw [if_neg (by omega), num_j1, if_neg (by simp), numG_end (.inr (List.drop_of_length_le (by omega)))]; rfl
theorem num_f (l : List Int) (hok : Byt.Ok l) : variorumref01_Num.f 29 l = some (pr (numL l)) := by
  unfold variorumref01_Num.f numL
  have := num_run l hok 9 0 0 0 (by omega) (by omega) (by decide)
  simpa [scal] using this
theorem signed_f (l : List Int) (hok : Byt.Ok l) : variorumref01_Signed.f 29 l = some (pr (sgnL l)) := by
  unfold variorumref01_Signed.f sgnL
  rw [num_f l hok, Option.bind_some]
  obtain ⟨h0, h1⟩ := numL_nonneg hok
  have hM : M = 4611686018427387904 := rfl
  unfold pr zag
  simp only
  obtain ⟨r, hr⟩ : ∃ r, r = (numL l).1 := ⟨_, rfl⟩
  rw [← hr] at h0 h1 ⊢
  rw [Int.tmod_eq_emod_of_nonneg h0, Int.tdiv_eq_ediv_of_nonneg h0, Byt.wrap_in (r + 1) (by omega), Int.tdiv_eq_ediv_of_nonneg (by omega), Byt.wrap_in ((r + 1) / 2) (by omega), Byt.wrap_in (-((r + 1) / 2)) (by omega), Byt.wrap_in (r / 2) (by omega)]
  split <;> rfl

theorem nPut (v : Value) (l : List Int) (n : Int) (w : World) (hs : Sl w v l) (hl : l.length ≤ 140737488354000) :
    Calls Try.prog 41 #[v, .int .i64 n] w fun e w' => ∃ v', e = .returned v' ∧ Gr w.heap.size 5 w' v' (putL l n) ∧ Below w.heap.size w w' := by
  obtain ⟨A, c, rfl, hc, hC⟩ := hs
  exact (variorumref01_Put.calls 10 A c l n _ w hC hc (put_f l n 10 (by decide) hl)).mono fun e w' ⟨v', he, hr, hb⟩ => ⟨v', he, Gr.of_R hr, hb⟩
theorem nPutSigned (v : Value) (l : List Int) (n : Int) (w : World) (hs : Sl w v l) (hl : l.length ≤ 140737488354000) :
    Calls Try.prog 64 #[v, .int .i64 n] w fun e w' => ∃ v', e = .returned v' ∧ Gr w.heap.size 5 w' v' (putSL l n) ∧ Below w.heap.size w w' := by
  obtain ⟨A, c, rfl, hc, hC⟩ := hs
  exact (variorumref01_PutSigned.calls 11 A c l n _ w hC hc (putS_f l n hl)).mono fun e w' ⟨v', he, hr, hb⟩ => ⟨v', he, Gr.of_R hr, hb⟩
theorem nPutText (v : Value) (l : List Int) (s : ByteArray) (w : World) (hs : Sl w v l) (hl : l.length + s.size ≤ 140737488353000) :
    Calls Try.prog 65 #[v, .string s] w fun e w' => ∃ v', e = .returned v' ∧ Gr w.heap.size 5 w' v' (putTL l (numsOf s)) ∧ Below w.heap.size w w' := by
  obtain ⟨A, c, rfl, hc, hC⟩ := hs
  exact (variorumref01_PutText.calls 10 A c l s _ w hC hc (putT_f l s 10 (by decide) hl)).mono fun e w' ⟨v', he, hr, hb⟩ => ⟨v', he, Gr.of_R hr, hb⟩
theorem nNum (v : Value) (l : List Int) (w : World) (hs : Sl w v l) (hok : Byt.Ok l) :
    Calls Try.prog 53 #[v] w fun e w' => e = .returned (.tuple #[.int .i64 (numL l).1, .int .i64 ((numL l).2 : Int)]) ∧ Drawn0 w w' := by
  obtain ⟨A, c, rfl, hc, hC⟩ := hs
  exact variorumref01_Num.calls 29 A c l _ _ w hC hc (num_f l hok)
theorem nSigned (v : Value) (l : List Int) (w : World) (hs : Sl w v l) (hok : Byt.Ok l) :
    Calls Try.prog 113 #[v] w fun e w' => e = .returned (.tuple #[.int .i64 (sgnL l).1, .int .i64 ((sgnL l).2 : Int)]) ∧ Drawn0 w w' := by
  obtain ⟨A, c, rfl, hc, hC⟩ := hs
  exact variorumref01_Signed.calls 29 A c l _ _ w hC hc (signed_f l hok)
set_option maxHeartbeats 1000000 in
set_option maxRecDepth 100000 in
theorem nText (v : Value) (l : List Int) (w : World) (hs : Sl w v l) (hok : Byt.Ok l) (hl : l.length ≤ 140737488354000) :
    Calls Try.prog 91 #[v] w fun e w' => e = .returned (.tuple #[.string (strOfNums (textL l).1), .int .i64 ((textL l).2 : Int)]) ∧ Drawn0 w w' := by
  have H := Aside0.mk hs
  have HO := Aside0.mk hok
  have hle := numL_le hok
  obtain ⟨hn0, hn1⟩ := numL_nonneg hok
  obtain ⟨r, hr⟩ : ∃ r : Nat, (r : Int) = (numL l).1 := ⟨(numL l).1.toNat, by omega⟩
  obtain ⟨k, hk⟩ : ∃ k : Nat, k = (numL l).2 := ⟨_, rfl⟩
  have hn2 : (r : Int) ≤ 4611686018427387904 := by rw [hr]; exact hn1
  rw [← hk] at hle
  have hn := fun w hs => nNum v l w hs hok
  rw [← hr, ← hk] at hn
  have HT1 := Aside0.mk (show k = 0 ∨ (l.length : Int) - k < r → textL l = ([], 0) by
    intro hz
    unfold textL
    rw [← hr, ← hk, if_pos hz])
  have HT2 := Aside0.mk (show k ≠ 0 → (r : Int) ≤ (l.length : Int) - k → textL l = ((l.take (k + r)).drop k, k + r) by
    intro hz hq
    unfold textL
    rw [← hr, ← hk, if_neg (by omega), Int.toNat_natCast, List.drop_take, Nat.add_sub_cancel_left])
  obtain ⟨A, c, rfl, hc, hC⟩ := hs
  have hC2 := Sl.mk hC hc
  clear hn0 hn1 hr hk hC
  by_cases hz : k = 0
  · have HT := Aside0.mk (HT1.out (.inl hz))
    subst hz
    go_enter Try.func91, Try.ntmps91
    go_wp2_with fail
    refine (hn _ H.out).mono ?_
    rintro e w' ⟨rfl, n, rfl⟩
    clear hn
    go_wp2_with fail
    go_ret2
    rw [HT.out]
    exact ⟨rfl, ⟨_, rfl⟩⟩
  · have hz2 : ((k : Int) == 0) = false := by simp; omega
    have hz3 : ¬ (k : Int) = 0 := by omega
    have HZ := Aside0.mk hz
    by_cases hlt : (l.length : Int) - k < r
    · have HT := Aside0.mk (HT1.out (.inr hlt))
      clear hz
      go_enter Try.func91, Try.ntmps91
      go_wp2_with fail
      refine (hn _ H.out).mono ?_
      rintro e w' ⟨rfl, n, rfl⟩
      clear hn
      go_wp2_with fail
      go_ret2
      rw [HT.out]
      exact ⟨rfl, ⟨_, rfl⟩⟩
    · have HT := Aside0.mk (HT2.out hz (by omega))
      have hlt2 : ¬ ((l.length : Int) - k < r) := hlt
      obtain ⟨u, hcut, hu⟩ := slice_mid (P := Try.prog) 25 5 Try.underlying25 info5 hC2 (k : Int) ((k : Int) + (r : Int)) (by omega) (by omega) (by omega)
      rw [show ((k : Int) + (r : Int)).toNat = k + r by omega, Int.toNat_natCast] at hu
      have hcv := fun n => (hu.drewN n).string (P := Try.prog) Try.underlying25 Try.underlying5 Try.underlying9
      have hsum : (k : Int) + (r : Int) ≤ 140737488355000 := by omega
      clear hz hu hC2
      go_enter Try.func91, Try.ntmps91
      go_wp2_with fail
      refine (hn _ H.out).mono ?_
      rintro e w' ⟨rfl, n, rfl⟩
      clear hn
      go_wp2_with fail
      go_ret2
      rw [HT.out]
      exact ⟨rfl, ⟨_, rfl⟩⟩
end Go.Proofs.Ytedfcjcnhgomoaa.VaryRef
end
-- MERGED YtedfcjcnhgomoaaPsum32down
section
-- Written by wip/myprint.py of this session, over the kit's print.py: a Lean function for each Go function, and the proof that the code comes to it.
namespace Go.Proofs.Ytedfcjcnhgomoaa.P
open Go.RowKit Go.Proofs.YtedfcjcnhgomoaaW.PrintWords Go.Proofs.YtedfcjcnhgomoaaW.PrintLast Go.Proofs.YtedfcjcnhgomoaaW.PrintMore
attribute [local go_sem] max2_int min2_int max_two min_two max_three min_three max_four min_four   -- for this text's walks alone
set_option linter.unusedVariables false
set_option linter.unusedSimpArgs false

/-! ### sum32_down: function 106 -/
def sum32_down.f (a0 : Int) : Option (Int) := if (Go.bits .and .u32 a0 1) = 1 then (some (Go.bits .xor .u32 (a0 / 2) 2197175160)) else (some (a0 / 2))
set_option maxHeartbeats 8000000 in
set_option maxRecDepth 100000 in
theorem sum32_down.calls (a0 : Int) (r : Int) (w : World) (h : sum32_down.f a0 = some r) :
    Calls Try.prog 106 #[.int .u32 a0] w fun e w' => e = .returned (.int .u32 r) ∧ Drawn0 w w' := by
  have H : (if (Go.bits .and .u32 a0 1) = 1 then (some (Go.bits .xor .u32 (a0 / 2) 2197175160)) else (some (a0 / 2))) = some r := h
  clear h
  by_cases c2 : (Go.bits .and .u32 a0 1) = 1
  · rw [if_pos c2] at H
    have c2b0 : ((Go.bits .and .u32 a0 1) == 1) = true := beq_iff_eq.mpr c2
    have c2b1 : ((Go.bits .and .u32 a0 1) != 1) = false := bne_eq_false_iff_eq.mpr c2
    clear c2
    obtain rfl := Option.some.inj H
    go_enter Try.func106, Try.ntmps106
    go_wp2
    go_ret
    exact ⟨by first | rfl | (simp; done) | (simp [*]; done), by repeat (first | exact Drawn0.refl _ | apply Drawn0.step)⟩
  · rw [if_neg c2] at H
    have c2b0 : ((Go.bits .and .u32 a0 1) == 1) = false := beq_eq_false_iff_ne.mpr c2
    have c2b1 : ((Go.bits .and .u32 a0 1) != 1) = true := bne_iff_ne.mpr c2
    obtain rfl := Option.some.inj H
    go_enter Try.func106, Try.ntmps106
    go_wp2
    go_ret
    exact ⟨by first | rfl | (simp; done) | (simp [*]; done), by repeat (first | exact Drawn0.refl _ | apply Drawn0.step)⟩

end Go.Proofs.Ytedfcjcnhgomoaa.P
end
-- MERGED YtedfcjcnhgomoaaPsum32Sum
section
-- Written by wip/myprint.py of this session, over the kit's print.py: a Lean function for each Go function, and the proof that the code comes to it.
namespace Go.Proofs.Ytedfcjcnhgomoaa.P
open Go.RowKit Go.Proofs.YtedfcjcnhgomoaaW.PrintWords Go.Proofs.YtedfcjcnhgomoaaW.PrintLast Go.Proofs.YtedfcjcnhgomoaaW.PrintMore
attribute [local go_sem] max2_int min2_int max_two min_two max_three min_three max_four min_four   -- for this text's walks alone
set_option linter.unusedVariables false
set_option linter.unusedSimpArgs false

/-! ### sum32_Sum: function 83 -/
mutual
def sum32_Sum.l0 : Nat → Int → List Int → Int → Int → Option (Int)
  | 0, _, _, _, _ => none
  | k + 1, x3, x6, x7, x8 => if x8 < x7 then (if 0 ≤ x8 then (if x8 < (x6.length : Int) then (sum32_Sum.l1 k (Go.bits .xor .u32 x3 ((rd x6 x8) % 4294967296)) x6 x7 x8 0) else (none)) else (none)) else (some (Go.bits .xor .u32 x3 4294967295))
def sum32_Sum.l1 : Nat → Int → List Int → Int → Int → Int → Option (Int)
  | 0, _, _, _, _, _ => none
  | k + 1, x3, x6, x7, x8, x16 => if x16 < 8 then ((sum32_down.f x3).bind fun t104 => (sum32_Sum.l1 k t104 x6 x7 x8 (wrap64 (x16 + 1)))) else (sum32_Sum.l0 k x3 x6 x7 (wrap64 (x8 + 1)))
end
def sum32_Sum.f (k : Nat) (l0 : List Int) : Option (Int) := sum32_Sum.l0 k 4294967295 l0 (l0.length : Int) 0
theorem sum32_Sum.mono_l : ∀ k, (∀ y0 y1 y2 y3, LeO (sum32_Sum.l0 k y0 y1 y2 y3) (sum32_Sum.l0 (k + 1) y0 y1 y2 y3)) ∧ (∀ y0 y1 y2 y3 y4, LeO (sum32_Sum.l1 k y0 y1 y2 y3 y4) (sum32_Sum.l1 (k + 1) y0 y1 y2 y3 y4))
  | 0 => ⟨fun _ _ _ _ r h => by simp [sum32_Sum.l0] at h, fun _ _ _ _ _ r h => by simp [sum32_Sum.l1] at h⟩
  | k + 1 => by
    obtain ⟨ih0, ih1⟩ := sum32_Sum.mono_l k
    refine ⟨?_, ?_⟩
    · intro y0 y1 y2 y3
      unfold sum32_Sum.l0
      repeat' first
      | (with_reducible exact ih0 _ _ _ _)
      | (with_reducible exact ih1 _ _ _ _ _)
      | (with_reducible exact LeO.refl _)
      | (with_reducible exact LeO.none _)
      | (with_reducible refine LeO.ite ?_ ?_)
      | (with_reducible refine LeO.bind ?_ (fun _ => ?_))
      | exact ih0 _ _ _ _
      | exact ih1 _ _ _ _ _
      | exact LeO.none _
      | refine LeO.ite ?_ ?_
      | refine LeO.bind ?_ (fun _ => ?_)
    · intro y0 y1 y2 y3 y4
      unfold sum32_Sum.l1
      repeat' first
      | (with_reducible exact ih0 _ _ _ _)
      | (with_reducible exact ih1 _ _ _ _ _)
      | (with_reducible exact LeO.refl _)
      | (with_reducible exact LeO.none _)
      | (with_reducible refine LeO.ite ?_ ?_)
      | (with_reducible refine LeO.bind ?_ (fun _ => ?_))
      | exact ih0 _ _ _ _
      | exact ih1 _ _ _ _ _
      | exact LeO.none _
      | refine LeO.ite ?_ ?_
      | refine LeO.bind ?_ (fun _ => ?_)
theorem sum32_Sum.mono : ∀ a0 k, LeO (sum32_Sum.f k a0) (sum32_Sum.f (k + 1) a0) := by
  intro a0 k
  obtain ⟨ih0, ih1⟩ := sum32_Sum.mono_l k
  unfold sum32_Sum.f
  repeat' first
      | (with_reducible exact ih0 _ _ _ _)
      | (with_reducible exact ih1 _ _ _ _ _)
      | (with_reducible exact LeO.refl _)
      | (with_reducible exact LeO.none _)
      | (with_reducible refine LeO.ite ?_ ?_)
      | (with_reducible refine LeO.bind ?_ (fun _ => ?_))
      | exact ih0 _ _ _ _
      | exact ih1 _ _ _ _ _
      | exact LeO.none _
      | refine LeO.ite ?_ ?_
      | refine LeO.bind ?_ (fun _ => ?_)
set_option maxHeartbeats 8000000 in
set_option maxRecDepth 100000 in
theorem sum32_Sum.calls (k : Nat) (A0 : Option Addr) (c0 : Nat) (l0 : List Int) (r : Int) (w : World) (hr0 : Kd.C (Kd.int .u8) w A0 l0.length l0) (hc0 : l0.length ≤ c0) (h : sum32_Sum.f k l0 = some r) :
    Calls Try.prog 83 #[.slice A0 l0.length c0] w fun e w' => e = .returned (.int .u32 r) ∧ Drawn0 w w' := by
  have HR0 := Aside0.mk hr0
  have HC0 := Aside0.mk hc0
  clear hr0 hc0
  have H : (sum32_Sum.l0 k 4294967295 l0 (l0.length : Int) 0) = some r := h
  clear h
  have H' := Aside0.mk H
  clear H
  go_enter Try.func83, Try.ntmps83
  go_wp2
  go_loopg [3, 8] k (fun kq v3 v8 w' => ∃ (x3_1 : Int) (x8_1 : Int), v3 = .int .u32 x3_1 ∧ v8 = .int .i64 x8_1 ∧ Aside0 (sum32_Sum.l0 kq x3_1 l0 (l0.length : Int) x8_1 = some r) ∧ Aside0 (kq ≤ k) ∧ Drawn0 w w')
  case atStart => exact ⟨(4294967295), (0), (by first | rfl | (simp; done) | (simp [*]; done)), (by first | rfl | (simp; done) | (simp [*]; done)), H', ⟨Nat.le_refl _⟩, by repeat (first | exact Drawn0.refl _ | apply Drawn0.step)⟩
  case round =>
    clear H'
    obtain ⟨x3_1, x8_1, rfl, rfl, HA, HK1, ⟨m1, rfl⟩⟩ := hrel
    cases gk with
    | zero => exact absurd HA.out (by simp [sum32_Sum.l0])
    | succ k1 =>
      have H := HA.out
      clear HA
      simp only [sum32_Sum.l0] at H
      by_cases c2 : x8_1 < (l0.length : Int)
      · rw [if_pos c2] at H
        have c2b0 : decide (x8_1 < (l0.length : Int)) = true := decide_eq_true c2
        clear c2
        by_cases c3 : 0 ≤ x8_1
        · rw [if_pos c3] at H
          have c3b0 : decide (0 ≤ x8_1) = true := decide_eq_true c3
          clear c3
          by_cases c4 : x8_1 < (l0.length : Int)
          · rw [if_pos c4] at H
            have c4b0 : decide (x8_1 < (l0.length : Int)) = true := decide_eq_true c4
            clear c4
            have H' := Aside0.mk H
            clear H
            have p103 : 0 ≤ (x8_1 : Int) := of_decide_eq_true (by first | (with_reducible assumption) | assumption)
            have q103 : x8_1 < (l0.length : Int) := of_decide_eq_true (by first | (with_reducible assumption) | assumption)
            obtain ⟨ad103, e103, hx103_0⟩ := Kd.at_int HR0.out x8_1 p103 q103
            cases e103
            replace p103 := eq_true p103
            replace q103 := eq_true q103
            go_wp2
            go_loopg [3, 16] k1 (fun kq v3 v16 w' => ∃ (x3_2 : Int) (x16_2 : Int), v3 = .int .u32 x3_2 ∧ v16 = .int .i64 x16_2 ∧ Aside0 (sum32_Sum.l1 kq x3_2 l0 (l0.length : Int) x8_1 x16_2 = some r) ∧ Aside0 (kq ≤ k1) ∧ Drawn0 w w')
            case atStart => exact ⟨(Go.bits .xor .u32 x3_1 ((rd l0 x8_1) % 4294967296)), (0), (by first | rfl | (simp; done) | (simp [*]; done)), (by first | rfl | (simp; done) | (simp [*]; done)), H', ⟨Nat.le_refl _⟩, by repeat (first | exact Drawn0.refl _ | apply Drawn0.step)⟩
            case round =>
              clear H'
              try clear p1
              try clear q1
              try clear hx1
              try clear c2
              try clear c2b0
              try clear p2
              try clear c3
              try clear c3b0
              try clear c4
              try clear c4b0
              try clear hx103_0
              try clear p103
              try clear q103
              obtain ⟨x3_2, x16_2, rfl, rfl, HA, HK2, ⟨m2, rfl⟩⟩ := hrel
              cases gk with
              | zero => exact absurd HA.out (by simp [sum32_Sum.l1])
              | succ k2 =>
                have H := HA.out
                clear HA
                simp only [sum32_Sum.l1] at H
                by_cases c5 : x16_2 < 8
                · rw [if_pos c5] at H
                  have c5b0 : decide (x16_2 < 8) = true := decide_eq_true c5
                  clear c5
                  replace H := Option.bind_eq_some_iff.mp H
                  obtain ⟨t104, A60, H⟩ := H
                  replace H : (sum32_Sum.l1 k2 t104 l0 (l0.length : Int) x8_1 (wrap64 (x16_2 + 1))) = some r := H
                  have A6 := Aside0.mk A60
                  clear A60
                  have H' := Aside0.mk H
                  clear H
                  go_wp2_with (first | ((with_reducible refine gate_callee (f := 106) rfl ?_); refine goesL_ (some 19) rfl rfl Try.func106 (by kernel_rfl) rfl #[.int .u32 x3_2] rfl (by (try simp only [List.map_toArray, List.map_cons, List.map_nil]); first | done | rfl | (simp only [List.length_drop, List.length_take]; rfl)) ?_; (with_reducible refine (sum32_down.calls x3_2 t104 _ A6.out).mono ?_); rintro e w' ⟨rfl, ⟨nd, rfl⟩⟩; refine ⟨_, rfl, ?_⟩))
                  go_roundg k2
                  case measure => have := HK1.out; have := HK2.out; omega
                  case rel => exact ⟨(t104), (wrap64 (x16_2 + 1)), (by first | rfl | (simp; done) | (simp [*]; done)), (by first | rfl | (simp; done) | (simp [*]; done)), H', ⟨by have := HK1.out; have := HK2.out; omega⟩, by repeat (first | exact Drawn0.refl _ | apply Drawn0.step)⟩
                · rw [if_neg c5] at H
                  have c5b0 : decide (x16_2 < 8) = false := decide_eq_false c5
                  clear c5
                  have H' := Aside0.mk H
                  clear H
                  go_wp2
                  go_roundg k2
                  case measure => have := HK1.out; have := HK2.out; omega
                  case rel => exact ⟨(x3_2), (wrap64 (x8_1 + 1)), (by first | rfl | (simp; done) | (simp [*]; done)), (by first | rfl | (simp; done) | (simp [*]; done)), H', ⟨by have := HK1.out; have := HK2.out; omega⟩, by repeat (first | exact Drawn0.refl _ | apply Drawn0.step)⟩
          · rw [if_neg c4] at H
            exact absurd H (by simp)
        · rw [if_neg c3] at H
          exact absurd H (by simp)
      · rw [if_neg c2] at H
        have c2b0 : decide (x8_1 < (l0.length : Int)) = false := decide_eq_false c2
        clear c2
        obtain rfl := Option.some.inj H
        go_wp2
        go_ret
        exact ⟨by first | rfl | (simp; done) | (simp [*]; done), by repeat (first | exact Drawn0.refl _ | apply Drawn0.step)⟩

end Go.Proofs.Ytedfcjcnhgomoaa.P
end
-- MERGED YtedfcjcnhgomoaaCrc
section
/- The plain law of the check sum: one step over bits, its linearity and that it is undone; no program in sight. -/
namespace Go.Proofs.Ytedfcjcnhgomoaa.Crc

/-- One bit goes down. -/
def dn (x : BitVec 32) : BitVec 32 := if x.getLsbD 0 then (x >>> 1) ^^^ 0x82F63B78#32 else x >>> 1

theorem dn_zero : dn 0#32 = 0#32 := by decide

theorem xor_swap (a b c d : BitVec 32) : a ^^^ b ^^^ (c ^^^ d) = a ^^^ c ^^^ (b ^^^ d) := by
  rw [BitVec.xor_assoc, ← BitVec.xor_assoc b, BitVec.xor_comm b c, BitVec.xor_assoc c, ← BitVec.xor_assoc]

theorem dn_xor (x y : BitVec 32) : dn (x ^^^ y) = dn x ^^^ dn y := by
  unfold dn
  have h : (x ^^^ y).getLsbD 0 = (x.getLsbD 0 ^^ y.getLsbD 0) := BitVec.getLsbD_xor
  have hs : (x ^^^ y) >>> 1 = (x >>> 1) ^^^ (y >>> 1) := BitVec.ushiftRight_xor_distrib x y 1
  rw [h, hs]
  cases x.getLsbD 0 <;> cases y.getLsbD 0 <;> simp
  · rw [BitVec.xor_assoc]
  · rw [BitVec.xor_assoc, BitVec.xor_comm (y >>> 1), ← BitVec.xor_assoc]
  · rw [xor_swap]; simp

theorem dn_inj0 (x : BitVec 32) (h : dn x = 0#32) : x = 0#32 := by
  unfold dn at h
  cases hx : x.getLsbD 0 with
  | true =>
    rw [hx] at h
    simp at h
    have e : (x >>> 1) = 0x82F63B78#32 := by
      have := congrArg (· ^^^ 0x82F63B78#32) h
      simpa [BitVec.xor_assoc] using this
    have b := congrArg (fun z => z.getLsbD 31) e
    simp at b
  | false =>
    rw [hx] at h
    simp at h
    apply BitVec.eq_of_getLsbD_eq
    intro i hi
    cases i with
    | zero => rw [hx]; simp
    | succ i =>
      have b := congrArg (fun z => z.getLsbD i) h
      simp [BitVec.getLsbD_ushiftRight] at b
      rw [Nat.add_comm 1 i] at b
      rw [b]; simp

/-- So many bits go down. -/
def dns : Nat → BitVec 32 → BitVec 32
  | 0, x => x
  | k + 1, x => dns k (dn x)

theorem dns_zero (k : Nat) : dns k 0#32 = 0#32 := by
  induction k with
  | zero => rfl
  | succ k ih => rw [dns, dn_zero, ih]
theorem dns_xor (k : Nat) : ∀ x y, dns k (x ^^^ y) = dns k x ^^^ dns k y := by
  induction k with
  | zero => intro x y; rfl
  | succ k ih => intro x y; rw [dns, dn_xor, ih]; rfl
theorem dns_add (j k : Nat) : ∀ x, dns (j + k) x = dns k (dns j x) := by
  induction j with
  | zero => intro x; rw [Nat.zero_add]; rfl
  | succ j ih => intro x; rw [Nat.add_right_comm, dns, ih]; rfl
theorem dns_inj0 (k : Nat) : ∀ x, dns k x = 0#32 → x = 0#32 := by
  induction k with
  | zero => intro x h; exact h
  | succ k ih => intro x h; exact dn_inj0 x (ih _ h)
theorem xor_eq_zero {x y : BitVec 32} (h : x ^^^ y = 0#32) : x = y := by
  have := congrArg (· ^^^ y) h
  simpa [BitVec.xor_assoc] using this
theorem dns_inj (k : Nat) (x y : BitVec 32) (h : dns k x = dns k y) : x = y :=
  xor_eq_zero (dns_inj0 k _ (by rw [dns_xor, h]; simp))

/-- A byte comes. -/
def step (x : BitVec 32) (c : Int) : BitVec 32 := dns 8 (x ^^^ BitVec.ofInt 32 c)
def ones : BitVec 32 := 0xFFFFFFFF#32
def run (x : BitVec 32) (l : List Int) : BitVec 32 := l.foldl step x
def sum (l : List Int) : BitVec 32 := run ones l ^^^ ones

/-- A sum's four bytes, the least first. -/
def le4 (x : BitVec 32) : List Int := [(x.toNat : Int) % 256, (x.toNat : Int) / 256 % 256, (x.toNat : Int) / 65536 % 256, (x.toNat : Int) / 16777216]

/-- The model's xor of two numbers of 32 bits. -/
theorem bits_xor (u v : BitVec 32) : Go.bits .xor .u32 (u.toNat : Int) (v.toNat : Int) = ((u ^^^ v).toNat : Int) := by
  have h : ∀ n : Nat, n < 2 ^ 32 → IntKind.u32.wrap (n : Int) = n := by
    intro n hn; rw [IntKind.wrap_u32]; omega
  have e : ∀ z : BitVec 32, BitVec.ofInt 32 (z.toNat : Int) = z := by
    intro z; rw [BitVec.ofInt_natCast]; simp
  simp only [bits]
  show IntKind.u32.wrap (((BitVec.ofInt 32 (u.toNat : Int)) ^^^ (BitVec.ofInt 32 (v.toNat : Int))).toNat : Int) = _
  rw [e, e, h _ (u ^^^ v).isLt]
theorem bits_and1 (u : BitVec 32) : Go.bits .and .u32 (u.toNat : Int) 1 = if u.getLsbD 0 then 1 else 0 := by
  have h := bits_mask .u32 32 (by decide) (fun n h0 h1 => by rw [IntKind.wrap_u32]; omega) 1 (by decide) (u.toNat : Int) (by omega) (by have := u.isLt; omega)
  have h' : Go.bits .and .u32 (u.toNat : Int) 1 = (u.toNat : Int) % 2 := by simpa using h
  rw [h']
  have : u.getLsbD 0 = decide (u.toNat % 2 = 1) := by
    simp [BitVec.getLsbD, Nat.testBit_zero]
  rw [this]
  by_cases c : u.toNat % 2 = 1
  · simp [c]; omega
  · simp [c]; omega
theorem half (u : BitVec 32) : (u.toNat : Int) / (2 : Int) = ((u >>> 1).toNat : Int) := by
  rw [BitVec.toNat_ushiftRight, Nat.shiftRight_eq_div_pow]; omega
theorem ofInt_mod (c : Int) : c % 4294967296 = ((BitVec.ofInt 32 c).toNat : Int) := by
  rw [BitVec.toNat_ofInt]; omega

theorem xor_self_left (a b : BitVec 32) : a ^^^ (a ^^^ b) = b := by rw [← BitVec.xor_assoc]; simp

theorem run_nil (x : BitVec 32) : run x [] = x := rfl
theorem run_cons (x : BitVec 32) (c : Int) (l : List Int) : run x (c :: l) = run (step x c) l := rfl
theorem run_append (x : BitVec 32) (l m : List Int) : run x (l ++ m) = run (run x l) m := List.foldl_append
theorem step_xor (x y : BitVec 32) (c : Int) : step (x ^^^ y) c = step x c ^^^ dns 8 y := by
  unfold step; rw [BitVec.xor_assoc, BitVec.xor_comm y, ← BitVec.xor_assoc, dns_xor]
theorem run_xor (l : List Int) : ∀ x y, run (x ^^^ y) l = run x l ^^^ dns (8 * l.length) y := by
  induction l with
  | nil => intro x y; rfl
  | cons c l ih =>
    intro x y
    rw [run_cons, run_cons, step_xor, ih, List.length_cons, show 8 * (l.length + 1) = 8 + 8 * l.length by omega, dns_add]

/-- Four bytes, one behind the other, are the number that they spell. -/
theorem dn_even (x : BitVec 32) (h : x.getLsbD 0 = false) : dn x = x >>> 1 := by unfold dn; rw [h]; rfl
theorem dns_shift : ∀ (k : Nat) (x : BitVec 32), (∀ i, i < k → x.getLsbD i = false) → dns k x = x >>> k := by
  intro k
  induction k with
  | zero => intro x _; simp [dns]
  | succ k ih =>
    intro x h
    rw [dns, dn_even x (h 0 (by omega)), ih]
    · rw [← BitVec.shiftRight_add, Nat.add_comm]
    · intro i hi
      rw [BitVec.getLsbD_ushiftRight]
      exact h (1 + i) (by omega)
theorem part (y : BitVec 32) (s : Nat) (hs : s ≤ 24) (c : Int) (hc : c = (y.toNat : Int) / (2 ^ s : Nat) % 256) (m : BitVec 32) (hm : m = BitVec.ofInt 32 c <<< s) : dns s m = BitVec.ofInt 32 c := by
  subst hm
  rw [dns_shift]
  · apply BitVec.eq_of_toNat_eq
    rw [BitVec.toNat_ushiftRight, BitVec.toNat_shiftLeft, Nat.shiftRight_eq_div_pow, Nat.shiftLeft_eq]
    have hb : (BitVec.ofInt 32 c).toNat < 256 := by rw [BitVec.toNat_ofInt]; omega
    have h1 : (BitVec.ofInt 32 c).toNat * 2 ^ s < 2 ^ 32 := by
      have : 2 ^ s ≤ 2 ^ 24 := Nat.pow_le_pow_right (by decide) hs
      have h2 : (BitVec.ofInt 32 c).toNat * 2 ^ s ≤ 255 * 2 ^ 24 := Nat.mul_le_mul (by omega) this
      omega
    rw [Nat.mod_eq_of_lt h1, Nat.mul_div_cancel _ (Nat.two_pow_pos s)]
  · intro i hi
    rw [BitVec.getLsbD_shiftLeft]
    simp [hi]
theorem low4 (y : BitVec 32) : dns 8 (dns 8 (dns 8 (dns 8 (BitVec.ofInt 32 ((y.toNat : Int) % 256)) ^^^ BitVec.ofInt 32 ((y.toNat : Int) / 256 % 256)) ^^^ BitVec.ofInt 32 ((y.toNat : Int) / 65536 % 256)) ^^^ BitVec.ofInt 32 ((y.toNat : Int) / 16777216)) = dns 32 y := by
  have hy := y.isLt
  have p0 := part y 0 (by decide) ((y.toNat : Int) % 256) (by simp) _ rfl
  have p1 := part y 8 (by decide) ((y.toNat : Int) / 256 % 256) (by rfl) _ rfl
  have p2 := part y 16 (by decide) ((y.toNat : Int) / 65536 % 256) (by rfl) _ rfl
  have p3 := part y 24 (by decide) ((y.toNat : Int) / 16777216) (by have : ((2 ^ 24 : Nat) : Int) = 16777216 := by decide
                                                                    rw [this]; omega) _ rfl
  have hsum : BitVec.ofInt 32 ((y.toNat : Int) % 256) <<< 0 ^^^ BitVec.ofInt 32 ((y.toNat : Int) / 256 % 256) <<< 8 ^^^ BitVec.ofInt 32 ((y.toNat : Int) / 65536 % 256) <<< 16 ^^^ BitVec.ofInt 32 ((y.toNat : Int) / 16777216) <<< 24 = y := by
    have e0 : BitVec.ofInt 32 ((y.toNat : Int) % 256) = y &&& 0xFF#32 := by
      apply BitVec.eq_of_toNat_eq
      rw [BitVec.toNat_ofInt, BitVec.toNat_and]
      have : y.toNat &&& 255 = y.toNat % 256 := Nat.and_two_pow_sub_one_eq_mod y.toNat 8
      show _ = y.toNat &&& 255
      rw [this]; omega
    have eS : ∀ s : Nat, BitVec.ofInt 32 ((y.toNat : Int) / (2 ^ s : Nat) % 256) = (y >>> s) &&& 0xFF#32 := by
      intro s
      apply BitVec.eq_of_toNat_eq
      rw [BitVec.toNat_ofInt, BitVec.toNat_and, BitVec.toNat_ushiftRight, Nat.shiftRight_eq_div_pow]
      have : (y.toNat / 2 ^ s) &&& 255 = (y.toNat / 2 ^ s) % 256 := Nat.and_two_pow_sub_one_eq_mod _ 8
      show _ = (y.toNat / 2 ^ s) &&& 255
      rw [this, ← Int.natCast_ediv]
      omega
    have e1 : BitVec.ofInt 32 ((y.toNat : Int) / 256 % 256) = (y >>> 8) &&& 0xFF#32 := eS 8
    have e2 : BitVec.ofInt 32 ((y.toNat : Int) / 65536 % 256) = (y >>> 16) &&& 0xFF#32 := eS 16
    have e3 : BitVec.ofInt 32 ((y.toNat : Int) / 16777216) = (y >>> 24) &&& 0xFF#32 := by
      rw [← eS 24]
      congr 1
      have : ((2 ^ 24 : Nat) : Int) = 16777216 := by decide
      rw [this]; omega
    rw [e0, e1, e2, e3]
    apply BitVec.eq_of_getLsbD_eq
    intro i hi
    simp only [BitVec.getLsbD_xor, BitVec.getLsbD_shiftLeft, BitVec.getLsbD_and, BitVec.getLsbD_ushiftRight]
    have hff : ∀ j, (0xFF#32).getLsbD j = decide (j < 8) := by
      intro j
      by_cases hj : j < 32
      · have : ∀ k : Fin 32, (0xFF#32).getLsbD k.val = decide (k.val < 8) := by decide
        exact this ⟨j, hj⟩
      · rw [BitVec.getLsbD_of_ge _ _ (by omega)]; simp; omega
    simp only [hff]
    by_cases h8 : i < 8
    · simp [h8, show i < 16 by omega, show i < 24 by omega, hi]
    · by_cases h16 : i < 16
      · simp [h8, h16, show i < 24 by omega, hi, show i - 8 < 8 by omega, show 8 + (i - 8) = i by omega]
      · by_cases h24 : i < 24
        · simp [h8, h16, h24, hi, show ¬ i - 8 < 8 by omega, show i - 16 < 8 by omega, show 16 + (i - 16) = i by omega]
        · simp [h8, h16, h24, hi, show ¬ i - 8 < 8 by omega, show ¬ i - 16 < 8 by omega, show i - 24 < 8 by omega, show 24 + (i - 24) = i by omega]
  rw [← p1, ← p2, ← p3]
  rw [← p0]
  conv => rhs; rw [← hsum]
  simp only [dns_xor, show (32 : Nat) = 8 + 8 + 8 + 8 from rfl, show (16 : Nat) = 8 + 8 from rfl, show (24 : Nat) = 8 + 8 + 8 from rfl, dns_add]
  rfl
/-- A bit alone goes down to the lowest place. -/
theorem dns_bit : ∀ b : Nat, b ≤ 31 → dns b (BitVec.twoPow 32 b) = 1#32 := by
  intro b hb
  induction b with
  | zero => rfl
  | succ b ih =>
    rw [dns]
    have e : dn (BitVec.twoPow 32 (b + 1)) = BitVec.twoPow 32 b := by
      unfold dn
      have h0 : (BitVec.twoPow 32 (b + 1)).getLsbD 0 = false := by
        rw [BitVec.getLsbD_twoPow]; simp
      rw [h0]
      simp only [Bool.false_eq_true, if_false]
      apply BitVec.eq_of_toNat_eq
      rw [BitVec.toNat_ushiftRight, BitVec.toNat_twoPow, BitVec.toNat_twoPow, Nat.shiftRight_eq_div_pow]
      have h1 : 2 ^ (b + 1) < 2 ^ 32 := Nat.pow_lt_pow_right (by decide) (by omega)
      have h2 : 2 ^ b < 2 ^ 32 := Nat.pow_lt_pow_right (by decide) (by omega)
      rw [Nat.mod_eq_of_lt h1, Nat.mod_eq_of_lt h2, Nat.pow_succ]
      omega
    rw [e, ih (by omega)]
/-- A byte's bit is turned: what becomes of the run. -/
theorem run_flip (l : List Int) (j : Nat) (h : j < l.length) (c : Int) (e : BitVec 32) (hc : BitVec.ofInt 32 c = BitVec.ofInt 32 l[j] ^^^ e) (x : BitVec 32) :
    run x (l.set j c) = run x l ^^^ dns (8 * (l.length - j)) e := by
  have h1 : l.set j c = l.take j ++ c :: l.drop (j + 1) := by rw [List.set_eq_take_append_cons_drop, if_pos h]
  have h2 : l = l.take j ++ l[j] :: l.drop (j + 1) := by rw [List.getElem_cons_drop, List.take_append_drop]
  have h3 : run x l = run x (l.take j ++ l[j] :: l.drop (j + 1)) := by rw [← h2]
  rw [h1, h3, run_append, run_append, run_cons, run_cons]
  have h4 : step (run x (l.take j)) c = step (run x (l.take j)) l[j] ^^^ dns 8 e := by
    unfold step
    rw [hc, ← BitVec.xor_assoc, dns_xor]
  rw [h4, run_xor, List.length_drop, ← dns_add]
  congr 2
  omega
theorem ofInt_of_nat (n : Nat) : BitVec.ofInt 32 (n : Int) = BitVec.ofNat 32 n := BitVec.ofInt_natCast _ _
theorem xor_cancel {a b c : BitVec 32} (h : a ^^^ b = a ^^^ c) : b = c := by
  have := congrArg (a ^^^ ·) h
  simpa [← BitVec.xor_assoc] using this
/-- What is sealed runs to one state, whatever it is. -/
theorem run_sealed (l : List Int) : run ones (l ++ le4 (sum l)) = dns 32 ones := by
  have key : ∀ x y : BitVec 32, run x (le4 y) = dns 32 (x ^^^ y) := by
    intro x y
    unfold le4
    rw [run_cons, run_cons, run_cons, run_cons, run_nil]
    unfold step
    have hy := y.isLt
    obtain ⟨b0, b1, b2, b3, h0, h1, h2, h3, hall⟩ : ∃ b0 b1 b2 b3 : BitVec 32, BitVec.ofInt 32 ((y.toNat : Int) % 256) = b0 ∧ BitVec.ofInt 32 ((y.toNat : Int) / 256 % 256) = b1 ∧ BitVec.ofInt 32 ((y.toNat : Int) / 65536 % 256) = b2 ∧ BitVec.ofInt 32 ((y.toNat : Int) / 16777216) = b3 ∧
        (dns 8 (dns 8 (dns 8 (dns 8 b0 ^^^ b1) ^^^ b2) ^^^ b3) = dns 32 y) := ⟨_, _, _, _, rfl, rfl, rfl, rfl, low4 y⟩
    rw [h0, h1, h2, h3]
    have e : dns 8 (dns 8 (dns 8 (dns 8 (x ^^^ b0) ^^^ b1) ^^^ b2) ^^^ b3) = dns 32 x ^^^ dns 8 (dns 8 (dns 8 (dns 8 b0 ^^^ b1) ^^^ b2) ^^^ b3) := by
      simp only [dns_xor, show (32 : Nat) = 8 + 8 + 8 + 8 from rfl, dns_add, BitVec.xor_assoc]
    rw [e, hall, ← dns_xor]
  rw [run_append, key]
  unfold sum
  rw [xor_self_left]

end Go.Proofs.Ytedfcjcnhgomoaa.Crc
end
-- MERGED YtedfcjcnhgomoaaSum
section
/- What the printed functions of the check sum come to: the plain sum over bits (Crc). -/
namespace Go.Proofs.Ytedfcjcnhgomoaa.SumF
open Go.RowKit Go.Proofs.Ytedfcjcnhgomoaa.P Go.Proofs.YtedfcjcnhgomoaaW.PrintWords Go.Proofs.YtedfcjcnhgomoaaW.PrintLast Go.Proofs.Ytedfcjcnhgomoaa.Crc

theorem down_f (x : BitVec 32) : sum32_down.f (x.toNat : Int) = some ((dn x).toNat : Int) := by
  unfold sum32_down.f
  rw [bits_and1, half, show (2197175160 : Int) = ((0x82F63B78#32).toNat : Int) from rfl, bits_xor]
  unfold dn
  cases x.getLsbD 0 <;> simp

theorem l1_eq (K : Nat) (x : Int) (L : List Int) (n i j : Int) : sum32_Sum.l1 (K + 1) x L n i j = if j < 8 then ((sum32_down.f x).bind fun t102 => (sum32_Sum.l1 K t102 L n i (wrap64 (j + 1)))) else (sum32_Sum.l0 K x L n (wrap64 (i + 1))) := by
  rw [sum32_Sum.l1]
theorem w1 (j : Nat) (h : j ≤ 140737488355328) : wrap64 ((j : Int) + 1) = ((j + 1 : Nat) : Int) := by unfold wrap64; omega
theorem l1_run (L : List Int) (n i : Int) : ∀ (m j : Nat) (x : BitVec 32) (k : Nat), j + m = 8 →
    sum32_Sum.l1 (k + m + 1) (x.toNat : Int) L n i (j : Int) = sum32_Sum.l0 k ((dns m x).toNat : Int) L n (wrap64 (i + 1)) := by
  intro m
  induction m with
  | zero =>
    intro j x k h
    have hj : ¬ (j : Int) < 8 := by omega
    rw [l1_eq, if_neg hj]
    rfl
  | succ m ih =>
    intro j x k h
    have hj : (j : Int) < 8 := by omega
    have h1 := ih (j + 1) (dn x) k (by omega)
    rw [l1_eq, if_pos hj, down_f, w1 j (by omega)]
    exact h1

theorem l0_run (L : List Int) (hL : L.length ≤ 140737488355328) : ∀ (d i k : Nat) (x : BitVec 32), i + d = L.length →
    sum32_Sum.l0 (k + 10 * d + 1) (x.toNat : Int) L (L.length : Int) (i : Int) = some ((run x (L.drop i) ^^^ ones).toNat : Int) := by
  intro d
  induction d with
  | zero =>
    intro i k x h
    rw [sum32_Sum.l0, if_neg (by omega), List.drop_of_length_le (by omega), run_nil, show (4294967295 : Int) = (ones.toNat : Int) from rfl, bits_xor]
  | succ d ih =>
    intro i k x h
    have e : k + 10 * (d + 1) + 1 = ((k + 10 * d + 1) + 8 + 1) + 1 := by omega
    rw [e]
    rw [sum32_Sum.l0, if_pos (by omega), if_pos (by omega), if_pos (by omega), ofInt_mod, bits_xor]
    have h1 := l1_run L (L.length : Int) (i : Int) 8 0 (x ^^^ BitVec.ofInt 32 (rd L (i : Int))) (k + 10 * d + 1) (by omega)
    simp only [Int.natCast_zero] at h1
    rw [h1, w1 i (by omega), ih (i + 1) k _ (by omega)]
    rw [List.drop_eq_getElem_cons (show i < L.length by omega), run_cons]
    have : rd L (i : Int) = L[i]'(by omega) := by
      unfold rd
      rw [Int.toNat_natCast, List.getD_eq_getElem?_getD, List.getElem?_eq_getElem (by omega)]; rfl
    rw [this]; rfl

theorem sum_f (L : List Int) (hL : L.length ≤ 140737488355328) (k : Nat) (hk : 10 * L.length + 1 ≤ k) : sum32_Sum.f k L = some ((sum L).toNat : Int) := by
  unfold sum32_Sum.f
  have h := l0_run L hL L.length 0 (k - (10 * L.length + 1)) ones (by omega)
  have e : k - (10 * L.length + 1) + 10 * L.length + 1 = k := by omega
  rw [e, List.drop_zero] at h
  exact h
theorem sum_some (L : List Int) (hL : L.length ≤ 140737488355328) : ∃ k, sum32_Sum.f k L = some ((sum L).toNat : Int) := ⟨_, sum_f L hL _ (Nat.le_refl _)⟩

theorem sum_nil : sum [] = 0#32 := by decide
theorem sum_nine : (sum [49, 50, 51, 52, 53, 54, 55, 56, 57]).toNat = 3808858755 := by decide +kernel

end Go.Proofs.Ytedfcjcnhgomoaa.SumF
end
-- MERGED YtedfcjcnhgomoaaPsum32Seal
section
-- Written by wip/myprint.py of this session, over the kit's print.py: a Lean function for each Go function, and the proof that the code comes to it.
namespace Go.Proofs.Ytedfcjcnhgomoaa.P
open Go.RowKit Go.Proofs.YtedfcjcnhgomoaaW.PrintWords Go.Proofs.YtedfcjcnhgomoaaW.PrintLast Go.Proofs.YtedfcjcnhgomoaaW.PrintMore
attribute [local go_sem] max2_int min2_int max_two min_two max_three min_three max_four min_four   -- for this text's walks alone
set_option linter.unusedVariables false
set_option linter.unusedSimpArgs false

/-! ### sum32_Seal: function 39 -/
-- NEEDS Derived.Test.YtedfcjcnhgomoaaSum
-- NEEDS Derived.Test.YtedfcjcnhgomoaaOwn
def sum32_Seal.f (l0 : List Int) : Option (List Int) := if l0.length + 4 < 140737488355328 then some (l0 ++ Crc.le4 (Crc.sum l0)) else none
set_option maxHeartbeats 1000000 in
set_option maxRecDepth 100000 in
theorem sum32_Seal.calls (A0 : Option Addr) (c0 : Nat) (l0 : List Int) (r : List Int) (w : World) (hr0 : Kd.C (Kd.int .u8) w A0 l0.length l0) (hc0 : l0.length ≤ c0) (h : sum32_Seal.f l0 = some r) :
    Calls Try.prog 39 #[.slice A0 l0.length c0] w fun e w' => ∃ v0_ : Value, e = .returned (v0_) ∧ Kd.R (Kd.int .u8) 5 w' w.heap.size (fun _ => True) v0_ r ∧ Below w.heap.size w w' := by
  unfold sum32_Seal.f at h
  by_cases hlen : l0.length + 4 < 140737488355328
  · rw [if_pos hlen] at h
    obtain rfl := Option.some.inj h
    obtain ⟨k, hk⟩ := SumF.sum_some l0 (by omega)
    have K1 := Aside0.mk hk
    have HR0 := Aside0.mk hr0
    have HC0 := Aside0.mk hc0
    have HL := Aside0.mk hlen
    clear hk hr0 hc0 h hlen
    go_enter Try.func39, Try.ntmps39
    go_wp2_with fail
    refine (sum32_Sum.calls k A0 c0 l0 _ _ HR0.out HC0.out K1.out).mono ?_
    rintro e w' ⟨rfl, ⟨nd, rfl⟩⟩
    have hn := Own.heap_new_drewN w nd
    have hcap : l0.length ≤ c0 := HC0.out
    go_wp2_with (at_builtin; refine Own.append_full .u8 rfl (.tmp 11) (.tmp 23) 25 5 1 rfl Try.underlying25 info5 A0 l0.length l0 rfl ?hx (some ⟨w.heap.size, 0, none⟩) 4 4 (Crc.le4 (Crc.sum l0)) rfl ?hy (by decide) ?b1 ?b2 ?_)
    case hx => exact Kd.C_alloc (Kd.C_drewN HR0.out nd) _
    case hy => exact Own.C_of_lit .u8 _ (hn _) rfl (by simp [Crc.le4])
    case b1 => have := HL.out; unfold maxLen; omega
    case b2 => have := HL.out; omega
    intro v' w' ho hb
    go_wp2_with fail
    go_ret
    exact ⟨v', rfl, Kd.R_lower ho (by simp), Own.below_after (below_alloc (pw_below_drewN (Below.refl _ w) nd) _) hb (by simp) (by simp)⟩
  · rw [if_neg hlen] at h; cases h

end Go.Proofs.Ytedfcjcnhgomoaa.P
end
-- MERGED YtedfcjcnhgomoaaPsum32Open
section
-- Written by wip/myprint.py of this session, over the kit's print.py: a Lean function for each Go function, and the proof that the code comes to it.
namespace Go.Proofs.Ytedfcjcnhgomoaa.P
open Go.RowKit Go.Proofs.YtedfcjcnhgomoaaW.PrintWords Go.Proofs.YtedfcjcnhgomoaaW.PrintLast Go.Proofs.YtedfcjcnhgomoaaW.PrintMore
attribute [local go_sem] max2_int min2_int max_two min_two max_three min_three max_four min_four   -- for this text's walks alone
set_option linter.unusedVariables false
set_option linter.unusedSimpArgs false

/-! ### sum32_Open: function 50 -/
-- NEEDS Derived.Test.YtedfcjcnhgomoaaOwn
-- NEEDS Derived.Test.YtedfcjcnhgomoaaCrc
-- NEEDS Derived.Deep.RegionWith
def sum32_Open.f (l0 : List Int) : Option (List Int × Bool) := if l0.length ≤ 140737488355000 then (if 4 ≤ l0.length ∧ (strOfNums (l0.take (l0.length - 4) ++ Crc.le4 (Crc.sum (l0.take (l0.length - 4))))).toList = (strOfNums l0).toList then some (l0.take (l0.length - 4), true) else some ([], false)) else none
set_option maxHeartbeats 1000000 in
set_option maxRecDepth 100000 in
theorem sum32_Open.short (A0 : Option Addr) (c0 : Nat) (l0 : List Int) (w : World) (h4 : l0.length < 4) :
    Calls Try.prog 50 #[.slice A0 l0.length c0] w fun e w' => e = .returned (.tuple #[.slice none 0 0, .bool false]) ∧ Drawn0 w w' := by
  have g1 : (l0.length : Int) - 4 < 0 := by omega
  go_enter Try.func50, Try.ntmps50
  go_wp2_with fail
  go_quiet (fail)
  go_wp2_with fail
  go_ret2
  exact ⟨rfl, ⟨_, rfl⟩⟩
set_option maxHeartbeats 8000000 in
set_option maxRecDepth 100000 in
theorem sum32_Open.calls (P0_ : Nat → Prop) (A0 : Option Addr) (c0 : Nat) (l0 : List Int) (r1 : List Int) (r2 : Bool) (w : World) (hs0 : Kd.V (Kd.int .u8) 5 w w.heap.size (fun k_ => P0_ k_) (.slice A0 l0.length c0) l0) (h : sum32_Open.f l0 = some (r1, r2)) :
    Calls Try.prog 50 #[.slice A0 l0.length c0] w fun e w' => ∃ v0_ : Value, e = .returned (.tuple #[v0_, .bool r2]) ∧ Kd.V (Kd.int .u8) 5 w' w.heap.size (fun k_ => (P0_ k_ ∨ w.heap.size ≤ k_)) v0_ r1 ∧ Below w.heap.size w w' := by
  unfold sum32_Open.f at h
  by_cases hlen : l0.length ≤ 140737488355000
  · rw [if_pos hlen] at h
    have hcap : l0.length ≤ c0 := (Kd.V_reads' hs0).2.1
    have HS := Aside0.mk hs0
    by_cases h4 : 4 ≤ l0.length
    · have g1 : decide ((l0.length : Int) - 4 < 0) = false := by simp; omega
      have g2 : (0 : Int) ≤ (l0.length : Int) - 4 := by omega
      have g3 : (l0.length : Int) - 4 ≤ (l0.length : Int) := by omega
      obtain ⟨i0, hi0, _, hsz, _⟩ := info_parts info5
      have hcut := cut_to (P := Try.prog) 25 5 .i64 Try.underlying25 hi0 A0 l0.length c0 ((l0.length : Int) - 4) g2 g3 hcap
      have htn : ((l0.length : Int) - 4).toNat = l0.length - 4 := by omega
      rw [htn] at hcut
      have htl : (l0.take (l0.length - 4)).length = l0.length - 4 := by rw [List.length_take]; omega
      obtain ⟨p, hp⟩ : ∃ p, p = l0.take (l0.length - 4) := ⟨_, rfl⟩
      rw [← hp] at htl h
      have hCp : ∀ W, Kd.C (Kd.int .u8) W A0 l0.length l0 → Kd.C (Kd.int .u8) W A0 p.length p := fun W hW => by rw [htl, hp]; exact Own.C_take hW _ (by omega)
      rw [← htl] at hcut
      have HP := Aside0.mk hp
      have HT := Aside0.mk htl
      clear hp htl htn hi0 hsz
      have hcv : ∀ W, Below w.heap.size w W → (convert 25 9 (.slice A0 l0.length c0)).run Try.prog W = .ok (.string (strOfNums l0)) W := fun W hW =>
        Kd.C_string Try.underlying25 Try.underlying5 Try.underlying9 (Kd.C_below (Kd.V_reads' HS.out).2.2 hW)
      have hb0 := Below.refl w.heap.size w
      have hbd : Below w.heap.size w w.drew := below_drew1 hb0
      have hs : sum32_Seal.f p = some (p ++ Crc.le4 (Crc.sum p)) := by unfold sum32_Seal.f; rw [if_pos (by have := HT.out; omega)]
      have A1 := Aside0.mk hs
      clear hs
      have hF : ∀ W, Below w.heap.size w W → Kd.V (Kd.int .u8) 5 W w.heap.size (fun k_ => (P0_ k_ ∨ w.heap.size ≤ k_)) (.slice A0 p.length c0) p := fun W hW => by
        refine Kd.V_mk (by have := HT.out; omega) ?_
        have h1 := Kd.F_take (m := l0.length - 4) (Kd.V_at HS.out).2.2 (by omega)
        rw [← HP.out] at h1
        exact Kd.F_mono (Kd.F_below h1 hW) (fun _ h => .inl h)
      by_cases he : (strOfNums (p ++ Crc.le4 (Crc.sum p))).toList = (strOfNums l0).toList
      · rw [if_pos ⟨h4, he⟩] at h
        simp only [Option.some.injEq, Prod.mk.injEq] at h
        obtain ⟨rfl, rfl⟩ := h
        have hq : ((strOfNums (p ++ Crc.le4 (Crc.sum p))).toList == (strOfNums l0).toList) = true := beq_iff_eq.mpr he
        clear he
        go_enter Try.func50, Try.ntmps50
        go_wp2_with fail
        go_region_with (go_at_call 39; refine (sum32_Seal.calls A0 c0 p _ _ ?_ ?_ A1.out).mono ?_; exact hCp _ (Kd.C_below (Kd.V_reads' HS.out).2.2 hbd); (have := HT.out; omega); rintro e w' ⟨v, rfl, ho, hb⟩; have hb1 : Below w.heap.size w w' := below_step hbd hb; have hcv1 := own_string (P := Try.prog) Try.underlying25 Try.underlying5 Try.underlying9 (Kd.own_of_R ho))
        all_goals (go_wp2_with fail; go_ret2; exact ⟨_, rfl, hF _ (by assumption), by assumption⟩)
      · rw [if_neg (fun h => he h.2)] at h
        simp only [Option.some.injEq, Prod.mk.injEq] at h
        obtain ⟨rfl, rfl⟩ := h
        have hq : ((strOfNums (p ++ Crc.le4 (Crc.sum p))).toList == (strOfNums l0).toList) = false := beq_eq_false_iff_ne.mpr he
        clear he
        go_enter Try.func50, Try.ntmps50
        go_wp2_with fail
        go_region_with (go_at_call 39; refine (sum32_Seal.calls A0 c0 p _ _ ?_ ?_ A1.out).mono ?_; exact hCp _ (Kd.C_below (Kd.V_reads' HS.out).2.2 hbd); (have := HT.out; omega); rintro e w' ⟨v, rfl, ho, hb⟩; have hb1 : Below w.heap.size w w' := below_step hbd hb; have hcv1 := own_string (P := Try.prog) Try.underlying25 Try.underlying5 Try.underlying9 (Kd.own_of_R ho))
        all_goals (go_wp2_with fail; go_ret2; exact ⟨_, rfl, Kd.V_nil _ _ _ _ _, by assumption⟩)
    · rw [if_neg (fun h => h4 h.1)] at h
      simp only [Option.some.injEq, Prod.mk.injEq] at h
      obtain ⟨rfl, rfl⟩ := h
      refine (sum32_Open.short A0 c0 l0 w (by omega)).mono ?_
      rintro e w' ⟨rfl, hd⟩
      exact ⟨_, rfl, Kd.V_nil _ _ _ _ _, hd.below⟩
  · rw [if_neg hlen] at h; cases h

end Go.Proofs.Ytedfcjcnhgomoaa.P
end
-- MERGED YtedfcjcnhgomoaaPvariorumref02step
section
-- Written by wip/myprint.py of this session, over the kit's print.py: a Lean function for each Go function, and the proof that the code comes to it.
namespace Go.Proofs.Ytedfcjcnhgomoaa.P
open Go.RowKit Go.Proofs.YtedfcjcnhgomoaaW.PrintWords Go.Proofs.YtedfcjcnhgomoaaW.PrintLast Go.Proofs.YtedfcjcnhgomoaaW.PrintMore
attribute [local go_sem] max2_int min2_int max_two min_two max_three min_three max_four min_four   -- for this text's walks alone
set_option linter.unusedVariables false
set_option linter.unusedSimpArgs false

/-! ### variorumref02_step: function 107 -/
def variorumref02_step.l0 : Nat → Int → Int → Option (Int)
  | 0, _, _ => none
  | k + 1, x0, x5 => if x5 < 8 then (if (Int.tmod x0 2) = 1 then (variorumref02_step.l0 k (Go.bits .xor .u32 ((Int.tdiv x0 2) % 4294967296) 2197175160) (wrap64 (x5 + 1))) else (variorumref02_step.l0 k ((Int.tdiv x0 2) % 4294967296) (wrap64 (x5 + 1)))) else (some x0)
def variorumref02_step.f (k : Nat) (a0 : Int) (a1 : Int) : Option (Int) := variorumref02_step.l0 k (Go.bits .xor .u32 a0 ((a1) % 4294967296)) 0
theorem variorumref02_step.mono_l : ∀ k, (∀ y0 y1, LeO (variorumref02_step.l0 k y0 y1) (variorumref02_step.l0 (k + 1) y0 y1))
  | 0 => fun _ _ r h => by simp [variorumref02_step.l0] at h
  | k + 1 => by
    have ih0 := variorumref02_step.mono_l k
    · intro y0 y1
      unfold variorumref02_step.l0
      repeat' first
      | (with_reducible exact ih0 _ _)
      | (with_reducible exact LeO.refl _)
      | (with_reducible exact LeO.none _)
      | (with_reducible refine LeO.ite ?_ ?_)
      | (with_reducible refine LeO.bind ?_ (fun _ => ?_))
      | exact ih0 _ _
      | exact LeO.none _
      | refine LeO.ite ?_ ?_
      | refine LeO.bind ?_ (fun _ => ?_)
theorem variorumref02_step.mono : ∀ a0 a1 k, LeO (variorumref02_step.f k a0 a1) (variorumref02_step.f (k + 1) a0 a1) := by
  intro a0 a1 k
  have ih0 := variorumref02_step.mono_l k
  unfold variorumref02_step.f
  repeat' first
      | (with_reducible exact ih0 _ _)
      | (with_reducible exact LeO.refl _)
      | (with_reducible exact LeO.none _)
      | (with_reducible refine LeO.ite ?_ ?_)
      | (with_reducible refine LeO.bind ?_ (fun _ => ?_))
      | exact ih0 _ _
      | exact LeO.none _
      | refine LeO.ite ?_ ?_
      | refine LeO.bind ?_ (fun _ => ?_)
set_option maxHeartbeats 8000000 in
set_option maxRecDepth 100000 in
theorem variorumref02_step.calls (k : Nat) (a0 : Int) (a1 : Int) (r : Int) (w : World) (h : variorumref02_step.f k a0 a1 = some r) :
    Calls Try.prog 107 #[.int .u32 a0, .int .u8 a1] w fun e w' => e = .returned (.int .u32 r) ∧ Drawn0 w w' := by
  have H : (variorumref02_step.l0 k (Go.bits .xor .u32 a0 ((a1) % 4294967296)) 0) = some r := h
  clear h
  have H' := Aside0.mk H
  clear H
  go_enter Try.func107, Try.ntmps107
  go_wp2
  go_loopg [0, 5] k (fun kq v0 v5 w' => ∃ (x0_1 : Int) (x5_1 : Int), v0 = .int .u32 x0_1 ∧ v5 = .int .i64 x5_1 ∧ Aside0 (variorumref02_step.l0 kq x0_1 x5_1 = some r) ∧ Aside0 (kq ≤ k) ∧ Drawn0 w w')
  case atStart => exact ⟨(Go.bits .xor .u32 a0 ((a1) % 4294967296)), (0), (by first | rfl | (simp; done) | (simp [*]; done)), (by first | rfl | (simp; done) | (simp [*]; done)), H', ⟨Nat.le_refl _⟩, by repeat (first | exact Drawn0.refl _ | apply Drawn0.step)⟩
  case round =>
    clear H'
    try clear c1
    try clear p2
    obtain ⟨x0_1, x5_1, rfl, rfl, HA, HK1, ⟨m1, rfl⟩⟩ := hrel
    cases gk with
    | zero => exact absurd HA.out (by simp [variorumref02_step.l0])
    | succ k1 =>
      have H := HA.out
      clear HA
      simp only [variorumref02_step.l0] at H
      by_cases c3 : x5_1 < 8
      · rw [if_pos c3] at H
        have c3b0 : decide (x5_1 < 8) = true := decide_eq_true c3
        clear c3
        by_cases c4 : (Int.tmod x0_1 2) = 1
        · rw [if_pos c4] at H
          have c4b0 : ((Int.tmod x0_1 2) == 1) = true := beq_iff_eq.mpr c4
          have c4b1 : ((Int.tmod x0_1 2) != 1) = false := bne_eq_false_iff_eq.mpr c4
          clear c4
          have H' := Aside0.mk H
          clear H
          go_wp2
          go_roundg k1
          case measure => have := HK1.out; omega
          case rel => exact ⟨(Go.bits .xor .u32 ((Int.tdiv x0_1 2) % 4294967296) 2197175160), (wrap64 (x5_1 + 1)), (by first | rfl | (simp; done) | (simp [*]; done)), (by first | rfl | (simp; done) | (simp [*]; done)), H', ⟨by have := HK1.out; omega⟩, by repeat (first | exact Drawn0.refl _ | apply Drawn0.step)⟩
        · rw [if_neg c4] at H
          have c4b0 : ((Int.tmod x0_1 2) == 1) = false := beq_eq_false_iff_ne.mpr c4
          have c4b1 : ((Int.tmod x0_1 2) != 1) = true := bne_iff_ne.mpr c4
          have H' := Aside0.mk H
          clear H
          go_wp2
          go_roundg k1
          case measure => have := HK1.out; omega
          case rel => exact ⟨((Int.tdiv x0_1 2) % 4294967296), (wrap64 (x5_1 + 1)), (by first | rfl | (simp; done) | (simp [*]; done)), (by first | rfl | (simp; done) | (simp [*]; done)), H', ⟨by have := HK1.out; omega⟩, by repeat (first | exact Drawn0.refl _ | apply Drawn0.step)⟩
      · rw [if_neg c3] at H
        have c3b0 : decide (x5_1 < 8) = false := decide_eq_false c3
        clear c3
        obtain rfl := Option.some.inj H
        go_wp2
        go_ret
        exact ⟨by first | rfl | (simp; done) | (simp [*]; done), by repeat (first | exact Drawn0.refl _ | apply Drawn0.step)⟩

end Go.Proofs.Ytedfcjcnhgomoaa.P
end
-- MERGED YtedfcjcnhgomoaaPvariorumref02Sum
section
-- Written by wip/myprint.py of this session, over the kit's print.py: a Lean function for each Go function, and the proof that the code comes to it.
namespace Go.Proofs.Ytedfcjcnhgomoaa.P
open Go.RowKit Go.Proofs.YtedfcjcnhgomoaaW.PrintWords Go.Proofs.YtedfcjcnhgomoaaW.PrintLast Go.Proofs.YtedfcjcnhgomoaaW.PrintMore
attribute [local go_sem] max2_int min2_int max_two min_two max_three min_three max_four min_four   -- for this text's walks alone
set_option linter.unusedVariables false
set_option linter.unusedSimpArgs false

/-! ### variorumref02_Sum: function 84 -/
def variorumref02_Sum.l0 : Nat → List Int → Int → Int → Option (Int)
  | 0, _, _, _ => none
  | k + 1, x0, x3, x4 => if x4 < (x0.length : Int) then (if 0 ≤ x4 then ((variorumref02_step.f k x3 (rd x0 x4)).bind fun t142 => (variorumref02_Sum.l0 k x0 t142 (wrap64 (x4 + 1)))) else (none)) else (some (Go.bits .xor .u32 x3 4294967295))
def variorumref02_Sum.f (k : Nat) (l0 : List Int) : Option (Int) := variorumref02_Sum.l0 k l0 4294967295 0
theorem variorumref02_Sum.mono_l : ∀ k, (∀ y0 y1 y2, LeO (variorumref02_Sum.l0 k y0 y1 y2) (variorumref02_Sum.l0 (k + 1) y0 y1 y2))
  | 0 => fun _ _ _ r h => by simp [variorumref02_Sum.l0] at h
  | k + 1 => by
    have ih0 := variorumref02_Sum.mono_l k
    · intro y0 y1 y2
      unfold variorumref02_Sum.l0
      repeat' first
      | (with_reducible exact ih0 _ _ _)
      | (with_reducible exact variorumref02_step.mono _ _ _)
      | (with_reducible exact LeO.refl _)
      | (with_reducible exact LeO.none _)
      | (with_reducible refine LeO.ite ?_ ?_)
      | (with_reducible refine LeO.bind ?_ (fun _ => ?_))
      | exact ih0 _ _ _
      | exact variorumref02_step.mono _ _ _
      | exact LeO.none _
      | refine LeO.ite ?_ ?_
      | refine LeO.bind ?_ (fun _ => ?_)
theorem variorumref02_Sum.mono : ∀ a0 k, LeO (variorumref02_Sum.f k a0) (variorumref02_Sum.f (k + 1) a0) := by
  intro a0 k
  have ih0 := variorumref02_Sum.mono_l k
  unfold variorumref02_Sum.f
  repeat' first
      | (with_reducible exact ih0 _ _ _)
      | (with_reducible exact variorumref02_step.mono _ _ _)
      | (with_reducible exact LeO.refl _)
      | (with_reducible exact LeO.none _)
      | (with_reducible refine LeO.ite ?_ ?_)
      | (with_reducible refine LeO.bind ?_ (fun _ => ?_))
      | exact ih0 _ _ _
      | exact variorumref02_step.mono _ _ _
      | exact LeO.none _
      | refine LeO.ite ?_ ?_
      | refine LeO.bind ?_ (fun _ => ?_)
set_option maxHeartbeats 8000000 in
set_option maxRecDepth 100000 in
theorem variorumref02_Sum.calls (k : Nat) (A0 : Option Addr) (c0 : Nat) (l0 : List Int) (r : Int) (w : World) (hr0 : Kd.C (Kd.int .u8) w A0 l0.length l0) (hc0 : l0.length ≤ c0) (h : variorumref02_Sum.f k l0 = some r) :
    Calls Try.prog 84 #[.slice A0 l0.length c0] w fun e w' => e = .returned (.int .u32 r) ∧ Drawn0 w w' := by
  have HR0 := Aside0.mk hr0
  have HC0 := Aside0.mk hc0
  clear hr0 hc0
  have H : (variorumref02_Sum.l0 k l0 4294967295 0) = some r := h
  clear h
  have H' := Aside0.mk H
  clear H
  go_enter Try.func84, Try.ntmps84
  go_wp2
  go_loopg [3, 4] k (fun kq v3 v4 w' => ∃ (x3_1 : Int) (x4_1 : Int), v3 = .int .u32 x3_1 ∧ v4 = .int .i64 x4_1 ∧ Aside0 (variorumref02_Sum.l0 kq l0 x3_1 x4_1 = some r) ∧ Aside0 (kq ≤ k) ∧ Drawn0 w w')
  case atStart => exact ⟨(4294967295), (0), (by first | rfl | (simp; done) | (simp [*]; done)), (by first | rfl | (simp; done) | (simp [*]; done)), H', ⟨Nat.le_refl _⟩, by repeat (first | exact Drawn0.refl _ | apply Drawn0.step)⟩
  case round =>
    clear H'
    obtain ⟨x3_1, x4_1, rfl, rfl, HA, HK1, ⟨m1, rfl⟩⟩ := hrel
    cases gk with
    | zero => exact absurd HA.out (by simp [variorumref02_Sum.l0])
    | succ k1 =>
      have H := HA.out
      clear HA
      simp only [variorumref02_Sum.l0] at H
      by_cases c2 : x4_1 < (l0.length : Int)
      · rw [if_pos c2] at H
        have c2b0 : decide (x4_1 < (l0.length : Int)) = true := decide_eq_true c2
        clear c2
        by_cases c3 : 0 ≤ x4_1
        · rw [if_pos c3] at H
          have c3b0 : decide (0 ≤ x4_1) = true := decide_eq_true c3
          clear c3
          replace H := Option.bind_eq_some_iff.mp H
          obtain ⟨t142, A40, H⟩ := H
          replace H : (variorumref02_Sum.l0 k1 l0 t142 (wrap64 (x4_1 + 1))) = some r := H
          have A4 := Aside0.mk A40
          clear A40
          have H' := Aside0.mk H
          clear H
          have p141 : 0 ≤ (x4_1 : Int) := of_decide_eq_true (by first | (with_reducible assumption) | assumption)
          have q141 : x4_1 < (l0.length : Int) := of_decide_eq_true (by first | (with_reducible assumption) | assumption)
          obtain ⟨ad141, e141, hx141_0⟩ := Kd.at_int HR0.out x4_1 p141 q141
          cases e141
          replace p141 := eq_true p141
          replace q141 := eq_true q141
          go_wp2_with (first | ((with_reducible refine gate_callee (f := 107) rfl ?_); refine goesL_ (some 16) rfl rfl Try.func107 (by kernel_rfl) rfl #[.int .u32 x3_1, .int .u8 (rd l0 x4_1)] rfl (by (try simp only [List.map_toArray, List.map_cons, List.map_nil]); first | done | rfl | (simp only [List.length_drop, List.length_take]; rfl)) ?_; (with_reducible refine (variorumref02_step.calls k1 x3_1 (rd l0 x4_1) t142 _ A4.out).mono ?_); rintro e w' ⟨rfl, ⟨nd, rfl⟩⟩; refine ⟨_, rfl, ?_⟩))
          go_roundg k1
          case measure => have := HK1.out; omega
          case rel => exact ⟨(t142), (wrap64 (x4_1 + 1)), (by first | rfl | (simp; done) | (simp [*]; done)), (by first | rfl | (simp; done) | (simp [*]; done)), H', ⟨by have := HK1.out; omega⟩, by repeat (first | exact Drawn0.refl _ | apply Drawn0.step)⟩
        · rw [if_neg c3] at H
          exact absurd H (by simp)
      · rw [if_neg c2] at H
        have c2b0 : decide (x4_1 < (l0.length : Int)) = false := decide_eq_false c2
        clear c2
        obtain rfl := Option.some.inj H
        go_wp2
        go_ret
        exact ⟨by first | rfl | (simp; done) | (simp [*]; done), by repeat (first | exact Drawn0.refl _ | apply Drawn0.step)⟩

end Go.Proofs.Ytedfcjcnhgomoaa.P
end
-- MERGED YtedfcjcnhgomoaaPvariorumref02Seal
section
-- Written by wip/myprint.py of this session, over the kit's print.py: a Lean function for each Go function, and the proof that the code comes to it.
namespace Go.Proofs.Ytedfcjcnhgomoaa.P
open Go.RowKit Go.Proofs.YtedfcjcnhgomoaaW.PrintWords Go.Proofs.YtedfcjcnhgomoaaW.PrintLast Go.Proofs.YtedfcjcnhgomoaaW.PrintMore
attribute [local go_sem] max2_int min2_int max_two min_two max_three min_three max_four min_four   -- for this text's walks alone
set_option linter.unusedVariables false
set_option linter.unusedSimpArgs false

/-! ### variorumref02_Seal: function 42 -/
def variorumref02_Seal.l0 : Nat → Int → List Int → Int → Option (List Int)
  | 0, _, _, _ => none
  | k + 1, x3, x4, x5 => if x5 < 4 then (if x4.length < 140737488355328 then (variorumref02_Seal.l0 k ((Int.tdiv x3 256) % 4294967296) (x4 ++ [(Int.tmod x3 256) % 256]) (wrap64 (x5 + 1))) else (none)) else (some x4)
def variorumref02_Seal.f (k : Nat) (l0 : List Int) : Option (List Int) := (variorumref02_Sum.f k l0).bind fun t143 => ((some (([] : List Int) : List Int)).bind fun y144 => (if y144.length + l0.length < 140737488355328 then (variorumref02_Seal.l0 k t143 (y144 ++ l0) 0) else (none)))
theorem variorumref02_Seal.mono_l : ∀ k, (∀ y0 y1 y2, LeO (variorumref02_Seal.l0 k y0 y1 y2) (variorumref02_Seal.l0 (k + 1) y0 y1 y2))
  | 0 => fun _ _ _ r h => by simp [variorumref02_Seal.l0] at h
  | k + 1 => by
    have ih0 := variorumref02_Seal.mono_l k
    · intro y0 y1 y2
      unfold variorumref02_Seal.l0
      repeat' first
      | (with_reducible exact ih0 _ _ _)
      | (with_reducible exact variorumref02_Sum.mono _ _)
      | (with_reducible exact LeO.refl _)
      | (with_reducible exact LeO.none _)
      | (with_reducible refine LeO.ite ?_ ?_)
      | (with_reducible refine LeO.bind ?_ (fun _ => ?_))
      | exact ih0 _ _ _
      | exact variorumref02_Sum.mono _ _
      | exact LeO.none _
      | refine LeO.ite ?_ ?_
      | refine LeO.bind ?_ (fun _ => ?_)
theorem variorumref02_Seal.mono : ∀ a0 k, LeO (variorumref02_Seal.f k a0) (variorumref02_Seal.f (k + 1) a0) := by
  intro a0 k
  have ih0 := variorumref02_Seal.mono_l k
  unfold variorumref02_Seal.f
  repeat' first
      | (with_reducible exact ih0 _ _ _)
      | (with_reducible exact variorumref02_Sum.mono _ _)
      | (with_reducible exact LeO.refl _)
      | (with_reducible exact LeO.none _)
      | (with_reducible refine LeO.ite ?_ ?_)
      | (with_reducible refine LeO.bind ?_ (fun _ => ?_))
      | exact ih0 _ _ _
      | exact variorumref02_Sum.mono _ _
      | exact LeO.none _
      | refine LeO.ite ?_ ?_
      | refine LeO.bind ?_ (fun _ => ?_)
set_option maxHeartbeats 8000000 in
set_option maxRecDepth 100000 in
theorem variorumref02_Seal.calls (k : Nat) (A0 : Option Addr) (c0 : Nat) (l0 : List Int) (r : List Int) (w : World) (hr0 : Kd.C (Kd.int .u8) w A0 l0.length l0) (hc0 : l0.length ≤ c0) (h : variorumref02_Seal.f k l0 = some r) :
    Calls Try.prog 42 #[.slice A0 l0.length c0] w fun e w' => ∃ v0_ : Value, e = .returned (v0_) ∧ Kd.R (Kd.int .u8) 5 w' w.heap.size (fun _ => True) v0_ r ∧ Below w.heap.size w w' := by
  have HR0 := Aside0.mk hr0
  have HC0 := Aside0.mk hc0
  clear hr0 hc0
  have HB := Aside0.mk (Below.refl w.heap.size w)
  have H : ((variorumref02_Sum.f k l0).bind fun t143 => ((some (([] : List Int) : List Int)).bind fun y144 => (if y144.length + l0.length < 140737488355328 then (variorumref02_Seal.l0 k t143 (y144 ++ l0) 0) else (none)))) = some r := h
  clear h
  replace H := Option.bind_eq_some_iff.mp H
  obtain ⟨t143, A20, H⟩ := H
  replace H : ((some (([] : List Int) : List Int)).bind fun y144 => (if y144.length + l0.length < 140737488355328 then (variorumref02_Seal.l0 k t143 (y144 ++ l0) 0) else (none))) = some r := H
  have A2 := Aside0.mk A20
  clear A20
  obtain ⟨y144, hy144⟩ : ∃ y_ : List Int, y_ = (([] : List Int)) := ⟨_, rfl⟩
  replace H : (if y144.length + l0.length < 140737488355328 then (variorumref02_Seal.l0 k t143 (y144 ++ l0) 0) else (none)) = some r := by first | (rw [hy144]; with_reducible exact H) | (have H2_ := (Option.bind_some _ _).symm.trans H; rw [hy144]; with_reducible exact H2_) | (have H2_ := (Option.bind_some _ _).symm.trans H; with_reducible exact H2_) | with_reducible exact H | (rw [hy144]; exact H) | exact H
  have Ny144 := Aside0.mk hy144
  clear hy144
  by_cases c3 : y144.length + l0.length < 140737488355328
  · rw [if_pos c3] at H
    have LMc3 := Aside0.mk c3
    clear c3
    obtain ⟨y147, hy147⟩ : ∃ y_ : List Int, y_ = (y144 ++ l0) := ⟨_, rfl⟩
    replace H : (variorumref02_Seal.l0 k t143 y147 0) = some r := by first | (rw [hy147]; with_reducible exact H) | (have H2_ := (Option.bind_some _ _).symm.trans H; rw [hy147]; with_reducible exact H2_) | (have H2_ := (Option.bind_some _ _).symm.trans H; with_reducible exact H2_) | with_reducible exact H | (rw [hy147]; exact H) | exact H
    have Ny147 := Aside0.mk hy147
    clear hy147
    have H' := Aside0.mk H
    clear H
    go_enter Try.func42, Try.ntmps42
    go_wp2_with (first | ((with_reducible refine gate_callee (f := 84) rfl ?_); refine goesL_ (some 7) rfl rfl Try.func84 (by kernel_rfl) rfl #[.slice A0 l0.length c0] rfl (by (try simp only [List.map_toArray, List.map_cons, List.map_nil]); first | done | rfl | (simp only [List.length_drop, List.length_take]; rfl)) ?_; (with_reducible refine (variorumref02_Sum.calls k _ _ l0 t143 _ ?side1 ?side2 A2.out).mono ?_); (case side1 => repeat (first | exact HR0.out | (with_reducible refine Kd.C_alloc ?_ _) | (with_reducible refine Kd.C_drewN ?_ _) | (with_reducible refine Kd.C_drew ?_))); (case side2 => exact HC0.out); rintro e w' ⟨rfl, ⟨nd, rfl⟩⟩; refine ⟨_, rfl, ?_⟩) | ((with_reducible refine gate_dst (N := 8) rfl ?_); refine Kd.R_lit (Kd.int .u8) _ 5 ?hg (N := 8) ?hd (xs := ([] : List Int)) (inner := []) (ok := fun _ => True) (okp := fun _ => True) ?hr ?hp (fun _ hk => hk) trivial (Below.refl _ _) (Nat.le_refl _) (by simp) ?_; (case hd => rfl); (case hg => rfl); (case hr => first | (go_simp; done) | (go_simp; rfl)); (case hp => exact (Reps.none _ _)); intro v145 w4 ho5 hb hg_ hnew_; clear hg_ hnew_; (first | rw [← Ny144.out] at ho5 | (simp only [Int.reduceToNat] at ho5; rw [← Ny144.out] at ho5)); have n0_ := Aside0.mk (Kd.R_lower ho5 (below_size (by repeat (first | (with_reducible first | exact HB.out | apply below_alloc | apply pw_below_drewN | apply below_drew1) | exact HB.out)))); have n1_ := Aside0.mk (below_step (by repeat (first | (with_reducible first | exact HB.out | apply below_alloc | apply pw_below_drewN | apply below_drew1) | exact HB.out)) hb); clear HB; have HO146 := n0_; have HB := n1_; clear n0_ n1_; clear hb ho5) | ((with_reducible refine gate_builtin (b := .append) (xs := #[.tmp 8, .tmp 9]) rfl ?_); at_builtin; refine Kd.R_append_rows (Kd.int .u8) (w0 := w) w.heap.size rfl (.tmp 8) (.tmp 9) 25 5 (.int .u8 0) 1 rfl Try.underlying25 info5 rfl (by decide) (by omega) v145 y144 l0 _ _ _ (fun _ => True) (fun _ => False) rfl rfl ?aO ?aR (fun _ _ h => h) (fun _ h => h.elim) ?aF ?aB ?aS ?aL ?_; (case aR => repeat (first | exact (Kd.C_below HR0.out HB.out) | (with_reducible refine Kd.C_alloc ?_ _) | (with_reducible refine Kd.C_drewN ?_ _) | (with_reducible refine Kd.C_drew ?_))); (case aB => exact (by repeat (first | (with_reducible first | exact HB.out | apply below_alloc | apply pw_below_drewN | apply below_drew1) | exact HB.out))); (case aF => exact (fun _ _ => trivial)); (case aO => exact (by (with_reducible repeat (first | apply Kd.R_alloc | apply Kd.R_drewN | apply Kd.R_drew)); exact HO146.out)); (case aS => exact (below_size (by repeat (first | (with_reducible first | exact HB.out | apply below_alloc | apply pw_below_drewN | apply below_drew1) | exact HB.out)))); (case aL => have := LMc3.out; omega); intro v148 w6 ho hb hg hat; rw [← Ny147.out] at ho; have n0_ := Aside0.mk (hb); have n1_ := Aside0.mk (ho); clear HB; clear HO146; have HB := n0_; have HO149 := n1_; clear n0_ n1_; clear ho hb hg hat))
    go_loopg [3, 4, 5] k (fun kq v3 v4 v5 w' => ∃ (x3_1 : Int) (x4_1 : List Int) (x5_1 : Int), v3 = .int .u32 x3_1 ∧ v5 = .int .i64 x5_1 ∧ Aside0 (variorumref02_Seal.l0 kq x3_1 x4_1 x5_1 = some r) ∧ Aside0 (kq ≤ k) ∧ Aside0 (Kd.R (Kd.int .u8) 5 w' w.heap.size (fun _ => True) v4 x4_1) ∧ Aside0 (Below w.heap.size w w'))
    case atStart => exact ⟨(t143), (y147), (0), (by first | rfl | (simp; done) | (simp [*]; done)), (by first | rfl | (simp; done) | (simp [*]; done)), H', ⟨Nat.le_refl _⟩, ⟨by (with_reducible repeat (first | apply Kd.R_alloc | apply Kd.R_drewN | apply Kd.R_drew)); exact HO149.out⟩, ⟨by repeat (first | (with_reducible first | exact HB.out | apply below_alloc | apply pw_below_drewN | apply below_drew1) | exact HB.out)⟩⟩
    case round =>
      clear H'
      try clear p2
      try clear c3
      try clear c4
      obtain ⟨x3_1, x4_1, x5_1, rfl, rfl, HA, HK1, HO_4, HB⟩ := hrel
      cases gk with
      | zero => exact absurd HA.out (by simp [variorumref02_Seal.l0])
      | succ k1 =>
        have H := HA.out
        clear HA
        simp only [variorumref02_Seal.l0] at H
        by_cases c7 : x5_1 < 4
        · rw [if_pos c7] at H
          have c7b0 : decide (x5_1 < 4) = true := decide_eq_true c7
          clear c7
          by_cases c8 : x4_1.length < 140737488355328
          · rw [if_pos c8] at H
            have LMc8 := Aside0.mk c8
            clear c8
            obtain ⟨y150, hy150⟩ : ∃ y_ : List Int, y_ = (x4_1 ++ [(Int.tmod x3_1 256) % 256]) := ⟨_, rfl⟩
            replace H : (variorumref02_Seal.l0 k1 ((Int.tdiv x3_1 256) % 4294967296) y150 (wrap64 (x5_1 + 1))) = some r := by first | (rw [hy150]; with_reducible exact H) | (have H2_ := (Option.bind_some _ _).symm.trans H; rw [hy150]; with_reducible exact H2_) | (have H2_ := (Option.bind_some _ _).symm.trans H; with_reducible exact H2_) | with_reducible exact H | (rw [hy150]; exact H) | exact H
            have Ny150 := Aside0.mk hy150
            clear hy150
            have H' := Aside0.mk H
            clear H
            go_wp2_with (first | ((with_reducible refine gate_builtin (b := .append) (xs := #[.tmp 15, .tmp 19]) rfl ?_); at_builtin; refine Kd.R_append (Kd.int .u8) (w0 := w) w.heap.size rfl (.tmp 15) (.tmp 19) 25 5 (.int .u8 0) 1 rfl Try.underlying25 info5 rfl (by decide) (by omega) u4 x4_1 ((Int.tmod x3_1 256) % 256) [.int .u8 ((Int.tmod x3_1 256) % 256)] (fun _ => True) (fun _ => False) rfl rfl ?aP (fun _ hk => hk.elim) ?aF ?aO ?aB ?aS ?aL ?_; (case aP => exact rfl); (case aB => exact (by repeat (first | (with_reducible first | exact HB.out | apply below_alloc | apply pw_below_drewN | apply below_drew1) | exact HB.out))); (case aF => exact (fun _ _ => trivial)); (case aO => exact (by (with_reducible repeat (first | apply Kd.R_alloc | apply Kd.R_drewN | apply Kd.R_drew)); exact HO_4.out)); (case aS => exact (below_size (by repeat (first | (with_reducible first | exact HB.out | apply below_alloc | apply pw_below_drewN | apply below_drew1) | exact HB.out)))); (case aL => have := LMc8.out; omega); intro v151 w9 ho hb hg hat; rw [← Ny150.out] at ho; have n0_ := Aside0.mk (hb); have n1_ := Aside0.mk (ho); clear HB; clear HO_4; have HB := n0_; have HO152 := n1_; clear n0_ n1_; clear ho hb hg hat))
            go_roundg k1
            case measure => have := HK1.out; omega
            case rel => exact ⟨((Int.tdiv x3_1 256) % 4294967296), (y150), (wrap64 (x5_1 + 1)), (by first | rfl | (simp; done) | (simp [*]; done)), (by first | rfl | (simp; done) | (simp [*]; done)), H', ⟨by have := HK1.out; omega⟩, ⟨by (with_reducible repeat (first | apply Kd.R_alloc | apply Kd.R_drewN | apply Kd.R_drew)); exact HO152.out⟩, ⟨by repeat (first | (with_reducible first | exact HB.out | apply below_alloc | apply pw_below_drewN | apply below_drew1) | exact HB.out)⟩⟩
          · rw [if_neg c8] at H
            exact absurd H (by simp)
        · rw [if_neg c7] at H
          have c7b0 : decide (x5_1 < 4) = false := decide_eq_false c7
          clear c7
          obtain rfl := Option.some.inj H
          go_wp2
          go_ret
          exact ⟨_, by first | rfl | (simp [errW_none, errW_some] <;> rfl) | (simp [*, errW_none, errW_some] <;> rfl), by (with_reducible repeat (first | apply Kd.R_alloc | apply Kd.R_drewN | apply Kd.R_drew)); exact HO_4.out, by repeat (first | (with_reducible first | exact HB.out | apply below_alloc | apply pw_below_drewN | apply below_drew1) | exact HB.out)⟩
  · rw [if_neg c3] at H
    exact absurd H (by simp)

end Go.Proofs.Ytedfcjcnhgomoaa.P
end
-- MERGED YtedfcjcnhgomoaaRefSum
section
/- What the reference's functions of the check sum come to: the same plain sum. -/
namespace Go.Proofs.Ytedfcjcnhgomoaa.RefSum
open Go.RowKit Go.Proofs.Ytedfcjcnhgomoaa.P Go.Proofs.YtedfcjcnhgomoaaW.PrintWords Go.Proofs.YtedfcjcnhgomoaaW.PrintLast Go.Proofs.Ytedfcjcnhgomoaa.Crc

theorem w1 (j : Nat) (h : j ≤ 140737488355328) : wrap64 ((j : Int) + 1) = ((j + 1 : Nat) : Int) := by unfold wrap64; omega
theorem step_eq (K : Nat) (x j : Int) : variorumref02_step.l0 (K + 1) x j = if j < 8 then (if (Int.tmod x 2) = 1 then (variorumref02_step.l0 K (Go.bits .xor .u32 ((Int.tdiv x 2) % 4294967296) 2197175160) (wrap64 (j + 1))) else (variorumref02_step.l0 K ((Int.tdiv x 2) % 4294967296) (wrap64 (j + 1)))) else (some x) := by
  rw [variorumref02_step.l0]
theorem half2 (u : BitVec 32) : (Int.tdiv (u.toNat : Int) 2) % (4294967296 : Int) = ((u >>> 1).toNat : Int) := by
  rw [Int.tdiv_eq_ediv_of_nonneg (by omega), half]
  have := (u >>> 1).isLt
  omega
theorem odd (u : BitVec 32) : (Int.tmod (u.toNat : Int) 2 = 1) ↔ u.getLsbD 0 = true := by
  rw [Int.tmod_eq_emod_of_nonneg (by omega)]
  simp [BitVec.getLsbD, Nat.testBit_zero]
  omega
theorem step_run : ∀ (m j : Nat) (x : BitVec 32) (k : Nat), j + m = 8 → variorumref02_step.l0 (k + m + 1) (x.toNat : Int) (j : Int) = some ((dns m x).toNat : Int) := by
  intro m
  induction m with
  | zero =>
    intro j x k h
    have hj : ¬ (j : Int) < 8 := by omega
    rw [step_eq, if_neg hj]; rfl
  | succ m ih =>
    intro j x k h
    have hj : (j : Int) < 8 := by omega
    have h1 := ih (j + 1) (dn x) k (by omega)
    have e : k + (m + 1) + 1 = (k + m + 1) + 1 := by omega
    rw [e, step_eq, if_pos hj, half2, w1 j (by omega)]
    cases hb : x.getLsbD 0 with
    | true =>
      rw [if_pos ((odd x).2 hb), show (2197175160 : Int) = ((0x82F63B78#32).toNat : Int) from rfl, bits_xor]
      have hd : dn x = x >>> 1 ^^^ 0x82F63B78#32 := by unfold dn; rw [hb]; rfl
      rw [← hd]
      exact h1
    | false =>
      rw [if_neg (fun hc => by rw [(odd x).1 hc] at hb; cases hb)]
      rw [← dn_even x hb]
      exact h1
theorem step_f (x : BitVec 32) (c : Int) (k : Nat) (hk : 9 ≤ k) : variorumref02_step.f k (x.toNat : Int) c = some ((Crc.step x c).toNat : Int) := by
  unfold variorumref02_step.f
  rw [ofInt_mod, bits_xor]
  have h := step_run 8 0 (x ^^^ BitVec.ofInt 32 c) (k - 9) (by omega)
  have e : k - 9 + 8 + 1 = k := by omega
  rw [e] at h
  exact h
theorem sum_eq (K : Nat) (L : List Int) (x i : Int) : variorumref02_Sum.l0 (K + 1) L x i = if i < (L.length : Int) then (if 0 ≤ i then ((variorumref02_step.f K x (rd L i)).bind fun t120 => (variorumref02_Sum.l0 K L t120 (wrap64 (i + 1)))) else (none)) else (some (Go.bits .xor .u32 x 4294967295)) := by
  rw [variorumref02_Sum.l0]
theorem sum_run (L : List Int) (hL : L.length ≤ 140737488355328) : ∀ (d i k : Nat) (x : BitVec 32), i + d = L.length → variorumref02_Sum.l0 (k + 9 + d + 1) L (x.toNat : Int) (i : Int) = some ((run x (L.drop i) ^^^ ones).toNat : Int) := by
  intro d
  induction d with
  | zero =>
    intro i k x h
    have hi : ¬ (i : Int) < (L.length : Int) := by omega
    rw [sum_eq, if_neg hi, List.drop_of_length_le (by omega), run_nil, show (4294967295 : Int) = (ones.toNat : Int) from rfl, bits_xor]
  | succ d ih =>
    intro i k x h
    have hi : (i : Int) < (L.length : Int) := by omega
    have h0 : (0 : Int) ≤ (i : Int) := by omega
    have e : k + 9 + (d + 1) + 1 = (k + 9 + d + 1) + 1 := by omega
    have h1 := ih (i + 1) k (Crc.step x L[i]) (by omega)
    have hr : rd L (i : Int) = L[i] := by unfold rd; exact Byt.rd_at L i (by omega)
    rw [e, sum_eq, if_pos hi, if_pos h0, hr, step_f _ _ _ (by omega), Option.bind_some, w1 i (by omega), h1, ← run_cons, List.getElem_cons_drop]
theorem sum_f (L : List Int) (hL : L.length ≤ 140737488355328) (k : Nat) (hk : L.length + 10 ≤ k) : variorumref02_Sum.f k L = some ((sum L).toNat : Int) := by
  unfold variorumref02_Sum.f
  have h := sum_run L hL L.length 0 (k - (L.length + 10)) ones (by omega)
  have e : k - (L.length + 10) + 9 + L.length + 1 = k := by omega
  rw [e, List.drop_zero] at h
  exact h
theorem seal_eq (K : Nat) (x : Int) (l : List Int) (i : Int) : variorumref02_Seal.l0 (K + 1) x l i = if i < 4 then (if l.length < 140737488355328 then (variorumref02_Seal.l0 K ((Int.tdiv x 256) % 4294967296) (l ++ [(Int.tmod x 256) % 256]) (wrap64 (i + 1))) else (none)) else (some l) := by
  rw [variorumref02_Seal.l0]
theorem seal_run (y : BitVec 32) (l : List Int) (hl : l.length + 4 < 140737488355328) (k : Nat) : variorumref02_Seal.l0 (k + 4 + 1) (y.toNat : Int) l 0 = some (l ++ le4 y) := by
  have hy := y.isLt
  have e0 : Int.tmod (y.toNat : Int) 256 % 256 = (y.toNat : Int) % 256 := by rw [Int.tmod_eq_emod_of_nonneg (by omega)]; omega
  have d0 : Int.tdiv (y.toNat : Int) 256 % 4294967296 = (y.toNat : Int) / 256 := by rw [Int.tdiv_eq_ediv_of_nonneg (by omega)]; omega
  have e1 : Int.tmod ((y.toNat : Int) / 256) 256 % 256 = (y.toNat : Int) / 256 % 256 := by rw [Int.tmod_eq_emod_of_nonneg (by omega)]; omega
  have d1 : Int.tdiv ((y.toNat : Int) / 256) 256 % 4294967296 = (y.toNat : Int) / 65536 := by rw [Int.tdiv_eq_ediv_of_nonneg (by omega)]; omega
  have e2 : Int.tmod ((y.toNat : Int) / 65536) 256 % 256 = (y.toNat : Int) / 65536 % 256 := by rw [Int.tmod_eq_emod_of_nonneg (by omega)]; omega
  have d2 : Int.tdiv ((y.toNat : Int) / 65536) 256 % 4294967296 = (y.toNat : Int) / 16777216 := by rw [Int.tdiv_eq_ediv_of_nonneg (by omega)]; omega
  have e3 : Int.tmod ((y.toNat : Int) / 16777216) 256 % 256 = (y.toNat : Int) / 16777216 := by rw [Int.tmod_eq_emod_of_nonneg (by omega)]; omega
  have a0 : wrap64 (0 + 1) = 1 := by rw [Byt.wrap_in _ (by decide)]; rfl
  have a1 : wrap64 (1 + 1) = 2 := by rw [Byt.wrap_in _ (by decide)]; rfl
  have a2 : wrap64 (2 + 1) = 3 := by rw [Byt.wrap_in _ (by decide)]; rfl
  have a3 : wrap64 (3 + 1) = 4 := by rw [Byt.wrap_in _ (by decide)]; rfl
  rw [show k + 4 + 1 = (((k + 1) + 1 + 1) + 1) + 1 from rfl]
  rw [seal_eq, if_pos (by decide), if_pos (by omega), e0, d0, a0, seal_eq, if_pos (by decide), if_pos (by simp; omega), e1, d1, a1, seal_eq, if_pos (by decide), if_pos (by simp; omega), e2, d2, a2, seal_eq, if_pos (by decide), if_pos (by simp; omega), e3, a3, seal_eq, if_neg (by decide)]
  simp [le4]
theorem seal_f (L : List Int) (hL : L.length + 4 < 140737488355328) (k : Nat) (hk : L.length + 10 ≤ k) : variorumref02_Seal.f k L = some (L ++ le4 (sum L)) := by
  unfold variorumref02_Seal.f
  rw [sum_f L (by omega) k hk, Option.bind_some, Option.bind_some, if_pos (by simp; omega)]
  have h := seal_run (sum L) L hL (k - 5)
  have e : k - 5 + 4 + 1 = k := by omega
  rw [e] at h
  exact h
theorem seal_some (L : List Int) (hL : L.length + 4 < 140737488355328) : ∃ k, variorumref02_Seal.f k L = some (L ++ le4 (sum L)) := ⟨_, seal_f L hL _ (Nat.le_refl _)⟩
theorem sum_some (L : List Int) (hL : L.length ≤ 140737488355328) : ∃ k, variorumref02_Sum.f k L = some ((sum L).toNat : Int) := ⟨_, sum_f L hL _ (Nat.le_refl _)⟩

end Go.Proofs.Ytedfcjcnhgomoaa.RefSum
end
-- MERGED YtedfcjcnhgomoaaPvariorumref02Open
section
-- Written by wip/myprint.py of this session, over the kit's print.py: a Lean function for each Go function, and the proof that the code comes to it.
namespace Go.Proofs.Ytedfcjcnhgomoaa.P
open Go.RowKit Go.Proofs.YtedfcjcnhgomoaaW.PrintWords Go.Proofs.YtedfcjcnhgomoaaW.PrintLast Go.Proofs.YtedfcjcnhgomoaaW.PrintMore
attribute [local go_sem] max2_int min2_int max_two min_two max_three min_three max_four min_four   -- for this text's walks alone
set_option linter.unusedVariables false
set_option linter.unusedSimpArgs false

/-! ### variorumref02_Open: function 54 -/
-- NEEDS Derived.Test.YtedfcjcnhgomoaaOwn
-- NEEDS Derived.Test.YtedfcjcnhgomoaaCrc
-- NEEDS Derived.Test.YtedfcjcnhgomoaaRefSum
-- NEEDS Derived.Deep.RegionWith
def variorumref02_Open.f (l0 : List Int) : Option (List Int × Bool) := if l0.length ≤ 140737488355000 then (if 4 ≤ l0.length ∧ (strOfNums (l0.take (l0.length - 4) ++ Crc.le4 (Crc.sum (l0.take (l0.length - 4))))).toList = (strOfNums l0).toList then some (l0.take (l0.length - 4), true) else some ([], false)) else none
set_option maxHeartbeats 1000000 in
set_option maxRecDepth 100000 in
theorem variorumref02_Open.short (A0 : Option Addr) (c0 : Nat) (l0 : List Int) (w : World) (h4 : l0.length < 4) :
    Calls Try.prog 54 #[.slice A0 l0.length c0] w fun e w' => e = .returned (.tuple #[.slice none 0 0, .bool false]) ∧ Drawn0 w w' := by
  have g1 : (l0.length : Int) - 4 < 0 := by omega
  go_enter Try.func54, Try.ntmps54
  go_wp2_with fail
  go_quiet (fail)
  go_wp2_with fail
  go_ret2
  exact ⟨rfl, ⟨_, rfl⟩⟩
set_option maxHeartbeats 8000000 in
set_option maxRecDepth 100000 in
theorem variorumref02_Open.calls (P0_ : Nat → Prop) (A0 : Option Addr) (c0 : Nat) (l0 : List Int) (r1 : List Int) (r2 : Bool) (w : World) (hs0 : Kd.V (Kd.int .u8) 5 w w.heap.size (fun k_ => P0_ k_) (.slice A0 l0.length c0) l0) (h : variorumref02_Open.f l0 = some (r1, r2)) :
    Calls Try.prog 54 #[.slice A0 l0.length c0] w fun e w' => ∃ v0_ : Value, e = .returned (.tuple #[v0_, .bool r2]) ∧ Kd.V (Kd.int .u8) 5 w' w.heap.size (fun k_ => (P0_ k_ ∨ w.heap.size ≤ k_)) v0_ r1 ∧ Below w.heap.size w w' := by
  unfold variorumref02_Open.f at h
  by_cases hlen : l0.length ≤ 140737488355000
  · rw [if_pos hlen] at h
    have hcap : l0.length ≤ c0 := (Kd.V_reads' hs0).2.1
    have HS := Aside0.mk hs0
    by_cases h4 : 4 ≤ l0.length
    · have g1 : decide ((l0.length : Int) - 4 < 0) = false := by simp; omega
      have g2 : (0 : Int) ≤ (l0.length : Int) - 4 := by omega
      have g3 : (l0.length : Int) - 4 ≤ (l0.length : Int) := by omega
      obtain ⟨i0, hi0, _, hsz, _⟩ := info_parts info5
      have hcut := cut_to (P := Try.prog) 25 5 .i64 Try.underlying25 hi0 A0 l0.length c0 ((l0.length : Int) - 4) g2 g3 hcap
      have htn : ((l0.length : Int) - 4).toNat = l0.length - 4 := by omega
      rw [htn] at hcut
      have htl : (l0.take (l0.length - 4)).length = l0.length - 4 := by rw [List.length_take]; omega
      obtain ⟨p, hp⟩ : ∃ p, p = l0.take (l0.length - 4) := ⟨_, rfl⟩
      rw [← hp] at htl h
      have hCp : ∀ W, Kd.C (Kd.int .u8) W A0 l0.length l0 → Kd.C (Kd.int .u8) W A0 p.length p := fun W hW => by rw [htl, hp]; exact Own.C_take hW _ (by omega)
      rw [← htl] at hcut
      have HP := Aside0.mk hp
      have HT := Aside0.mk htl
      clear hp htl htn hi0 hsz
      have hcv : ∀ W, Below w.heap.size w W → (convert 25 9 (.slice A0 l0.length c0)).run Try.prog W = .ok (.string (strOfNums l0)) W := fun W hW =>
        Kd.C_string Try.underlying25 Try.underlying5 Try.underlying9 (Kd.C_below (Kd.V_reads' HS.out).2.2 hW)
      have hb0 := Below.refl w.heap.size w
      have hbd : Below w.heap.size w w.drew := below_drew1 hb0
      obtain ⟨k1, hs⟩ := RefSum.seal_some p (by have := HT.out; omega)
      have A1 := Aside0.mk hs
      clear hs
      have hF : ∀ W, Below w.heap.size w W → Kd.V (Kd.int .u8) 5 W w.heap.size (fun k_ => (P0_ k_ ∨ w.heap.size ≤ k_)) (.slice A0 p.length c0) p := fun W hW => by
        refine Kd.V_mk (by have := HT.out; omega) ?_
        have h1 := Kd.F_take (m := l0.length - 4) (Kd.V_at HS.out).2.2 (by omega)
        rw [← HP.out] at h1
        exact Kd.F_mono (Kd.F_below h1 hW) (fun _ h => .inl h)
      by_cases he : (strOfNums (p ++ Crc.le4 (Crc.sum p))).toList = (strOfNums l0).toList
      · rw [if_pos ⟨h4, he⟩] at h
        simp only [Option.some.injEq, Prod.mk.injEq] at h
        obtain ⟨rfl, rfl⟩ := h
        have hq : ((strOfNums (p ++ Crc.le4 (Crc.sum p))).toList == (strOfNums l0).toList) = true := beq_iff_eq.mpr he
        clear he
        go_enter Try.func54, Try.ntmps54
        go_wp2_with fail
        go_region_with (go_at_call 42; refine (variorumref02_Seal.calls k1 A0 c0 p _ _ ?_ ?_ A1.out).mono ?_; exact hCp _ (Kd.C_below (Kd.V_reads' HS.out).2.2 hbd); (have := HT.out; omega); rintro e w' ⟨v, rfl, ho, hb⟩; have hb1 : Below w.heap.size w w' := below_step hbd hb; have hcv1 := own_string (P := Try.prog) Try.underlying25 Try.underlying5 Try.underlying9 (Kd.own_of_R ho))
        all_goals (go_wp2_with fail; go_ret2; exact ⟨_, rfl, hF _ (by assumption), by assumption⟩)
      · rw [if_neg (fun h => he h.2)] at h
        simp only [Option.some.injEq, Prod.mk.injEq] at h
        obtain ⟨rfl, rfl⟩ := h
        have hq : ((strOfNums (p ++ Crc.le4 (Crc.sum p))).toList == (strOfNums l0).toList) = false := beq_eq_false_iff_ne.mpr he
        clear he
        go_enter Try.func54, Try.ntmps54
        go_wp2_with fail
        go_region_with (go_at_call 42; refine (variorumref02_Seal.calls k1 A0 c0 p _ _ ?_ ?_ A1.out).mono ?_; exact hCp _ (Kd.C_below (Kd.V_reads' HS.out).2.2 hbd); (have := HT.out; omega); rintro e w' ⟨v, rfl, ho, hb⟩; have hb1 : Below w.heap.size w w' := below_step hbd hb; have hcv1 := own_string (P := Try.prog) Try.underlying25 Try.underlying5 Try.underlying9 (Kd.own_of_R ho))
        all_goals (go_wp2_with fail; go_ret2; exact ⟨_, rfl, Kd.V_nil _ _ _ _ _, by assumption⟩)
    · rw [if_neg (fun h => h4 h.1)] at h
      simp only [Option.some.injEq, Prod.mk.injEq] at h
      obtain ⟨rfl, rfl⟩ := h
      refine (variorumref02_Open.short A0 c0 l0 w (by omega)).mono ?_
      rintro e w' ⟨rfl, hd⟩
      exact ⟨_, rfl, Kd.V_nil _ _ _ _ _, hd.below⟩
  · rw [if_neg hlen] at h; cases h

end Go.Proofs.Ytedfcjcnhgomoaa.P
end
-- MERGED YtedfcjcnhgomoaaNice2
section
/- The contracts of the check sum's functions, over slices that are read. -/
namespace Go.Proofs.Ytedfcjcnhgomoaa.Nice
open Go.RowKit Go.Proofs.Ytedfcjcnhgomoaa.P Go.Proofs.YtedfcjcnhgomoaaW.PrintWords Go.Proofs.YtedfcjcnhgomoaaW.PrintLast Go.Proofs.YtedfcjcnhgomoaaW.PrintMore Go.Proofs.Ytedfcjcnhgomoaa.Own

/-- Are bytes sealed? -/
def sealedP (l : List Int) : Prop := 4 ≤ l.length ∧ (strOfNums (l.take (l.length - 4) ++ Crc.le4 (Crc.sum (l.take (l.length - 4))))).toList = (strOfNums l).toList
instance (l : List Int) : Decidable (sealedP l) := inferInstanceAs (Decidable (_ ∧ _))
def openL (l : List Int) : List Int := if sealedP l then l.take (l.length - 4) else []
def openB (l : List Int) : Bool := decide (sealedP l)
def sealL (l : List Int) : List Int := l ++ Crc.le4 (Crc.sum l)
theorem sealL_length (l : List Int) : (sealL l).length = l.length + 4 := by unfold sealL; rw [List.length_append]; rfl
theorem le4_ok (x : BitVec 32) : Byt.Ok (Crc.le4 x) := by
  intro y hy
  have hlt := x.isLt
  simp only [Crc.le4, List.mem_cons, List.not_mem_nil, or_false] at hy
  omega
theorem sealL_ok {l : List Int} (h : Byt.Ok l) : Byt.Ok (sealL l) := Byt.ok_append h (le4_ok _)
theorem sealed_seal (l : List Int) : sealedP (sealL l) := by
  have e : (sealL l).take ((sealL l).length - 4) = l := by
    rw [sealL_length, Nat.add_sub_cancel]
    unfold sealL
    rw [List.take_left]
  refine ⟨by rw [sealL_length]; omega, ?_⟩
  rw [e]; rfl
theorem openL_seal (l : List Int) : openL (sealL l) = l := by
  unfold openL
  rw [if_pos (sealed_seal l), sealL_length, Nat.add_sub_cancel]
  unfold sealL
  rw [List.take_left]
theorem openB_seal (l : List Int) : openB (sealL l) = true := decide_eq_true (sealed_seal l)
theorem open_f (l : List Int) (h : l.length ≤ 140737488355000) : sum32_Open.f l = some (openL l, openB l) := by
  unfold sum32_Open.f openL openB
  rw [if_pos h]
  by_cases c : sealedP l
  · rw [if_pos c, decide_eq_true c]; exact if_pos c
  · rw [if_neg c, decide_eq_false c]; exact if_neg c
theorem ropen_f (l : List Int) (h : l.length ≤ 140737488355000) : variorumref02_Open.f l = some (openL l, openB l) := open_f l h

theorem nSum (v : Value) (l : List Int) (w : World) (h : Sl w v l) (hl : l.length ≤ 1000000) : Calls Try.prog 83 #[v] w fun e w' => e = .returned (.int .u32 ((Crc.sum l).toNat : Int)) ∧ Below w.heap.size w w' := by
  obtain ⟨A, c, rfl, hc, hC⟩ := h
  obtain ⟨k, hk⟩ := SumF.sum_some l (by omega)
  exact (sum32_Sum.calls k A c l _ w hC hc hk).mono fun e w' ⟨he, hd⟩ => ⟨he, hd.below⟩
theorem nRefSum (v : Value) (l : List Int) (w : World) (h : Sl w v l) (hl : l.length ≤ 1000000) : Calls Try.prog 84 #[v] w fun e w' => e = .returned (.int .u32 ((Crc.sum l).toNat : Int)) ∧ Below w.heap.size w w' := by
  obtain ⟨A, c, rfl, hc, hC⟩ := h
  obtain ⟨k, hk⟩ := RefSum.sum_some l (by omega)
  exact (variorumref02_Sum.calls k A c l _ w hC hc hk).mono fun e w' ⟨he, hd⟩ => ⟨he, hd.below⟩
theorem nSeal (v : Value) (l : List Int) (w : World) (h : Sl w v l) (hl : l.length ≤ 1000000) : Calls Try.prog 39 #[v] w fun e w' => ∃ v', e = .returned v' ∧ Sl w' v' (sealL l) ∧ Below w.heap.size w w' := by
  obtain ⟨A, c, rfl, hc, hC⟩ := h
  have hk : sum32_Seal.f l = some (sealL l) := by unfold sum32_Seal.f; rw [if_pos (by omega)]; rfl
  exact (sum32_Seal.calls A c l _ w hC hc hk).mono fun e w' ⟨v', he, hr, hb⟩ => ⟨v', he, Sl.of_R hr, hb⟩
theorem nRefSeal (v : Value) (l : List Int) (w : World) (h : Sl w v l) (hl : l.length ≤ 1000000) : Calls Try.prog 42 #[v] w fun e w' => ∃ v', e = .returned v' ∧ Sl w' v' (sealL l) ∧ Below w.heap.size w w' := by
  obtain ⟨A, c, rfl, hc, hC⟩ := h
  obtain ⟨k, hk⟩ := RefSum.seal_some l (by omega)
  exact (variorumref02_Seal.calls k A c l _ w hC hc hk).mono fun e w' ⟨v', he, hr, hb⟩ => ⟨v', he, Sl.of_R hr, hb⟩
theorem nOpen (v : Value) (l : List Int) (w : World) (h : Sl w v l) (hl : l.length ≤ 1000000) : Calls Try.prog 50 #[v] w fun e w' => ∃ v', e = .returned (.tuple #[v', .bool (openB l)]) ∧ Sl w' v' (openL l) ∧ Below w.heap.size w w' := by
  have hV := Sl.to_V (e := 5) (base := w.heap.size) h
  obtain ⟨A, c, rfl, hc, hC⟩ := h
  exact (sum32_Open.calls _ A c l _ _ w hV (open_f l (by omega))).mono fun e w' ⟨v', he, hr, hb⟩ => ⟨v', he, Sl.of_V hr, hb⟩
theorem nRefOpen (v : Value) (l : List Int) (w : World) (h : Sl w v l) (hl : l.length ≤ 1000000) : Calls Try.prog 54 #[v] w fun e w' => ∃ v', e = .returned (.tuple #[v', .bool (openB l)]) ∧ Sl w' v' (openL l) ∧ Below w.heap.size w w' := by
  have hV := Sl.to_V (e := 5) (base := w.heap.size) h
  obtain ⟨A, c, rfl, hc, hC⟩ := h
  exact (variorumref02_Open.calls _ A c l _ _ w hV (ropen_f l (by omega))).mono fun e w' ⟨v', he, hr, hb⟩ => ⟨v', he, Sl.of_V hr, hb⟩
theorem nOpenSeal (v : Value) (l : List Int) (w : World) (h : Sl w v (sealL l)) (hl : l.length ≤ 999990) : Calls Try.prog 50 #[v] w fun e w' => ∃ v', e = .returned (.tuple #[v', .bool true]) ∧ Sl w' v' l ∧ Below w.heap.size w w' := by
  have hk := nOpen v (sealL l) w h (by rw [sealL_length]; omega)
  rw [openB_seal, openL_seal] at hk
  exact hk

end Go.Proofs.Ytedfcjcnhgomoaa.Nice
end
-- MERGED YtedfcjcnhgomoaaPvariorumref12num
section
-- Written by wip/myprint.py of this session, over the kit's print.py: a Lean function for each Go function, and the proof that the code comes to it.
namespace Go.Proofs.Ytedfcjcnhgomoaa.P
open Go.RowKit Go.Proofs.YtedfcjcnhgomoaaW.PrintWords Go.Proofs.YtedfcjcnhgomoaaW.PrintLast Go.Proofs.YtedfcjcnhgomoaaW.PrintMore
attribute [local go_sem] max2_int min2_int max_two min_two max_three min_three max_four min_four   -- for this text's walks alone
set_option linter.unusedVariables false
set_option linter.unusedSimpArgs false

/-! ### variorumref12_num: function 43 -/
def variorumref12_num.f (a0 : Int) : Option (Bool) := if a0 ≥ 0 then (some (decide (a0 ≤ 4611686018427387904))) else (some false)
set_option maxHeartbeats 8000000 in
set_option maxRecDepth 100000 in
theorem variorumref12_num.calls (a0 : Int) (r : Bool) (w : World) (h : variorumref12_num.f a0 = some r) :
    Calls Try.prog 43 #[.int .i64 a0] w fun e w' => e = .returned (.bool r) ∧ Drawn0 w w' := by
  have H : (if a0 ≥ 0 then (some (decide (a0 ≤ 4611686018427387904))) else (some false)) = some r := h
  clear h
  by_cases c2 : a0 ≥ 0
  · rw [if_pos c2] at H
    have c2b0 : decide (0 ≤ a0) = true := decide_eq_true c2
    clear c2
    obtain rfl := Option.some.inj H
    go_enter Try.func43, Try.ntmps43
    go_wp2
    go_ret
    exact ⟨by first | rfl | (simp; done) | (simp [*]; done), by repeat (first | exact Drawn0.refl _ | apply Drawn0.step)⟩
  · rw [if_neg c2] at H
    have c2b0 : decide (0 ≤ a0) = false := decide_eq_false c2
    clear c2
    obtain rfl := Option.some.inj H
    go_enter Try.func43, Try.ntmps43
    go_wp2
    go_ret
    exact ⟨by first | rfl | (simp; done) | (simp [*]; done), by repeat (first | exact Drawn0.refl _ | apply Drawn0.step)⟩

end Go.Proofs.Ytedfcjcnhgomoaa.P
end
-- MERGED YtedfcjcnhgomoaaPvariorumref12Good
section
-- Written by wip/myprint.py of this session, over the kit's print.py: a Lean function for each Go function, and the proof that the code comes to it.
namespace Go.Proofs.Ytedfcjcnhgomoaa.P
open Go.RowKit Go.Proofs.YtedfcjcnhgomoaaW.PrintWords Go.Proofs.YtedfcjcnhgomoaaW.PrintLast Go.Proofs.YtedfcjcnhgomoaaW.PrintMore
attribute [local go_sem] max2_int min2_int max_two min_two max_three min_three max_four min_four   -- for this text's walks alone
set_option linter.unusedVariables false
set_option linter.unusedSimpArgs false

/-! ### variorumref12_Good: function 16 -/
def variorumref12_Good.f (a0_0 : Int) (a0_1 : Int) (a0_2 : Int) (a0_3 : ByteArray) : Option (Bool) := (variorumref12_num.f a0_0).bind fun t107 => (if t107 = true then ((variorumref12_num.f a0_1).bind fun t108 => (if t108 = true then ((variorumref12_num.f a0_2).bind fun t109 => (if t109 = true then (if (a0_3.size : Int) ≤ 65536 then (if a0_1 > 0 then (some true) else (some (a0_3.toList == ([] : List UInt8)))) else (some false)) else (some false))) else (some false))) else (some false))
set_option maxHeartbeats 8000000 in
set_option maxRecDepth 100000 in
theorem variorumref12_Good.calls (a0_0 : Int) (a0_1 : Int) (a0_2 : Int) (a0_3 : ByteArray) (r : Bool) (w : World) (h : variorumref12_Good.f a0_0 a0_1 a0_2 a0_3 = some r) :
    Calls Try.prog 16 #[.agg #[.int .i64 a0_0, .int .i64 a0_1, .int .i64 a0_2, .string a0_3]] w fun e w' => e = .returned (.bool r) ∧ Below w.heap.size w w' := by
  have hu23 := Try.underlying23
  have HB := Aside0.mk (Below.refl w.heap.size w)
  have H : ((variorumref12_num.f a0_0).bind fun t107 => (if t107 = true then ((variorumref12_num.f a0_1).bind fun t108 => (if t108 = true then ((variorumref12_num.f a0_2).bind fun t109 => (if t109 = true then (if (a0_3.size : Int) ≤ 65536 then (if a0_1 > 0 then (some true) else (some (a0_3.toList == ([] : List UInt8)))) else (some false)) else (some false))) else (some false))) else (some false))) = some r := h
  clear h
  replace H := Option.bind_eq_some_iff.mp H
  obtain ⟨t107, A20, H⟩ := H
  replace H : (if t107 = true then ((variorumref12_num.f a0_1).bind fun t108 => (if t108 = true then ((variorumref12_num.f a0_2).bind fun t109 => (if t109 = true then (if (a0_3.size : Int) ≤ 65536 then (if a0_1 > 0 then (some true) else (some (a0_3.toList == ([] : List UInt8)))) else (some false)) else (some false))) else (some false))) else (some false)) = some r := H
  have A2 := Aside0.mk A20
  clear A20
  by_cases c3 : t107 = true
  · subst c3
    have H1 : ((variorumref12_num.f a0_1).bind fun t108 => (if t108 = true then ((variorumref12_num.f a0_2).bind fun t109 => (if t109 = true then (if (a0_3.size : Int) ≤ 65536 then (if a0_1 > 0 then (some true) else (some (a0_3.toList == ([] : List UInt8)))) else (some false)) else (some false))) else (some false))) = some r := by rw [if_pos rfl] at H; exact H
    clear H
    have H := H1
    clear H1
    replace H := Option.bind_eq_some_iff.mp H
    obtain ⟨t108, A40, H⟩ := H
    replace H : (if t108 = true then ((variorumref12_num.f a0_2).bind fun t109 => (if t109 = true then (if (a0_3.size : Int) ≤ 65536 then (if a0_1 > 0 then (some true) else (some (a0_3.toList == ([] : List UInt8)))) else (some false)) else (some false))) else (some false)) = some r := H
    have A4 := Aside0.mk A40
    clear A40
    by_cases c5 : t108 = true
    · subst c5
      have H1 : ((variorumref12_num.f a0_2).bind fun t109 => (if t109 = true then (if (a0_3.size : Int) ≤ 65536 then (if a0_1 > 0 then (some true) else (some (a0_3.toList == ([] : List UInt8)))) else (some false)) else (some false))) = some r := by rw [if_pos rfl] at H; exact H
      clear H
      have H := H1
      clear H1
      replace H := Option.bind_eq_some_iff.mp H
      obtain ⟨t109, A60, H⟩ := H
      replace H : (if t109 = true then (if (a0_3.size : Int) ≤ 65536 then (if a0_1 > 0 then (some true) else (some (a0_3.toList == ([] : List UInt8)))) else (some false)) else (some false)) = some r := H
      have A6 := Aside0.mk A60
      clear A60
      by_cases c7 : t109 = true
      · subst c7
        have H1 : (if (a0_3.size : Int) ≤ 65536 then (if a0_1 > 0 then (some true) else (some (a0_3.toList == ([] : List UInt8)))) else (some false)) = some r := by rw [if_pos rfl] at H; exact H
        clear H
        have H := H1
        clear H1
        by_cases c8 : (a0_3.size : Int) ≤ 65536
        · rw [if_pos c8] at H
          have c8b0 : decide ((a0_3.size : Int) ≤ 65536) = true := decide_eq_true c8
          have c8b1 : decide (a0_3.size ≤ 65536) = true := decide_eq_true (by omega)
          clear c8
          by_cases c9 : a0_1 > 0
          · rw [if_pos c9] at H
            have c9b0 : decide (0 < a0_1) = true := decide_eq_true c9
            clear c9
            obtain rfl := Option.some.inj H
            go_enter Try.func16, Try.ntmps16
            go_wp2_with (first | ((with_reducible refine gate_dst (N := 1) rfl ?_); (try (refine gate_guard (by rfl) ?_; dsimp only)); refine box_event ?hg (N := 1) ?hd (cs := #[.int .i64 a0_0, .int .i64 a0_1, .int .i64 a0_2, .string a0_3]) (t := 23) ?hr ?_; (case hd => rfl); (case hg => rfl); (case hr => first | (go_simp; done) | (go_simp; rfl)); intro gb106 hg w10 hbox hb; have n0_ := Aside0.mk (below_step (by repeat (first | (with_reducible first | exact HB.out | apply below_alloc | apply pw_below_drewN | apply below_drew1) | exact HB.out)) hb); have n1_ := Aside0.mk (hbox); have n2_ := Aside0.mk ((by rw [hg]; exact (below_size (by repeat (first | (with_reducible first | exact HB.out | apply below_alloc | apply pw_below_drewN | apply below_drew1) | exact HB.out))) : w.heap.size ≤ gb106)); have n3_ := Aside0.mk ((by rw [hg]; exact (below_size (by repeat (first | (with_reducible first | exact HB.out | apply below_alloc | apply pw_below_drewN | apply below_drew1) | exact HB.out))) : w.heap.size ≤ gb106)); clear HB; have HB := n0_; have BK106 := n1_; have GW106 := n2_; have GE106 := n3_; clear n0_ n1_ n2_ n3_; clear hb hbox hg; have hcz11_0 : w10.cell? ⟨gb106, 0, none⟩ = some (.int .i64 a0_0) := (blk_cell BK106.out 0).trans rfl; have hcz11_1 : w10.cell? ⟨gb106, 1, none⟩ = some (.int .i64 a0_1) := (blk_cell BK106.out 1).trans rfl; have hcz11_2 : w10.cell? ⟨gb106, 2, none⟩ = some (.int .i64 a0_2) := (blk_cell BK106.out 2).trans rfl; have hcz11_3 : w10.cell? ⟨gb106, 3, none⟩ = some (.string a0_3) := (blk_cell BK106.out 3).trans rfl; have hfz11_0 := blk_frozen BK106.out 0; have hfz11_1 := blk_frozen BK106.out 1; have hfz11_2 := blk_frozen BK106.out 2; have hfz11_3 := blk_frozen BK106.out 3) | ((with_reducible refine gate_callee (f := 43) rfl ?_); refine goesL_ (some 5) rfl rfl Try.func43 (by kernel_rfl) rfl #[.int .i64 a0_0] rfl (by (try simp only [List.map_toArray, List.map_cons, List.map_nil]); first | done | rfl | (simp only [List.length_drop, List.length_take]; rfl)) ?_; (with_reducible refine (variorumref12_num.calls a0_0 true _ A2.out).mono ?_); rintro e w' ⟨rfl, ⟨nd, rfl⟩⟩; refine ⟨_, rfl, ?_⟩) | (go_at_call 43; (with_reducible refine (variorumref12_num.calls a0_1 true _ A4.out).mono ?_); rintro e w' ⟨rfl, ⟨nd, rfl⟩⟩) | (go_at_call 43; (with_reducible refine (variorumref12_num.calls a0_2 true _ A6.out).mono ?_); rintro e w' ⟨rfl, ⟨nd, rfl⟩⟩))
            go_ret
            exact ⟨by first | rfl | (simp [errW_none, errW_some] <;> rfl) | (simp [*, errW_none, errW_some] <;> rfl), by repeat (first | (with_reducible first | exact HB.out | apply below_alloc | apply pw_below_drewN | apply below_drew1 | refine below_set ?_ GE106.out) | exact HB.out)⟩
          · rw [if_neg c9] at H
            have c9b0 : decide (0 < a0_1) = false := decide_eq_false c9
            clear c9
            obtain rfl := Option.some.inj H
            go_enter Try.func16, Try.ntmps16
            go_wp2_with (first | ((with_reducible refine gate_dst (N := 1) rfl ?_); (try (refine gate_guard (by rfl) ?_; dsimp only)); refine box_event ?hg (N := 1) ?hd (cs := #[.int .i64 a0_0, .int .i64 a0_1, .int .i64 a0_2, .string a0_3]) (t := 23) ?hr ?_; (case hd => rfl); (case hg => rfl); (case hr => first | (go_simp; done) | (go_simp; rfl)); intro gb106 hg w12 hbox hb; have n0_ := Aside0.mk (below_step (by repeat (first | (with_reducible first | exact HB.out | apply below_alloc | apply pw_below_drewN | apply below_drew1) | exact HB.out)) hb); have n1_ := Aside0.mk (hbox); have n2_ := Aside0.mk ((by rw [hg]; exact (below_size (by repeat (first | (with_reducible first | exact HB.out | apply below_alloc | apply pw_below_drewN | apply below_drew1) | exact HB.out))) : w.heap.size ≤ gb106)); have n3_ := Aside0.mk ((by rw [hg]; exact (below_size (by repeat (first | (with_reducible first | exact HB.out | apply below_alloc | apply pw_below_drewN | apply below_drew1) | exact HB.out))) : w.heap.size ≤ gb106)); clear HB; have HB := n0_; have BK106 := n1_; have GW106 := n2_; have GE106 := n3_; clear n0_ n1_ n2_ n3_; clear hb hbox hg; have hcz13_0 : w12.cell? ⟨gb106, 0, none⟩ = some (.int .i64 a0_0) := (blk_cell BK106.out 0).trans rfl; have hcz13_1 : w12.cell? ⟨gb106, 1, none⟩ = some (.int .i64 a0_1) := (blk_cell BK106.out 1).trans rfl; have hcz13_2 : w12.cell? ⟨gb106, 2, none⟩ = some (.int .i64 a0_2) := (blk_cell BK106.out 2).trans rfl; have hcz13_3 : w12.cell? ⟨gb106, 3, none⟩ = some (.string a0_3) := (blk_cell BK106.out 3).trans rfl; have hfz13_0 := blk_frozen BK106.out 0; have hfz13_1 := blk_frozen BK106.out 1; have hfz13_2 := blk_frozen BK106.out 2; have hfz13_3 := blk_frozen BK106.out 3) | ((with_reducible refine gate_callee (f := 43) rfl ?_); refine goesL_ (some 5) rfl rfl Try.func43 (by kernel_rfl) rfl #[.int .i64 a0_0] rfl (by (try simp only [List.map_toArray, List.map_cons, List.map_nil]); first | done | rfl | (simp only [List.length_drop, List.length_take]; rfl)) ?_; (with_reducible refine (variorumref12_num.calls a0_0 true _ A2.out).mono ?_); rintro e w' ⟨rfl, ⟨nd, rfl⟩⟩; refine ⟨_, rfl, ?_⟩) | (go_at_call 43; (with_reducible refine (variorumref12_num.calls a0_1 true _ A4.out).mono ?_); rintro e w' ⟨rfl, ⟨nd, rfl⟩⟩) | (go_at_call 43; (with_reducible refine (variorumref12_num.calls a0_2 true _ A6.out).mono ?_); rintro e w' ⟨rfl, ⟨nd, rfl⟩⟩))
            go_ret
            exact ⟨by first | rfl | (simp [errW_none, errW_some] <;> rfl) | (simp [*, errW_none, errW_some] <;> rfl), by repeat (first | (with_reducible first | exact HB.out | apply below_alloc | apply pw_below_drewN | apply below_drew1 | refine below_set ?_ GE106.out) | exact HB.out)⟩
        · rw [if_neg c8] at H
          have c8b0 : decide ((a0_3.size : Int) ≤ 65536) = false := decide_eq_false c8
          have c8b1 : decide (a0_3.size ≤ 65536) = false := decide_eq_false (by omega)
          clear c8
          obtain rfl := Option.some.inj H
          go_enter Try.func16, Try.ntmps16
          go_wp2_with (first | ((with_reducible refine gate_dst (N := 1) rfl ?_); (try (refine gate_guard (by rfl) ?_; dsimp only)); refine box_event ?hg (N := 1) ?hd (cs := #[.int .i64 a0_0, .int .i64 a0_1, .int .i64 a0_2, .string a0_3]) (t := 23) ?hr ?_; (case hd => rfl); (case hg => rfl); (case hr => first | (go_simp; done) | (go_simp; rfl)); intro gb106 hg w14 hbox hb; have n0_ := Aside0.mk (below_step (by repeat (first | (with_reducible first | exact HB.out | apply below_alloc | apply pw_below_drewN | apply below_drew1) | exact HB.out)) hb); have n1_ := Aside0.mk (hbox); have n2_ := Aside0.mk ((by rw [hg]; exact (below_size (by repeat (first | (with_reducible first | exact HB.out | apply below_alloc | apply pw_below_drewN | apply below_drew1) | exact HB.out))) : w.heap.size ≤ gb106)); have n3_ := Aside0.mk ((by rw [hg]; exact (below_size (by repeat (first | (with_reducible first | exact HB.out | apply below_alloc | apply pw_below_drewN | apply below_drew1) | exact HB.out))) : w.heap.size ≤ gb106)); clear HB; have HB := n0_; have BK106 := n1_; have GW106 := n2_; have GE106 := n3_; clear n0_ n1_ n2_ n3_; clear hb hbox hg; have hcz15_0 : w14.cell? ⟨gb106, 0, none⟩ = some (.int .i64 a0_0) := (blk_cell BK106.out 0).trans rfl; have hcz15_1 : w14.cell? ⟨gb106, 1, none⟩ = some (.int .i64 a0_1) := (blk_cell BK106.out 1).trans rfl; have hcz15_2 : w14.cell? ⟨gb106, 2, none⟩ = some (.int .i64 a0_2) := (blk_cell BK106.out 2).trans rfl; have hcz15_3 : w14.cell? ⟨gb106, 3, none⟩ = some (.string a0_3) := (blk_cell BK106.out 3).trans rfl; have hfz15_0 := blk_frozen BK106.out 0; have hfz15_1 := blk_frozen BK106.out 1; have hfz15_2 := blk_frozen BK106.out 2; have hfz15_3 := blk_frozen BK106.out 3) | ((with_reducible refine gate_callee (f := 43) rfl ?_); refine goesL_ (some 5) rfl rfl Try.func43 (by kernel_rfl) rfl #[.int .i64 a0_0] rfl (by (try simp only [List.map_toArray, List.map_cons, List.map_nil]); first | done | rfl | (simp only [List.length_drop, List.length_take]; rfl)) ?_; (with_reducible refine (variorumref12_num.calls a0_0 true _ A2.out).mono ?_); rintro e w' ⟨rfl, ⟨nd, rfl⟩⟩; refine ⟨_, rfl, ?_⟩) | (go_at_call 43; (with_reducible refine (variorumref12_num.calls a0_1 true _ A4.out).mono ?_); rintro e w' ⟨rfl, ⟨nd, rfl⟩⟩) | (go_at_call 43; (with_reducible refine (variorumref12_num.calls a0_2 true _ A6.out).mono ?_); rintro e w' ⟨rfl, ⟨nd, rfl⟩⟩))
          go_ret
          exact ⟨by first | rfl | (simp [errW_none, errW_some] <;> rfl) | (simp [*, errW_none, errW_some] <;> rfl), by repeat (first | (with_reducible first | exact HB.out | apply below_alloc | apply pw_below_drewN | apply below_drew1 | refine below_set ?_ GE106.out) | exact HB.out)⟩
      · replace c7 := Bool.eq_false_iff.mpr c7
        subst c7
        have H1 : (some false) = some r := by rw [if_neg (show ¬ (false = true) by decide)] at H; exact H
        clear H
        have H := H1
        clear H1
        obtain rfl := Option.some.inj H
        go_enter Try.func16, Try.ntmps16
        go_wp2_with (first | ((with_reducible refine gate_dst (N := 1) rfl ?_); (try (refine gate_guard (by rfl) ?_; dsimp only)); refine box_event ?hg (N := 1) ?hd (cs := #[.int .i64 a0_0, .int .i64 a0_1, .int .i64 a0_2, .string a0_3]) (t := 23) ?hr ?_; (case hd => rfl); (case hg => rfl); (case hr => first | (go_simp; done) | (go_simp; rfl)); intro gb106 hg w16 hbox hb; have n0_ := Aside0.mk (below_step (by repeat (first | (with_reducible first | exact HB.out | apply below_alloc | apply pw_below_drewN | apply below_drew1) | exact HB.out)) hb); have n1_ := Aside0.mk (hbox); have n2_ := Aside0.mk ((by rw [hg]; exact (below_size (by repeat (first | (with_reducible first | exact HB.out | apply below_alloc | apply pw_below_drewN | apply below_drew1) | exact HB.out))) : w.heap.size ≤ gb106)); have n3_ := Aside0.mk ((by rw [hg]; exact (below_size (by repeat (first | (with_reducible first | exact HB.out | apply below_alloc | apply pw_below_drewN | apply below_drew1) | exact HB.out))) : w.heap.size ≤ gb106)); clear HB; have HB := n0_; have BK106 := n1_; have GW106 := n2_; have GE106 := n3_; clear n0_ n1_ n2_ n3_; clear hb hbox hg; have hcz17_0 : w16.cell? ⟨gb106, 0, none⟩ = some (.int .i64 a0_0) := (blk_cell BK106.out 0).trans rfl; have hcz17_1 : w16.cell? ⟨gb106, 1, none⟩ = some (.int .i64 a0_1) := (blk_cell BK106.out 1).trans rfl; have hcz17_2 : w16.cell? ⟨gb106, 2, none⟩ = some (.int .i64 a0_2) := (blk_cell BK106.out 2).trans rfl; have hcz17_3 : w16.cell? ⟨gb106, 3, none⟩ = some (.string a0_3) := (blk_cell BK106.out 3).trans rfl; have hfz17_0 := blk_frozen BK106.out 0; have hfz17_1 := blk_frozen BK106.out 1; have hfz17_2 := blk_frozen BK106.out 2; have hfz17_3 := blk_frozen BK106.out 3) | ((with_reducible refine gate_callee (f := 43) rfl ?_); refine goesL_ (some 5) rfl rfl Try.func43 (by kernel_rfl) rfl #[.int .i64 a0_0] rfl (by (try simp only [List.map_toArray, List.map_cons, List.map_nil]); first | done | rfl | (simp only [List.length_drop, List.length_take]; rfl)) ?_; (with_reducible refine (variorumref12_num.calls a0_0 true _ A2.out).mono ?_); rintro e w' ⟨rfl, ⟨nd, rfl⟩⟩; refine ⟨_, rfl, ?_⟩) | (go_at_call 43; (with_reducible refine (variorumref12_num.calls a0_1 true _ A4.out).mono ?_); rintro e w' ⟨rfl, ⟨nd, rfl⟩⟩) | (go_at_call 43; (with_reducible refine (variorumref12_num.calls a0_2 false _ A6.out).mono ?_); rintro e w' ⟨rfl, ⟨nd, rfl⟩⟩))
        go_ret
        exact ⟨by first | rfl | (simp [errW_none, errW_some] <;> rfl) | (simp [*, errW_none, errW_some] <;> rfl), by repeat (first | (with_reducible first | exact HB.out | apply below_alloc | apply pw_below_drewN | apply below_drew1 | refine below_set ?_ GE106.out) | exact HB.out)⟩
    · replace c5 := Bool.eq_false_iff.mpr c5
      subst c5
      have H1 : (some false) = some r := by rw [if_neg (show ¬ (false = true) by decide)] at H; exact H
      clear H
      have H := H1
      clear H1
      obtain rfl := Option.some.inj H
      go_enter Try.func16, Try.ntmps16
      go_wp2_with (first | ((with_reducible refine gate_dst (N := 1) rfl ?_); (try (refine gate_guard (by rfl) ?_; dsimp only)); refine box_event ?hg (N := 1) ?hd (cs := #[.int .i64 a0_0, .int .i64 a0_1, .int .i64 a0_2, .string a0_3]) (t := 23) ?hr ?_; (case hd => rfl); (case hg => rfl); (case hr => first | (go_simp; done) | (go_simp; rfl)); intro gb106 hg w18 hbox hb; have n0_ := Aside0.mk (below_step (by repeat (first | (with_reducible first | exact HB.out | apply below_alloc | apply pw_below_drewN | apply below_drew1) | exact HB.out)) hb); have n1_ := Aside0.mk (hbox); have n2_ := Aside0.mk ((by rw [hg]; exact (below_size (by repeat (first | (with_reducible first | exact HB.out | apply below_alloc | apply pw_below_drewN | apply below_drew1) | exact HB.out))) : w.heap.size ≤ gb106)); have n3_ := Aside0.mk ((by rw [hg]; exact (below_size (by repeat (first | (with_reducible first | exact HB.out | apply below_alloc | apply pw_below_drewN | apply below_drew1) | exact HB.out))) : w.heap.size ≤ gb106)); clear HB; have HB := n0_; have BK106 := n1_; have GW106 := n2_; have GE106 := n3_; clear n0_ n1_ n2_ n3_; clear hb hbox hg; have hcz19_0 : w18.cell? ⟨gb106, 0, none⟩ = some (.int .i64 a0_0) := (blk_cell BK106.out 0).trans rfl; have hcz19_1 : w18.cell? ⟨gb106, 1, none⟩ = some (.int .i64 a0_1) := (blk_cell BK106.out 1).trans rfl; have hcz19_2 : w18.cell? ⟨gb106, 2, none⟩ = some (.int .i64 a0_2) := (blk_cell BK106.out 2).trans rfl; have hcz19_3 : w18.cell? ⟨gb106, 3, none⟩ = some (.string a0_3) := (blk_cell BK106.out 3).trans rfl; have hfz19_0 := blk_frozen BK106.out 0; have hfz19_1 := blk_frozen BK106.out 1; have hfz19_2 := blk_frozen BK106.out 2; have hfz19_3 := blk_frozen BK106.out 3) | ((with_reducible refine gate_callee (f := 43) rfl ?_); refine goesL_ (some 5) rfl rfl Try.func43 (by kernel_rfl) rfl #[.int .i64 a0_0] rfl (by (try simp only [List.map_toArray, List.map_cons, List.map_nil]); first | done | rfl | (simp only [List.length_drop, List.length_take]; rfl)) ?_; (with_reducible refine (variorumref12_num.calls a0_0 true _ A2.out).mono ?_); rintro e w' ⟨rfl, ⟨nd, rfl⟩⟩; refine ⟨_, rfl, ?_⟩) | (go_at_call 43; (with_reducible refine (variorumref12_num.calls a0_1 false _ A4.out).mono ?_); rintro e w' ⟨rfl, ⟨nd, rfl⟩⟩))
      go_ret
      exact ⟨by first | rfl | (simp [errW_none, errW_some] <;> rfl) | (simp [*, errW_none, errW_some] <;> rfl), by repeat (first | (with_reducible first | exact HB.out | apply below_alloc | apply pw_below_drewN | apply below_drew1 | refine below_set ?_ GE106.out) | exact HB.out)⟩
  · replace c3 := Bool.eq_false_iff.mpr c3
    subst c3
    have H1 : (some false) = some r := by rw [if_neg (show ¬ (false = true) by decide)] at H; exact H
    clear H
    have H := H1
    clear H1
    obtain rfl := Option.some.inj H
    go_enter Try.func16, Try.ntmps16
    go_wp2_with (first | ((with_reducible refine gate_dst (N := 1) rfl ?_); (try (refine gate_guard (by rfl) ?_; dsimp only)); refine box_event ?hg (N := 1) ?hd (cs := #[.int .i64 a0_0, .int .i64 a0_1, .int .i64 a0_2, .string a0_3]) (t := 23) ?hr ?_; (case hd => rfl); (case hg => rfl); (case hr => first | (go_simp; done) | (go_simp; rfl)); intro gb106 hg w20 hbox hb; have n0_ := Aside0.mk (below_step (by repeat (first | (with_reducible first | exact HB.out | apply below_alloc | apply pw_below_drewN | apply below_drew1) | exact HB.out)) hb); have n1_ := Aside0.mk (hbox); have n2_ := Aside0.mk ((by rw [hg]; exact (below_size (by repeat (first | (with_reducible first | exact HB.out | apply below_alloc | apply pw_below_drewN | apply below_drew1) | exact HB.out))) : w.heap.size ≤ gb106)); have n3_ := Aside0.mk ((by rw [hg]; exact (below_size (by repeat (first | (with_reducible first | exact HB.out | apply below_alloc | apply pw_below_drewN | apply below_drew1) | exact HB.out))) : w.heap.size ≤ gb106)); clear HB; have HB := n0_; have BK106 := n1_; have GW106 := n2_; have GE106 := n3_; clear n0_ n1_ n2_ n3_; clear hb hbox hg; have hcz21_0 : w20.cell? ⟨gb106, 0, none⟩ = some (.int .i64 a0_0) := (blk_cell BK106.out 0).trans rfl; have hcz21_1 : w20.cell? ⟨gb106, 1, none⟩ = some (.int .i64 a0_1) := (blk_cell BK106.out 1).trans rfl; have hcz21_2 : w20.cell? ⟨gb106, 2, none⟩ = some (.int .i64 a0_2) := (blk_cell BK106.out 2).trans rfl; have hcz21_3 : w20.cell? ⟨gb106, 3, none⟩ = some (.string a0_3) := (blk_cell BK106.out 3).trans rfl; have hfz21_0 := blk_frozen BK106.out 0; have hfz21_1 := blk_frozen BK106.out 1; have hfz21_2 := blk_frozen BK106.out 2; have hfz21_3 := blk_frozen BK106.out 3) | ((with_reducible refine gate_callee (f := 43) rfl ?_); refine goesL_ (some 5) rfl rfl Try.func43 (by kernel_rfl) rfl #[.int .i64 a0_0] rfl (by (try simp only [List.map_toArray, List.map_cons, List.map_nil]); first | done | rfl | (simp only [List.length_drop, List.length_take]; rfl)) ?_; (with_reducible refine (variorumref12_num.calls a0_0 false _ A2.out).mono ?_); rintro e w' ⟨rfl, ⟨nd, rfl⟩⟩; refine ⟨_, rfl, ?_⟩))
    go_ret
    exact ⟨by first | rfl | (simp [errW_none, errW_some] <;> rfl) | (simp [*, errW_none, errW_some] <;> rfl), by repeat (first | (with_reducible first | exact HB.out | apply below_alloc | apply pw_below_drewN | apply below_drew1 | refine below_set ?_ GE106.out) | exact HB.out)⟩

end Go.Proofs.Ytedfcjcnhgomoaa.P
end
-- MERGED YtedfcjcnhgomoaaPvariorumref12body
section
-- Written by wip/myprint.py of this session, over the kit's print.py: a Lean function for each Go function, and the proof that the code comes to it.
namespace Go.Proofs.Ytedfcjcnhgomoaa.P
open Go.RowKit Go.Proofs.YtedfcjcnhgomoaaW.PrintWords Go.Proofs.YtedfcjcnhgomoaaW.PrintLast Go.Proofs.YtedfcjcnhgomoaaW.PrintMore
attribute [local go_sem] max2_int min2_int max_two min_two max_three min_three max_four min_four   -- for this text's walks alone
set_option linter.unusedVariables false
set_option linter.unusedSimpArgs false

/-! ### variorumref12_body: function 40 -/
def variorumref12_body.f (k : Nat) (a0_0 : Int) (a0_1 : Int) (a0_2 : Int) (a0_3 : ByteArray) : Option (List Int) := (variorumref01_Put.f k ([] : List Int) a0_0).bind fun t129 => ((variorumref01_Put.f k t129 a0_1).bind fun t132 => ((variorumref01_Put.f k t132 a0_2).bind fun t135 => ((variorumref01_PutText.f k t135 a0_3).bind fun t138 => (some t138))))
theorem variorumref12_body.mono : ∀ a0 a1 a2 a3 k, LeO (variorumref12_body.f k a0 a1 a2 a3) (variorumref12_body.f (k + 1) a0 a1 a2 a3) := by
  intro a0 a1 a2 a3 k
  unfold variorumref12_body.f
  repeat' first
      | (with_reducible exact variorumref01_Put.mono _ _ _)
      | (with_reducible exact variorumref01_PutText.mono _ _ _)
      | (with_reducible exact LeO.refl _)
      | (with_reducible exact LeO.none _)
      | (with_reducible refine LeO.ite ?_ ?_)
      | (with_reducible refine LeO.bind ?_ (fun _ => ?_))
      | exact variorumref01_Put.mono _ _ _
      | exact variorumref01_PutText.mono _ _ _
      | exact LeO.none _
      | refine LeO.ite ?_ ?_
      | refine LeO.bind ?_ (fun _ => ?_)
def variorumref12_body.T1 : Bool × List (List Nat × List Nat) := (true, [([], []), ([0], [0]), ([1], [1]), ([], []), ([3], [3]), ([2, 4, 2], [2, 4]), ([], []), ([6], [6]), ([5, 7, 5], [5, 7]), ([], []), ([9], [9]), ([8, 10, 8], [8, 10]), ([11, 11, 0, 1, 2, 3, 4, 5, 6, 7, 8, 9, 10, 11], [11])])
def variorumref12_body.B1 : List Nat := [0, 1, 3, 0, 8, 31, 0, 64, 255, 0, 512, 2047, 4095]
theorem variorumref12_body.tab1 : rtab .any (opsOf Try.f40 1) = variorumref12_body.T1 := by kernel_rfl
theorem variorumref12_body.bits1 : waitsOk variorumref12_body.T1.2 variorumref12_body.B1 = true := by kernel_rfl
set_option maxHeartbeats 8000000 in
set_option maxRecDepth 100000 in
theorem variorumref12_body.calls (k : Nat) (a0_0 : Int) (a0_1 : Int) (a0_2 : Int) (a0_3 : ByteArray) (r : List Int) (w : World) (h : variorumref12_body.f k a0_0 a0_1 a0_2 a0_3 = some r) :
    Calls Try.prog 40 #[.agg #[.int .i64 a0_0, .int .i64 a0_1, .int .i64 a0_2, .string a0_3]] w fun e w' => ∃ v0_ : Value, e = .returned (v0_) ∧ Kd.R (Kd.int .u8) 5 w' w.heap.size (fun _ => True) v0_ r ∧ Below w.heap.size w w' := by
  have hu23 := Try.underlying23
  have HB := Aside0.mk (Below.refl w.heap.size w)
  have H : ((variorumref01_Put.f k ([] : List Int) a0_0).bind fun t129 => ((variorumref01_Put.f k t129 a0_1).bind fun t132 => ((variorumref01_Put.f k t132 a0_2).bind fun t135 => ((variorumref01_PutText.f k t135 a0_3).bind fun t138 => (some t138))))) = some r := h
  clear h
  replace H := Option.bind_eq_some_iff.mp H
  obtain ⟨t129, A20, H⟩ := H
  replace H : ((variorumref01_Put.f k t129 a0_1).bind fun t132 => ((variorumref01_Put.f k t132 a0_2).bind fun t135 => ((variorumref01_PutText.f k t135 a0_3).bind fun t138 => (some t138)))) = some r := H
  have A2 := Aside0.mk A20
  clear A20
  replace H := Option.bind_eq_some_iff.mp H
  obtain ⟨t132, A30, H⟩ := H
  replace H : ((variorumref01_Put.f k t132 a0_2).bind fun t135 => ((variorumref01_PutText.f k t135 a0_3).bind fun t138 => (some t138))) = some r := H
  have A3 := Aside0.mk A30
  clear A30
  replace H := Option.bind_eq_some_iff.mp H
  obtain ⟨t135, A40, H⟩ := H
  replace H : ((variorumref01_PutText.f k t135 a0_3).bind fun t138 => (some t138)) = some r := H
  have A4 := Aside0.mk A40
  clear A40
  replace H := Option.bind_eq_some_iff.mp H
  obtain ⟨t138, A50, H⟩ := H
  replace H : (some t138) = some r := H
  have A5 := Aside0.mk A50
  clear A50
  obtain rfl := Option.some.inj H
  go_enter Try.func40, Try.ntmps40
  try go_wp2_with (first | ((with_reducible refine gate_dst (N := 1) rfl ?_); refine box_event ?hg (N := 1) ?hd (cs := #[.int .i64 a0_0, .int .i64 a0_1, .int .i64 a0_2, .string a0_3]) (t := 23) ?hr ?_; (case hd => rfl); (case hg => rfl); (case hr => first | (go_simp; done) | (go_simp; rfl)); intro gb128 hg w6 hbox hb; have n0_ := Aside0.mk (below_step (by repeat (first | (with_reducible first | exact HB.out | apply below_alloc | apply pw_below_drewN | apply below_drew1) | exact HB.out)) hb); have n1_ := Aside0.mk (hbox); have n2_ := Aside0.mk ((by rw [hg]; exact (below_size (by repeat (first | (with_reducible first | exact HB.out | apply below_alloc | apply pw_below_drewN | apply below_drew1) | exact HB.out))) : w.heap.size ≤ gb128)); have n3_ := Aside0.mk ((by rw [hg]; exact (below_size (by repeat (first | (with_reducible first | exact HB.out | apply below_alloc | apply pw_below_drewN | apply below_drew1) | exact HB.out))) : w.heap.size ≤ gb128)); clear HB; have HB := n0_; have BK128 := n1_; have GW128 := n2_; have GE128 := n3_; clear n0_ n1_ n2_ n3_; clear hb hbox hg))
  have n0_ := Aside0.mk (blk_drew BK128.out)
  have n1_ := Aside0.mk (below_drew1 HB.out)
  clear BK128
  clear HB
  have BK128 := n0_
  have HB := n1_
  clear n0_ n1_
  refine start_ (n := 13) (S := fun w' => w'.cell? ⟨gb128, 0, none⟩ = some (.int .i64 a0_0) ∧ w'.cell? ⟨gb128, 1, none⟩ = some (.int .i64 a0_1) ∧ w'.cell? ⟨gb128, 2, none⟩ = some (.int .i64 a0_2) ∧ w'.cell? ⟨gb128, 3, none⟩ = some (.string a0_3)) (ds := []) #[false, false, false, false, false, false, false, false, false, false, false, false, false] (by kernel_rfl) rfl rfl ⟨(blk_cell BK128.out 0).trans rfl, (blk_cell BK128.out 1).trans rfl, (blk_cell BK128.out 2).trans rfl, (blk_cell BK128.out 3).trans rfl⟩ (fun hHeld => ?_); refine with_tabW variorumref12_body.tab1 variorumref12_body.bits1 (fun HT_ HW_ => ?_)
  generalize w6.drew = w7 at BK128 HB hHeld ⊢
  refine pure_ (i := 0) (N := some 3) (v := ?_) (a' := ?_) #[true, false, false, false, false, false, false, false, false, false, false, false, false] rfl rfl (any_of HT_.out (by kernel_rfl)) (fun _ _ _ h => h) (Or.inl ⟨by rfl, ?_⟩) ?_ ?_
  rotate_left
  · intro w'
    go_simp
    with_reducible rfl
  rotate_left
  · simp only [Act.put, List.setIfInBounds_toArray, List.set_cons_zero, List.set_cons_succ, i64_w, i32_w]
    rfl
  refine pure_ (i := 3) (N := some 6) (v := ?_) (a' := ?_) #[true, false, false, true, false, false, false, false, false, false, false, false, false] rfl rfl (any_of HT_.out (by kernel_rfl)) (fun _ _ _ h => h) (Or.inl ⟨by rfl, ?_⟩) ?_ ?_
  rotate_left
  · intro w'
    go_simp
    with_reducible rfl
  rotate_left
  · simp only [Act.put, List.setIfInBounds_toArray, List.set_cons_zero, List.set_cons_succ, i64_w, i32_w]
    rfl
  refine pure_ (i := 6) (N := some 9) (v := ?_) (a' := ?_) #[true, false, false, true, false, false, true, false, false, false, false, false, false] rfl rfl (any_of HT_.out (by kernel_rfl)) (fun _ _ _ h => h) (Or.inl ⟨by rfl, ?_⟩) ?_ ?_
  rotate_left
  · intro w'
    go_simp
    with_reducible rfl
  rotate_left
  · simp only [Act.put, List.setIfInBounds_toArray, List.set_cons_zero, List.set_cons_succ, i64_w, i32_w]
    rfl
  refine pure_ (i := 9) (N := some 12) (v := ?_) (a' := ?_) #[true, false, false, true, false, false, true, false, false, true, false, false, false] rfl rfl (any_of HT_.out (by kernel_rfl)) (fun _ _ _ h => h) (Or.inl ⟨by rfl, ?_⟩) ?_ ?_
  rotate_left
  · intro w'
    go_simp
    with_reducible rfl
  rotate_left
  · simp only [Act.put, List.setIfInBounds_toArray, List.set_cons_zero, List.set_cons_succ, i64_w, i32_w]
    rfl
  refine take_ (i := 1) (N := some 4) (v := ?_) (a' := ?_) #[true, true, false, true, false, false, true, false, false, true, false, false, false] rfl rfl (take_ofW HT_.out HW_.out (by kernel_rfl)) (fun _ _ _ h => h) (Or.inl ⟨by rfl, ?_⟩) hHeld ?_ ?_
  rotate_left
  · rintro w' ⟨s0, s1, s2, s3⟩
    go_simp
    with_reducible rfl
  rotate_left
  · simp only [Act.put, List.setIfInBounds_toArray, List.set_cons_zero, List.set_cons_succ, i64_w, i32_w]
    rfl
  refine take_ (i := 4) (N := some 7) (v := ?_) (a' := ?_) #[true, true, false, true, true, false, true, false, false, true, false, false, false] rfl rfl (take_ofW HT_.out HW_.out (by kernel_rfl)) (fun _ _ _ h => h) (Or.inl ⟨by rfl, ?_⟩) hHeld ?_ ?_
  rotate_left
  · rintro w' ⟨s0, s1, s2, s3⟩
    go_simp
    with_reducible rfl
  rotate_left
  · simp only [Act.put, List.setIfInBounds_toArray, List.set_cons_zero, List.set_cons_succ, i64_w, i32_w]
    rfl
  refine take_ (i := 7) (N := some 10) (v := ?_) (a' := ?_) #[true, true, false, true, true, false, true, true, false, true, false, false, false] rfl rfl (take_ofW HT_.out HW_.out (by kernel_rfl)) (fun _ _ _ h => h) (Or.inl ⟨by rfl, ?_⟩) hHeld ?_ ?_
  rotate_left
  · rintro w' ⟨s0, s1, s2, s3⟩
    go_simp
    with_reducible rfl
  rotate_left
  · simp only [Act.put, List.setIfInBounds_toArray, List.set_cons_zero, List.set_cons_succ, i64_w, i32_w]
    rfl
  refine take_ (i := 10) (N := some 13) (v := ?_) (a' := ?_) #[true, true, false, true, true, false, true, true, false, true, true, false, false] rfl rfl (take_ofW HT_.out HW_.out (by kernel_rfl)) (fun _ _ _ h => h) (Or.inl ⟨by rfl, ?_⟩) hHeld ?_ ?_
  rotate_left
  · rintro w' ⟨s0, s1, s2, s3⟩
    go_simp
    with_reducible rfl
  rotate_left
  · simp only [Act.put, List.setIfInBounds_toArray, List.set_cons_zero, List.set_cons_succ, i64_w, i32_w]
    rfl
  refine one_ (i := 2) (N := some 5) #[true, true, true, true, true, false, true, true, false, true, true, false, false] rfl rfl (one_of HT_.out (by kernel_rfl)) (by decide) (fun K hK => ?_)
  refine goes_ Try.func41 (by kernel_rfl) rfl #[.slice none 0 0, .int .i64 a0_0] (by rfl) rfl rfl (by (try simp only [List.map_toArray, List.map_cons, List.map_nil]); first | done | rfl | (simp only [List.length_drop, List.length_take]; rfl)) ?_
  refine (variorumref01_Put.calls k _ _ ([] : List Int) a0_0 t129 _ ?side1 ?side2 A2.out).mono ?_
  (case side1 => exact Kd.C_nil _ _)
  (case side2 => exact Nat.le_refl _)
  rintro e w8 ⟨v130, rfl, ho0, hb⟩
  refine ⟨_, rfl, ?_⟩
  have n0_ := Aside0.mk (Kd.R_lower ho0 (below_size (by repeat (first | (with_reducible first | exact HB.out | apply below_alloc | apply pw_below_drewN | apply below_drew1 | refine below_set ?_ GE128.out) | exact HB.out))))
  have n1_ := Aside0.mk (blk_below (g := gb128) (o := .cells #[.int .i64 a0_0, .int .i64 a0_1, .int .i64 a0_2, .string a0_3] 23 (0, 0)) (by (with_reducible repeat (first | refine blk_drewN ?_ _ | refine blk_drew ?_ | refine blk_alloc ?_ _)); exact BK128.out) hb)
  have n2_ := Aside0.mk (below_step (by repeat (first | (with_reducible first | exact HB.out | apply below_alloc | apply pw_below_drewN | apply below_drew1 | refine below_set ?_ GE128.out) | exact HB.out)) hb)
  clear BK128
  clear HB
  have HO131 := n0_
  have BK128 := n1_
  have HB := n2_
  clear n0_ n1_ n2_
  (try clear hb)
  (try clear hb2)
  (try clear hk)
  (try clear hi)
  (try clear ho0)
  obtain ⟨Ao9, co9, eo9⟩ := Kd.R_slice HO131.out
  (first | subst eo9 | (injection eo9 with f1_ f2_ f3_; have f4_ := f1_.symm; have f5_ := f3_.symm; clear f1_ f2_ f3_; subst f4_; subst f5_))
  refine hK.out _ _ ⟨(blk_cell BK128.out 0).trans rfl, (blk_cell BK128.out 1).trans rfl, (blk_cell BK128.out 2).trans rfl, (blk_cell BK128.out 3).trans rfl⟩ (fun hHeld => ?_)
  clear hK K
  refine norm_ (a' := ?_) ?_ ?_
  rotate_left
  · show Act.put _ (some 5) _ = _
    simp only [Act.put, List.setIfInBounds_toArray, List.set_cons_zero, List.set_cons_succ, i64_w, i32_w]
    rfl
  refine one_ (i := 5) (N := some 8) #[true, true, true, true, true, true, true, true, false, true, true, false, false] rfl rfl (one_of HT_.out (by kernel_rfl)) (by decide) (fun K hK => ?_)
  refine goes_ Try.func41 (by kernel_rfl) rfl #[.slice Ao9 t129.length co9, .int .i64 a0_1] (by rfl) rfl rfl (by (try simp only [List.map_toArray, List.map_cons, List.map_nil]); first | done | rfl | (simp only [List.length_drop, List.length_take]; rfl)) ?_
  with_reducible refine (variorumref01_Put.calls k _ _ t129 a0_1 t132 _ ?side1 ?side2 A3.out).mono ?_
  (case side1 => repeat (first | exact (Kd.R_reads' HO131.out).2.2 | (with_reducible refine Kd.C_alloc ?_ _) | (with_reducible refine Kd.C_drewN ?_ _) | (with_reducible refine Kd.C_drew ?_)))
  (case side2 => exact (Kd.R_reads' HO131.out).2.1)
  rintro e w10 ⟨v133, rfl, ho0, hb⟩
  refine ⟨_, rfl, ?_⟩
  have n0_ := Aside0.mk (Kd.R_elder' (by (with_reducible repeat (first | apply Kd.R_alloc | apply Kd.R_drewN | apply Kd.R_drew)); exact HO131.out) (Kd.R_base ho0) hb)
  have n1_ := Aside0.mk (Kd.R_lower (Kd.R_new' ho0 (Kd.R_lt (by (with_reducible repeat (first | apply Kd.R_alloc | apply Kd.R_drewN | apply Kd.R_drew)); exact HO131.out))) (below_size (by repeat (first | (with_reducible first | exact HB.out | apply below_alloc | apply pw_below_drewN | apply below_drew1 | refine below_set ?_ GE128.out) | exact HB.out))))
  have n2_ := Aside0.mk (blk_below (g := gb128) (o := .cells #[.int .i64 a0_0, .int .i64 a0_1, .int .i64 a0_2, .string a0_3] 23 (0, 0)) (by (with_reducible repeat (first | refine blk_drewN ?_ _ | refine blk_drew ?_ | refine blk_alloc ?_ _)); exact BK128.out) hb)
  have n3_ := Aside0.mk (below_step (by repeat (first | (with_reducible first | exact HB.out | apply below_alloc | apply pw_below_drewN | apply below_drew1 | refine below_set ?_ GE128.out) | exact HB.out)) hb)
  clear HO131
  clear BK128
  clear HB
  have HO131 := n0_
  have HO134 := n1_
  have BK128 := n2_
  have HB := n3_
  clear n0_ n1_ n2_ n3_
  (try clear hb)
  (try clear hb2)
  (try clear hk)
  (try clear hi)
  (try clear ho0)
  obtain ⟨Ao11, co11, eo11⟩ := Kd.R_slice HO134.out
  (first | subst eo11 | (injection eo11 with f1_ f2_ f3_; have f4_ := f1_.symm; have f5_ := f3_.symm; clear f1_ f2_ f3_; subst f4_; subst f5_))
  refine hK.out _ _ ⟨(blk_cell BK128.out 0).trans rfl, (blk_cell BK128.out 1).trans rfl, (blk_cell BK128.out 2).trans rfl, (blk_cell BK128.out 3).trans rfl⟩ (fun hHeld => ?_)
  clear hK K
  refine norm_ (a' := ?_) ?_ ?_
  rotate_left
  · show Act.put _ (some 8) _ = _
    simp only [Act.put, List.setIfInBounds_toArray, List.set_cons_zero, List.set_cons_succ, i64_w, i32_w]
    rfl
  refine one_ (i := 8) (N := some 11) #[true, true, true, true, true, true, true, true, true, true, true, false, false] rfl rfl (one_of HT_.out (by kernel_rfl)) (by decide) (fun K hK => ?_)
  refine goes_ Try.func41 (by kernel_rfl) rfl #[.slice Ao11 t132.length co11, .int .i64 a0_2] (by rfl) rfl rfl (by (try simp only [List.map_toArray, List.map_cons, List.map_nil]); first | done | rfl | (simp only [List.length_drop, List.length_take]; rfl)) ?_
  with_reducible refine (variorumref01_Put.calls k _ _ t132 a0_2 t135 _ ?side1 ?side2 A4.out).mono ?_
  (case side1 => repeat (first | exact (Kd.R_reads' HO134.out).2.2 | (with_reducible refine Kd.C_alloc ?_ _) | (with_reducible refine Kd.C_drewN ?_ _) | (with_reducible refine Kd.C_drew ?_)))
  (case side2 => exact (Kd.R_reads' HO134.out).2.1)
  rintro e w12 ⟨v136, rfl, ho0, hb⟩
  refine ⟨_, rfl, ?_⟩
  have n0_ := Aside0.mk (Kd.R_elder' (by (with_reducible repeat (first | apply Kd.R_alloc | apply Kd.R_drewN | apply Kd.R_drew)); exact HO131.out) (Kd.R_base ho0) hb)
  have n1_ := Aside0.mk (Kd.R_elder' (by (with_reducible repeat (first | apply Kd.R_alloc | apply Kd.R_drewN | apply Kd.R_drew)); exact HO134.out) (Kd.R_base ho0) hb)
  have n2_ := Aside0.mk (Kd.R_lower (Kd.R_new' (Kd.R_new' ho0 (Kd.R_lt (by (with_reducible repeat (first | apply Kd.R_alloc | apply Kd.R_drewN | apply Kd.R_drew)); exact HO131.out))) (Kd.R_lt (by (with_reducible repeat (first | apply Kd.R_alloc | apply Kd.R_drewN | apply Kd.R_drew)); exact HO134.out))) (below_size (by repeat (first | (with_reducible first | exact HB.out | apply below_alloc | apply pw_below_drewN | apply below_drew1 | refine below_set ?_ GE128.out) | exact HB.out))))
  have n3_ := Aside0.mk (blk_below (g := gb128) (o := .cells #[.int .i64 a0_0, .int .i64 a0_1, .int .i64 a0_2, .string a0_3] 23 (0, 0)) (by (with_reducible repeat (first | refine blk_drewN ?_ _ | refine blk_drew ?_ | refine blk_alloc ?_ _)); exact BK128.out) hb)
  have n4_ := Aside0.mk (below_step (by repeat (first | (with_reducible first | exact HB.out | apply below_alloc | apply pw_below_drewN | apply below_drew1 | refine below_set ?_ GE128.out) | exact HB.out)) hb)
  clear HO131
  clear HO134
  clear BK128
  clear HB
  have HO131 := n0_
  have HO134 := n1_
  have HO137 := n2_
  have BK128 := n3_
  have HB := n4_
  clear n0_ n1_ n2_ n3_ n4_
  (try clear hb)
  (try clear hb2)
  (try clear hk)
  (try clear hi)
  (try clear ho0)
  obtain ⟨Ao13, co13, eo13⟩ := Kd.R_slice HO137.out
  (first | subst eo13 | (injection eo13 with f1_ f2_ f3_; have f4_ := f1_.symm; have f5_ := f3_.symm; clear f1_ f2_ f3_; subst f4_; subst f5_))
  refine hK.out _ _ ⟨(blk_cell BK128.out 0).trans rfl, (blk_cell BK128.out 1).trans rfl, (blk_cell BK128.out 2).trans rfl, (blk_cell BK128.out 3).trans rfl⟩ (fun hHeld => ?_)
  clear hK K
  refine norm_ (a' := ?_) ?_ ?_
  rotate_left
  · show Act.put _ (some 11) _ = _
    simp only [Act.put, List.setIfInBounds_toArray, List.set_cons_zero, List.set_cons_succ, i64_w, i32_w]
    rfl
  refine one_ (i := 11) (N := some 14) #[true, true, true, true, true, true, true, true, true, true, true, true, false] rfl rfl (one_of HT_.out (by kernel_rfl)) (by decide) (fun K hK => ?_)
  refine goes_ Try.func65 (by kernel_rfl) rfl #[.slice Ao13 t135.length co13, .string a0_3] (by rfl) rfl rfl (by (try simp only [List.map_toArray, List.map_cons, List.map_nil]); first | done | rfl | (simp only [List.length_drop, List.length_take]; rfl)) ?_
  with_reducible refine (variorumref01_PutText.calls k _ _ t135 a0_3 t138 _ ?side1 ?side2 A5.out).mono ?_
  (case side1 => repeat (first | exact (Kd.R_reads' HO137.out).2.2 | (with_reducible refine Kd.C_alloc ?_ _) | (with_reducible refine Kd.C_drewN ?_ _) | (with_reducible refine Kd.C_drew ?_)))
  (case side2 => exact (Kd.R_reads' HO137.out).2.1)
  rintro e w14 ⟨v139, rfl, ho0, hb⟩
  refine ⟨_, rfl, ?_⟩
  have n0_ := Aside0.mk (Kd.R_elder' (by (with_reducible repeat (first | apply Kd.R_alloc | apply Kd.R_drewN | apply Kd.R_drew)); exact HO131.out) (Kd.R_base ho0) hb)
  have n1_ := Aside0.mk (Kd.R_elder' (by (with_reducible repeat (first | apply Kd.R_alloc | apply Kd.R_drewN | apply Kd.R_drew)); exact HO134.out) (Kd.R_base ho0) hb)
  have n2_ := Aside0.mk (Kd.R_elder' (by (with_reducible repeat (first | apply Kd.R_alloc | apply Kd.R_drewN | apply Kd.R_drew)); exact HO137.out) (Kd.R_base ho0) hb)
  have n3_ := Aside0.mk (Kd.R_lower (Kd.R_new' (Kd.R_new' (Kd.R_new' ho0 (Kd.R_lt (by (with_reducible repeat (first | apply Kd.R_alloc | apply Kd.R_drewN | apply Kd.R_drew)); exact HO131.out))) (Kd.R_lt (by (with_reducible repeat (first | apply Kd.R_alloc | apply Kd.R_drewN | apply Kd.R_drew)); exact HO134.out))) (Kd.R_lt (by (with_reducible repeat (first | apply Kd.R_alloc | apply Kd.R_drewN | apply Kd.R_drew)); exact HO137.out))) (below_size (by repeat (first | (with_reducible first | exact HB.out | apply below_alloc | apply pw_below_drewN | apply below_drew1 | refine below_set ?_ GE128.out) | exact HB.out))))
  have n4_ := Aside0.mk (blk_below (g := gb128) (o := .cells #[.int .i64 a0_0, .int .i64 a0_1, .int .i64 a0_2, .string a0_3] 23 (0, 0)) (by (with_reducible repeat (first | refine blk_drewN ?_ _ | refine blk_drew ?_ | refine blk_alloc ?_ _)); exact BK128.out) hb)
  have n5_ := Aside0.mk (below_step (by repeat (first | (with_reducible first | exact HB.out | apply below_alloc | apply pw_below_drewN | apply below_drew1 | refine below_set ?_ GE128.out) | exact HB.out)) hb)
  clear HO131
  clear HO134
  clear HO137
  clear BK128
  clear HB
  have HO131 := n0_
  have HO134 := n1_
  have HO137 := n2_
  have HO140 := n3_
  have BK128 := n4_
  have HB := n5_
  clear n0_ n1_ n2_ n3_ n4_ n5_
  (try clear hb)
  (try clear hb2)
  (try clear hk)
  (try clear hi)
  (try clear ho0)
  refine hK.out _ _ ⟨(blk_cell BK128.out 0).trans rfl, (blk_cell BK128.out 1).trans rfl, (blk_cell BK128.out 2).trans rfl, (blk_cell BK128.out 3).trans rfl⟩ (fun hHeld => ?_)
  clear hK K
  refine norm_ (a' := ?_) ?_ ?_
  rotate_left
  · show Act.put _ (some 14) _ = _
    simp only [Act.put, List.setIfInBounds_toArray, List.set_cons_zero, List.set_cons_succ, i64_w, i32_w]
    rfl
  refine pure_ (i := 12) (N := some 2) (v := ?_) (a' := ?_) #[true, true, true, true, true, true, true, true, true, true, true, true, true] rfl rfl (any_of HT_.out (by kernel_rfl)) (fun _ _ _ h => h) (Or.inl ⟨by rfl, ?_⟩) ?_ ?_
  rotate_left
  · intro w'
    go_simp
    with_reducible rfl
  rotate_left
  · simp only [Act.put, List.setIfInBounds_toArray, List.set_cons_zero, List.set_cons_succ, i64_w, i32_w]
    rfl
  refine done_ (done_of HT_.out (by kernel_rfl)) ?_
  try go_wp2
  go_ret
  exact ⟨_, by first | rfl | (simp [errW_none, errW_some] <;> rfl) | (simp [*, errW_none, errW_some] <;> rfl), by (with_reducible repeat (first | apply Kd.R_alloc | apply Kd.R_drewN | apply Kd.R_drew)); exact Kd.R_mono HO140.out (fun _ hk => trivial), by repeat (first | (with_reducible first | exact HB.out | apply below_alloc | apply pw_below_drewN | apply below_drew1 | refine below_set ?_ GE128.out) | exact HB.out)⟩

end Go.Proofs.Ytedfcjcnhgomoaa.P
end
-- MERGED YtedfcjcnhgomoaaPvariorumref12Put
section
-- Written by wip/myprint.py of this session, over the kit's print.py: a Lean function for each Go function, and the proof that the code comes to it.
namespace Go.Proofs.Ytedfcjcnhgomoaa.P
open Go.RowKit Go.Proofs.YtedfcjcnhgomoaaW.PrintWords Go.Proofs.YtedfcjcnhgomoaaW.PrintLast Go.Proofs.YtedfcjcnhgomoaaW.PrintMore
attribute [local go_sem] max2_int min2_int max_two min_two max_three min_three max_four min_four   -- for this text's walks alone
set_option linter.unusedVariables false
set_option linter.unusedSimpArgs false

/-! ### variorumref12_Put: function 14 -/
def variorumref12_Put.f (k : Nat) (a0_0 : Int) (a0_1 : Int) (a0_2 : Int) (a0_3 : ByteArray) : Option (List Int × Int) := (variorumref12_Good.f a0_0 a0_1 a0_2 a0_3).bind fun t154 => (if t154 = true then ((variorumref12_body.f k a0_0 a0_1 a0_2 a0_3).bind fun t155 => ((variorumref01_Put.f k ([] : List Int) (t155.length : Int)).bind fun t158 => ((variorumref02_Seal.f k t155).bind fun t161 => (if t158.length + t161.length < 140737488355328 then (some ((t158 ++ t161), 0)) else (none))))) else (some (([] : List Int), 2)))
theorem variorumref12_Put.mono : ∀ a0 a1 a2 a3 k, LeO (variorumref12_Put.f k a0 a1 a2 a3) (variorumref12_Put.f (k + 1) a0 a1 a2 a3) := by
  intro a0 a1 a2 a3 k
  unfold variorumref12_Put.f
  repeat' first
      | (with_reducible exact variorumref01_Put.mono _ _ _)
      | (with_reducible exact variorumref02_Seal.mono _ _)
      | (with_reducible exact variorumref12_body.mono _ _ _ _ _)
      | (with_reducible exact LeO.refl _)
      | (with_reducible exact LeO.none _)
      | (with_reducible refine LeO.ite ?_ ?_)
      | (with_reducible refine LeO.bind ?_ (fun _ => ?_))
      | exact variorumref01_Put.mono _ _ _
      | exact variorumref02_Seal.mono _ _
      | exact variorumref12_body.mono _ _ _ _ _
      | exact LeO.none _
      | refine LeO.ite ?_ ?_
      | refine LeO.bind ?_ (fun _ => ?_)
set_option maxHeartbeats 8000000 in
set_option maxRecDepth 100000 in
theorem variorumref12_Put.calls (k : Nat) (a0_0 : Int) (a0_1 : Int) (a0_2 : Int) (a0_3 : ByteArray) (r1 : List Int) (r2 : Int) (w : World) (h : variorumref12_Put.f k a0_0 a0_1 a0_2 a0_3 = some (r1, r2)) :
    Calls Try.prog 14 #[.agg #[.int .i64 a0_0, .int .i64 a0_1, .int .i64 a0_2, .string a0_3]] w fun e w' => ∃ v0_ : Value, e = .returned (.tuple #[v0_, .int .i64 r2]) ∧ Kd.R (Kd.int .u8) 5 w' w.heap.size (fun _ => True) v0_ r1 ∧ Below w.heap.size w w' := by
  have hu23 := Try.underlying23
  have HB := Aside0.mk (Below.refl w.heap.size w)
  have H : ((variorumref12_Good.f a0_0 a0_1 a0_2 a0_3).bind fun t154 => (if t154 = true then ((variorumref12_body.f k a0_0 a0_1 a0_2 a0_3).bind fun t155 => ((variorumref01_Put.f k ([] : List Int) (t155.length : Int)).bind fun t158 => ((variorumref02_Seal.f k t155).bind fun t161 => (if t158.length + t161.length < 140737488355328 then (some ((t158 ++ t161), 0)) else (none))))) else (some (([] : List Int), 2)))) = some (r1, r2) := h
  clear h
  replace H := Option.bind_eq_some_iff.mp H
  obtain ⟨t154, A20, H⟩ := H
  replace H : (if t154 = true then ((variorumref12_body.f k a0_0 a0_1 a0_2 a0_3).bind fun t155 => ((variorumref01_Put.f k ([] : List Int) (t155.length : Int)).bind fun t158 => ((variorumref02_Seal.f k t155).bind fun t161 => (if t158.length + t161.length < 140737488355328 then (some ((t158 ++ t161), 0)) else (none))))) else (some (([] : List Int), 2))) = some (r1, r2) := H
  have A2 := Aside0.mk A20
  clear A20
  by_cases c3 : t154 = true
  · subst c3
    have H1 : ((variorumref12_body.f k a0_0 a0_1 a0_2 a0_3).bind fun t155 => ((variorumref01_Put.f k ([] : List Int) (t155.length : Int)).bind fun t158 => ((variorumref02_Seal.f k t155).bind fun t161 => (if t158.length + t161.length < 140737488355328 then (some ((t158 ++ t161), 0)) else (none))))) = some (r1, r2) := by rw [if_pos rfl] at H; exact H
    clear H
    have H := H1
    clear H1
    replace H := Option.bind_eq_some_iff.mp H
    obtain ⟨t155, A40, H⟩ := H
    replace H : ((variorumref01_Put.f k ([] : List Int) (t155.length : Int)).bind fun t158 => ((variorumref02_Seal.f k t155).bind fun t161 => (if t158.length + t161.length < 140737488355328 then (some ((t158 ++ t161), 0)) else (none)))) = some (r1, r2) := H
    have A4 := Aside0.mk A40
    clear A40
    replace H := Option.bind_eq_some_iff.mp H
    obtain ⟨t158, A50, H⟩ := H
    replace H : ((variorumref02_Seal.f k t155).bind fun t161 => (if t158.length + t161.length < 140737488355328 then (some ((t158 ++ t161), 0)) else (none))) = some (r1, r2) := H
    have A5 := Aside0.mk A50
    clear A50
    replace H := Option.bind_eq_some_iff.mp H
    obtain ⟨t161, A60, H⟩ := H
    replace H : (if t158.length + t161.length < 140737488355328 then (some ((t158 ++ t161), 0)) else (none)) = some (r1, r2) := H
    have A6 := Aside0.mk A60
    clear A60
    by_cases c7 : t158.length + t161.length < 140737488355328
    · rw [if_pos c7] at H
      have LMc7 := Aside0.mk c7
      clear c7
      obtain ⟨y164, hy164⟩ : ∃ y_ : List Int, y_ = (t158 ++ t161) := ⟨_, rfl⟩
      replace H : (some (y164, 0)) = some (r1, r2) := by first | (rw [hy164]; with_reducible exact H) | (have H2_ := (Option.bind_some _ _).symm.trans H; rw [hy164]; with_reducible exact H2_) | (have H2_ := (Option.bind_some _ _).symm.trans H; with_reducible exact H2_) | with_reducible exact H | (rw [hy164]; exact H) | exact H
      have Ny164 := Aside0.mk hy164
      clear hy164
      simp only [Option.some.injEq, Prod.mk.injEq] at H
      obtain ⟨rfl, rfl⟩ := H
      go_enter Try.func14, Try.ntmps14
      go_wp2_with (first | ((with_reducible refine gate_dst (N := 1) rfl ?_); refine box_event ?hg (N := 1) ?hd (cs := #[.int .i64 a0_0, .int .i64 a0_1, .int .i64 a0_2, .string a0_3]) (t := 23) ?hr ?_; (case hd => rfl); (case hg => rfl); (case hr => first | (go_simp; done) | (go_simp; rfl)); intro gb153 hg w8 hbox hb; have n0_ := Aside0.mk (below_step (by repeat (first | (with_reducible first | exact HB.out | apply below_alloc | apply pw_below_drewN | apply below_drew1) | exact HB.out)) hb); have n1_ := Aside0.mk (hbox); have n2_ := Aside0.mk ((by rw [hg]; exact (below_size (by repeat (first | (with_reducible first | exact HB.out | apply below_alloc | apply pw_below_drewN | apply below_drew1) | exact HB.out))) : w.heap.size ≤ gb153)); have n3_ := Aside0.mk ((by rw [hg]; exact (below_size (by repeat (first | (with_reducible first | exact HB.out | apply below_alloc | apply pw_below_drewN | apply below_drew1) | exact HB.out))) : w.heap.size ≤ gb153)); clear HB; have HB := n0_; have BK153 := n1_; have GW153 := n2_; have GE153 := n3_; clear n0_ n1_ n2_ n3_; clear hb hbox hg; have hcz9_0 : w8.cell? ⟨gb153, 0, none⟩ = some (.int .i64 a0_0) := (blk_cell BK153.out 0).trans rfl; have hcz9_1 : w8.cell? ⟨gb153, 1, none⟩ = some (.int .i64 a0_1) := (blk_cell BK153.out 1).trans rfl; have hcz9_2 : w8.cell? ⟨gb153, 2, none⟩ = some (.int .i64 a0_2) := (blk_cell BK153.out 2).trans rfl; have hcz9_3 : w8.cell? ⟨gb153, 3, none⟩ = some (.string a0_3) := (blk_cell BK153.out 3).trans rfl; have hfz9_0 := blk_frozen BK153.out 0; have hfz9_1 := blk_frozen BK153.out 1; have hfz9_2 := blk_frozen BK153.out 2; have hfz9_3 := blk_frozen BK153.out 3) | ((with_reducible refine gate_callee (f := 16) rfl ?_); refine goesL_ (some 6) rfl rfl Try.func16 (by kernel_rfl) rfl #[.agg #[.int .i64 a0_0, .int .i64 a0_1, .int .i64 a0_2, .string a0_3]] rfl (by (try simp only [List.map_toArray, List.map_cons, List.map_nil]); first | done | rfl | (simp only [List.length_drop, List.length_take]; rfl)) ?_; (with_reducible refine (variorumref12_Good.calls a0_0 a0_1 a0_2 a0_3 true _ A2.out).mono ?_); rintro e w10 ⟨rfl, hb⟩; refine ⟨_, rfl, ?_⟩; have n0_ := Aside0.mk (blk_below (g := gb153) (o := .cells #[.int .i64 a0_0, .int .i64 a0_1, .int .i64 a0_2, .string a0_3] 23 (0, 0)) (by (with_reducible repeat (first | refine blk_drewN ?_ _ | refine blk_drew ?_ | refine blk_alloc ?_ _)); exact BK153.out) hb); have n1_ := Aside0.mk (below_step (by repeat (first | (with_reducible first | exact HB.out | apply below_alloc | apply pw_below_drewN | apply below_drew1 | refine below_set ?_ GE153.out) | exact HB.out)) hb); clear BK153; clear HB; have BK153 := n0_; have HB := n1_; clear n0_ n1_; (try clear hb); (try clear hb2); (try clear hk); (try clear hi); have hcz11_0 : w10.cell? ⟨gb153, 0, none⟩ = some (.int .i64 a0_0) := (blk_cell BK153.out 0).trans rfl; have hcz11_1 : w10.cell? ⟨gb153, 1, none⟩ = some (.int .i64 a0_1) := (blk_cell BK153.out 1).trans rfl; have hcz11_2 : w10.cell? ⟨gb153, 2, none⟩ = some (.int .i64 a0_2) := (blk_cell BK153.out 2).trans rfl; have hcz11_3 : w10.cell? ⟨gb153, 3, none⟩ = some (.string a0_3) := (blk_cell BK153.out 3).trans rfl; have hfz11_0 := blk_frozen BK153.out 0; have hfz11_1 := blk_frozen BK153.out 1; have hfz11_2 := blk_frozen BK153.out 2; have hfz11_3 := blk_frozen BK153.out 3) | ((with_reducible refine gate_callee (f := 40) rfl ?_); refine goesL_ (some 9) rfl rfl Try.func40 (by kernel_rfl) rfl #[.agg #[.int .i64 a0_0, .int .i64 a0_1, .int .i64 a0_2, .string a0_3]] rfl (by (try simp only [List.map_toArray, List.map_cons, List.map_nil]); first | done | rfl | (simp only [List.length_drop, List.length_take]; rfl)) ?_; (with_reducible refine (variorumref12_body.calls k a0_0 a0_1 a0_2 a0_3 t155 _ A4.out).mono ?_); rintro e w12 ⟨v156, rfl, ho0, hb⟩; refine ⟨_, rfl, ?_⟩; have n0_ := Aside0.mk (Kd.R_lower ho0 (below_size (by repeat (first | (with_reducible first | exact HB.out | apply below_alloc | apply pw_below_drewN | apply below_drew1 | refine below_set ?_ GE153.out) | exact HB.out)))); have n1_ := Aside0.mk (blk_below (g := gb153) (o := .cells #[.int .i64 a0_0, .int .i64 a0_1, .int .i64 a0_2, .string a0_3] 23 (0, 0)) (by (with_reducible repeat (first | refine blk_drewN ?_ _ | refine blk_drew ?_ | refine blk_alloc ?_ _)); exact BK153.out) hb); have n2_ := Aside0.mk (below_step (by repeat (first | (with_reducible first | exact HB.out | apply below_alloc | apply pw_below_drewN | apply below_drew1 | refine below_set ?_ GE153.out) | exact HB.out)) hb); clear BK153; clear HB; have HO157 := n0_; have BK153 := n1_; have HB := n2_; clear n0_ n1_ n2_; (try clear hb); (try clear hb2); (try clear hk); (try clear hi); (try clear ho0); obtain ⟨Ao13, co13, eo13⟩ := Kd.R_slice HO157.out; subst eo13) | ((with_reducible refine gate_callee (f := 41) rfl ?_); refine goesL_ (some 12) rfl rfl Try.func41 (by kernel_rfl) rfl #[.slice none 0 0, .int .i64 (t155.length : Int)] rfl (by (try simp only [List.map_toArray, List.map_cons, List.map_nil]); first | done | rfl | (simp only [List.length_drop, List.length_take]; rfl)) ?_; (refine (variorumref01_Put.calls k _ _ ([] : List Int) (t155.length : Int) t158 _ ?side1 ?side2 A5.out).mono ?_); (case side1 => exact Kd.C_nil _ _); (case side2 => exact Nat.le_refl _); rintro e w14 ⟨v159, rfl, ho0, hb⟩; refine ⟨_, rfl, ?_⟩; have n0_ := Aside0.mk (Kd.R_elder' (by (with_reducible repeat (first | apply Kd.R_alloc | apply Kd.R_drewN | apply Kd.R_drew)); exact HO157.out) (Kd.R_base ho0) hb); have n1_ := Aside0.mk (Kd.R_lower (Kd.R_new' ho0 (Kd.R_lt (by (with_reducible repeat (first | apply Kd.R_alloc | apply Kd.R_drewN | apply Kd.R_drew)); exact HO157.out))) (below_size (by repeat (first | (with_reducible first | exact HB.out | apply below_alloc | apply pw_below_drewN | apply below_drew1 | refine below_set ?_ GE153.out) | exact HB.out)))); have n2_ := Aside0.mk (blk_below (g := gb153) (o := .cells #[.int .i64 a0_0, .int .i64 a0_1, .int .i64 a0_2, .string a0_3] 23 (0, 0)) (by (with_reducible repeat (first | refine blk_drewN ?_ _ | refine blk_drew ?_ | refine blk_alloc ?_ _)); exact BK153.out) hb); have n3_ := Aside0.mk (below_step (by repeat (first | (with_reducible first | exact HB.out | apply below_alloc | apply pw_below_drewN | apply below_drew1 | refine below_set ?_ GE153.out) | exact HB.out)) hb); clear HO157; clear BK153; clear HB; have HO157 := n0_; have HO160 := n1_; have BK153 := n2_; have HB := n3_; clear n0_ n1_ n2_ n3_; (try clear hb); (try clear hb2); (try clear hk); (try clear hi); (try clear ho0)) | ((with_reducible refine gate_callee (f := 42) rfl ?_); refine goesL_ (some 14) rfl rfl Try.func42 (by kernel_rfl) rfl #[.slice Ao13 t155.length co13] rfl (by (try simp only [List.map_toArray, List.map_cons, List.map_nil]); first | done | rfl | (simp only [List.length_drop, List.length_take]; rfl)) ?_; (with_reducible refine (variorumref02_Seal.calls k _ _ t155 t161 _ ?side1 ?side2 A6.out).mono ?_); (case side1 => repeat (first | exact (Kd.R_reads' HO157.out).2.2 | (with_reducible refine Kd.C_alloc ?_ _) | (with_reducible refine Kd.C_drewN ?_ _) | (with_reducible refine Kd.C_drew ?_))); (case side2 => exact (Kd.R_reads' HO157.out).2.1); rintro e w15 ⟨v162, rfl, ho0, hb⟩; refine ⟨_, rfl, ?_⟩; have n0_ := Aside0.mk (Kd.R_elder' (by (with_reducible repeat (first | apply Kd.R_alloc | apply Kd.R_drewN | apply Kd.R_drew)); exact HO157.out) (Kd.R_base ho0) hb); have n1_ := Aside0.mk (Kd.R_elder' (by (with_reducible repeat (first | apply Kd.R_alloc | apply Kd.R_drewN | apply Kd.R_drew)); exact HO160.out) (Kd.R_base ho0) hb); have n2_ := Aside0.mk (Kd.R_lower (Kd.R_new' (Kd.R_new' ho0 (Kd.R_lt (by (with_reducible repeat (first | apply Kd.R_alloc | apply Kd.R_drewN | apply Kd.R_drew)); exact HO157.out))) (Kd.R_lt (by (with_reducible repeat (first | apply Kd.R_alloc | apply Kd.R_drewN | apply Kd.R_drew)); exact HO160.out))) (below_size (by repeat (first | (with_reducible first | exact HB.out | apply below_alloc | apply pw_below_drewN | apply below_drew1 | refine below_set ?_ GE153.out) | exact HB.out)))); have n3_ := Aside0.mk (blk_below (g := gb153) (o := .cells #[.int .i64 a0_0, .int .i64 a0_1, .int .i64 a0_2, .string a0_3] 23 (0, 0)) (by (with_reducible repeat (first | refine blk_drewN ?_ _ | refine blk_drew ?_ | refine blk_alloc ?_ _)); exact BK153.out) hb); have n4_ := Aside0.mk (below_step (by repeat (first | (with_reducible first | exact HB.out | apply below_alloc | apply pw_below_drewN | apply below_drew1 | refine below_set ?_ GE153.out) | exact HB.out)) hb); clear HO157; clear HO160; clear BK153; clear HB; have HO157 := n0_; have HO160 := n1_; have HO163 := n2_; have BK153 := n3_; have HB := n4_; clear n0_ n1_ n2_ n3_ n4_; (try clear hb); (try clear hb2); (try clear hk); (try clear hi); (try clear ho0); obtain ⟨Ao17, co17, eo17⟩ := Kd.R_slice HO163.out; subst eo17) | ((with_reducible refine gate_builtin (b := .append) (xs := #[.tmp 12, .tmp 14]) rfl ?_); at_builtin; refine Kd.R_append_rows (Kd.int .u8) (w0 := w) w.heap.size rfl (.tmp 12) (.tmp 14) 25 5 (.int .u8 0) 1 rfl Try.underlying25 info5 rfl (by decide) (by omega) v159 t158 t161 _ _ _ (fun k_ => some k_ ≠ (.slice Ao13 t155.length co13 : Value).ownBlock ∧ some k_ ≠ (.slice Ao17 t161.length co17 : Value).ownBlock) (fun _ => False) rfl rfl ?aO ?aR (fun _ _ h => h) (fun _ h => h.elim) ?aF ?aB ?aS ?aL ?_; (case aR => repeat (first | exact (Kd.R_reads' HO163.out).2.2 | (with_reducible refine Kd.C_alloc ?_ _) | (with_reducible refine Kd.C_drewN ?_ _) | (with_reducible refine Kd.C_drew ?_))); (case aB => exact (by repeat (first | (with_reducible first | exact HB.out | apply below_alloc | apply pw_below_drewN | apply below_drew1 | refine below_set ?_ GE153.out) | exact HB.out))); (case aF => exact (fun k_ hk => ⟨Kd.fresh' (Kd.R_lt (by (with_reducible repeat (first | apply Kd.R_alloc | apply Kd.R_drewN | apply Kd.R_drew)); exact HO157.out)) k_ hk, Kd.fresh' (Kd.R_lt (by (with_reducible repeat (first | apply Kd.R_alloc | apply Kd.R_drewN | apply Kd.R_drew)); exact HO163.out)) k_ hk⟩)); (case aO => exact (by (with_reducible repeat (first | apply Kd.R_alloc | apply Kd.R_drewN | apply Kd.R_drew)); exact Kd.R_mono HO160.out (fun _ hk => ⟨hk.1.2, hk.2⟩))); (case aS => exact (below_size (by repeat (first | (with_reducible first | exact HB.out | apply below_alloc | apply pw_below_drewN | apply below_drew1 | refine below_set ?_ GE153.out) | exact HB.out)))); (case aL => have := LMc7.out; omega); intro v165 w16 ho hb hg hat; rw [← Ny164.out] at ho; have n0_ := Aside0.mk (blk_grown (g := gb153) (o := .cells #[.int .i64 a0_0, .int .i64 a0_1, .int .i64 a0_2, .string a0_3] 23 (0, 0)) (by (with_reducible repeat (first | refine blk_drewN ?_ _ | refine blk_drew ?_ | refine blk_alloc ?_ _)); exact BK153.out) hg (Kd.R_ne HO160.out BK153.out (by decide))); have n1_ := Aside0.mk (Kd.R_after (ok := (fun k_ => some k_ ≠ (.slice Ao17 t161.length co17 : Value).ownBlock)) (by (with_reducible repeat (first | apply Kd.R_alloc | apply Kd.R_drewN | apply Kd.R_drew)); exact Kd.R_mono HO157.out (fun _ hk => ⟨hk.2, hk.1.2⟩)) hg hat); have n2_ := Aside0.mk (Kd.R_after (ok := (fun k_ => some k_ ≠ (.slice Ao13 t155.length co13 : Value).ownBlock)) (by (with_reducible repeat (first | apply Kd.R_alloc | apply Kd.R_drewN | apply Kd.R_drew)); exact Kd.R_mono HO163.out (fun _ hk => ⟨hk.1.2, hk.2⟩)) hg hat); have n3_ := Aside0.mk (hb); have n4_ := Aside0.mk (ho); clear BK153; clear HO157; clear HO163; clear HB; clear HO160; have BK153 := n0_; have HO157 := n1_; have HO163 := n2_; have HB := n3_; have HO166 := n4_; clear n0_ n1_ n2_ n3_ n4_; clear ho hb hg hat))
      go_ret2
      exact ⟨_, by first | rfl | (simp [errW_none, errW_some] <;> rfl) | (simp [*, errW_none, errW_some] <;> rfl), by (with_reducible repeat (first | apply Kd.R_alloc | apply Kd.R_drewN | apply Kd.R_drew)); exact Kd.R_mono HO166.out (fun _ hk => trivial), by repeat (first | (with_reducible first | exact HB.out | apply below_alloc | apply pw_below_drewN | apply below_drew1 | refine below_set ?_ GE153.out) | exact HB.out)⟩
    · rw [if_neg c7] at H
      exact absurd H (by simp)
  · replace c3 := Bool.eq_false_iff.mpr c3
    subst c3
    have H1 : (some (([] : List Int), 2)) = some (r1, r2) := by rw [if_neg (show ¬ (false = true) by decide)] at H; exact H
    clear H
    have H := H1
    clear H1
    simp only [Option.some.injEq, Prod.mk.injEq] at H
    obtain ⟨rfl, rfl⟩ := H
    go_enter Try.func14, Try.ntmps14
    go_wp2_with (first | ((with_reducible refine gate_dst (N := 1) rfl ?_); refine box_event ?hg (N := 1) ?hd (cs := #[.int .i64 a0_0, .int .i64 a0_1, .int .i64 a0_2, .string a0_3]) (t := 23) ?hr ?_; (case hd => rfl); (case hg => rfl); (case hr => first | (go_simp; done) | (go_simp; rfl)); intro gb153 hg w18 hbox hb; have n0_ := Aside0.mk (below_step (by repeat (first | (with_reducible first | exact HB.out | apply below_alloc | apply pw_below_drewN | apply below_drew1) | exact HB.out)) hb); have n1_ := Aside0.mk (hbox); have n2_ := Aside0.mk ((by rw [hg]; exact (below_size (by repeat (first | (with_reducible first | exact HB.out | apply below_alloc | apply pw_below_drewN | apply below_drew1) | exact HB.out))) : w.heap.size ≤ gb153)); have n3_ := Aside0.mk ((by rw [hg]; exact (below_size (by repeat (first | (with_reducible first | exact HB.out | apply below_alloc | apply pw_below_drewN | apply below_drew1) | exact HB.out))) : w.heap.size ≤ gb153)); clear HB; have HB := n0_; have BK153 := n1_; have GW153 := n2_; have GE153 := n3_; clear n0_ n1_ n2_ n3_; clear hb hbox hg; have hcz19_0 : w18.cell? ⟨gb153, 0, none⟩ = some (.int .i64 a0_0) := (blk_cell BK153.out 0).trans rfl; have hcz19_1 : w18.cell? ⟨gb153, 1, none⟩ = some (.int .i64 a0_1) := (blk_cell BK153.out 1).trans rfl; have hcz19_2 : w18.cell? ⟨gb153, 2, none⟩ = some (.int .i64 a0_2) := (blk_cell BK153.out 2).trans rfl; have hcz19_3 : w18.cell? ⟨gb153, 3, none⟩ = some (.string a0_3) := (blk_cell BK153.out 3).trans rfl; have hfz19_0 := blk_frozen BK153.out 0; have hfz19_1 := blk_frozen BK153.out 1; have hfz19_2 := blk_frozen BK153.out 2; have hfz19_3 := blk_frozen BK153.out 3) | ((with_reducible refine gate_callee (f := 16) rfl ?_); refine goesL_ (some 6) rfl rfl Try.func16 (by kernel_rfl) rfl #[.agg #[.int .i64 a0_0, .int .i64 a0_1, .int .i64 a0_2, .string a0_3]] rfl (by (try simp only [List.map_toArray, List.map_cons, List.map_nil]); first | done | rfl | (simp only [List.length_drop, List.length_take]; rfl)) ?_; (with_reducible refine (variorumref12_Good.calls a0_0 a0_1 a0_2 a0_3 false _ A2.out).mono ?_); rintro e w20 ⟨rfl, hb⟩; refine ⟨_, rfl, ?_⟩; have n0_ := Aside0.mk (blk_below (g := gb153) (o := .cells #[.int .i64 a0_0, .int .i64 a0_1, .int .i64 a0_2, .string a0_3] 23 (0, 0)) (by (with_reducible repeat (first | refine blk_drewN ?_ _ | refine blk_drew ?_ | refine blk_alloc ?_ _)); exact BK153.out) hb); have n1_ := Aside0.mk (below_step (by repeat (first | (with_reducible first | exact HB.out | apply below_alloc | apply pw_below_drewN | apply below_drew1 | refine below_set ?_ GE153.out) | exact HB.out)) hb); clear BK153; clear HB; have BK153 := n0_; have HB := n1_; clear n0_ n1_; (try clear hb); (try clear hb2); (try clear hk); (try clear hi)))
    go_ret2
    exact ⟨_, by first | rfl | (simp [errW_none, errW_some] <;> rfl) | (simp [*, errW_none, errW_some] <;> rfl), by first | exact Kd.R_nil _ _ _ _ _ | exact Kd.N_nil _ _ _ _ _ | exact Kd.V_nil _ _ _ _ _ | exact Kd.Q_nil _ _ _ _ _ | exact Kd.S_nil _ _ _ _ _, by repeat (first | (with_reducible first | exact HB.out | apply below_alloc | apply pw_below_drewN | apply below_drew1 | refine below_set ?_ GE153.out) | exact HB.out)⟩

end Go.Proofs.Ytedfcjcnhgomoaa.P
end
-- MERGED YtedfcjcnhgomoaaFrameP
section
/- The walks of frames: whether a packet is right, its body, its frame; the reference's the same. -/
namespace Go.Proofs.Ytedfcjcnhgomoaa.FrameP
open Go.RowKit Go.Proofs.Ytedfcjcnhgomoaa.P Go.Proofs.YtedfcjcnhgomoaaW.PrintWords Go.Proofs.YtedfcjcnhgomoaaW.PrintLast Go.Proofs.YtedfcjcnhgomoaaW.PrintMore Go.Proofs.Ytedfcjcnhgomoaa.Own Go.Proofs.Ytedfcjcnhgomoaa.Vy
set_option linter.unusedSimpArgs false
set_option linter.unusedVariables false

/-- A packet. -/
structure Pk where
  e : Int
  s : Int
  a : Int
  d : ByteArray
def Pk.val (p : Pk) : Value := .agg #[.int .i64 p.e, .int .i64 p.s, .int .i64 p.a, .string p.d]
def numB (n : Int) : Bool := decide (0 ≤ n) && decide (n ≤ 4611686018427387904)
/-- Is it right? -/
def good (p : Pk) : Bool := numB p.e && numB p.s && numB p.a && decide (p.d.size ≤ 65536) && (decide (0 < p.s) || decide (p.d.size = 0))
def body (p : Pk) : List Int := putTL (putL (putL (putL [] p.e) p.s) p.a) (numsOf p.d)
def frame (p : Pk) : List Int := putL [] ((body p).length : Int) ++ Nice.sealL (body p)
theorem ok_body (p : Pk) : Byt.Ok (body p) := ok_putTL (ok_putL (ok_putL (ok_putL Byt.ok_nil _) _) _) (ok_numsOf _)
theorem body_len (p : Pk) : (body p).length ≤ p.d.size + 36 := by
  unfold body putTL
  have h1 := putL_len [] p.e
  have h2 := putL_len (putL [] p.e) p.s
  have h3 := putL_len (putL (putL [] p.e) p.s) p.a
  have h4 := putL_len (putL (putL (putL [] p.e) p.s) p.a) ((numsOf p.d).length : Int)
  rw [List.length_append, numsOf_length]
  simp only [List.length_nil] at h1
  rw [numsOf_length] at h4
  omega
theorem frame_len (p : Pk) : (frame p).length ≤ p.d.size + 49 := by
  unfold frame
  have h1 := body_len p
  have h2 := putL_len [] ((body p).length : Int)
  rw [List.length_append, Nice.sealL_length]
  simp only [List.length_nil] at h2
  omega
theorem ok_frame (p : Pk) : Byt.Ok (frame p) := Byt.ok_append (ok_putL Byt.ok_nil _) (Nice.sealL_ok (ok_body p))
theorem empty_iff (d : ByteArray) : (d.toList == ([] : List UInt8)) = decide (d.size = 0) := by
  rw [Bool.eq_iff_iff]
  simp only [beq_iff_eq, decide_eq_true_eq]
  rw [ByteArray.toList_eq]
  constructor
  · intro h
    show d.data.size = 0
    rw [← Array.length_toList, h]; rfl
  · intro h
    have : d.data.toList.length = 0 := by rw [Array.length_toList]; exact h
    exact List.eq_nil_of_length_eq_zero this

theorem numB_low {n : Int} (h : n < 0) : numB n = false := by unfold numB; rw [decide_eq_false (by omega)]; rfl
theorem numB_high {n : Int} (h : 4611686018427387904 < n) : numB n = false := by unfold numB; rw [decide_eq_false (p := n ≤ 4611686018427387904) (by omega), Bool.and_false]
theorem numB_ok {n : Int} (h : 0 ≤ n) (h2 : n ≤ 4611686018427387904) : numB n = true := by unfold numB; rw [decide_eq_true h, decide_eq_true h2]; rfl
set_option maxRecDepth 100000 in
theorem index3 (e s a : Int) (i : Int) (x : Int) (h : (#[Value.int .i64 e, .int .i64 s, .int .i64 a] : Array Value)[i.toNat]? = some (.int .i64 x)) (h0 : decide (0 ≤ i ∧ i < 3) = true) :
    ∀ W : World, (Instr.index 71 (.agg #[.int .i64 e, .int .i64 s, .int .i64 a]) (.int .i64 i)).run Try.prog W = .ok (.int .i64 x) W := by
  intro W
  have h1 := of_decide_eq_true h0
  have h2 : i = 0 ∨ i = 1 ∨ i = 2 := by omega
  rcases h2 with rfl | rfl | rfl
  · obtain rfl : e = x := by simpa using h
    rfl
  · obtain rfl : s = x := by simpa using h
    rfl
  · obtain rfl : a = x := by simpa using h
    rfl
set_option maxHeartbeats 2000000 in
set_option maxRecDepth 100000 in
theorem good_c (p : Pk) (w : World) : Calls Try.prog 15 #[p.val] w fun e w' => e = .returned (.bool (good p)) ∧ Below w.heap.size w w' := by
  obtain ⟨e, s, a, d⟩ := p
  unfold Pk.val
  simp only
  have HE := Aside0.mk (empty_iff d)
  have HGD := Aside0.mk (show good ⟨e, s, a, d⟩ = (numB e && numB s && numB a && decide (d.size ≤ 65536) && (decide (0 < s) || decide (d.size = 0))) from rfl)
  go_enter Try.func15, Try.ntmps15
  go_wp2_with fail
  have hx0 := index3 e s a 0 e rfl rfl
  have hx1 := index3 e s a 1 s rfl rfl
  have hx2 := index3 e s a 2 a rfl rfl
  have HB := Aside0.mk (below_alloc (Below.refl w.heap.size w) (.cells #[.int .i64 e, .int .i64 s, .int .i64 a, .string d] 23))
  go_loopw [12] (fun i wr => ∃ k : Nat, k ≤ 3 ∧ i = .int .i64 (k : Int) ∧ (0 < k → numB e = true) ∧ (1 < k → numB s = true) ∧ (2 < k → numB a = true) ∧ wr = w.alloc (.cells #[.int .i64 e, .int .i64 s, .int .i64 a, .string d] 23)) (fun i _ => 3 - (intOf i).toNat)
  case atStart => exact ⟨0, by omega, rfl, fun h => absurd h (by omega), fun h => absurd h (by omega), fun h => absurd h (by omega), rfl⟩
  case round =>
    obtain ⟨k, hk, rfl, hn0, hn1, hn2, rfl⟩ := hrel
    have h5 : k = 0 ∨ k = 1 ∨ k = 2 ∨ k = 3 := by omega
    clear hk
    rcases h5 with rfl | rfl | rfl | rfl
    · by_cases h1 : e < 0
      · go_wp2_with fail
        go_ret
        exact ⟨by rw [HGD.out, show numB e = false from numB_low h1]; simp, HB.out⟩
      · by_cases h2 : 4611686018427387904 < e
        · have h3 : decide (e < 0) = false := by simp; omega
          go_wp2_with fail
          go_ret
          exact ⟨by rw [HGD.out, show numB e = false from numB_high h2]; simp, HB.out⟩
        · have h3 : decide (e < 0) = false := by simp; omega
          have h4 : decide (4611686018427387904 < e) = false := by simp; omega
          have HN := Aside0.mk (show numB e = true from numB_ok (by omega) (by omega))
          go_wp2_with fail
          go_roundw
          case rel => exact ⟨1, by omega, rfl, fun _ => HN.out, fun h => absurd h (by omega), fun h => absurd h (by omega), by first | rfl | trivial⟩
          case measure => simp [intOf]
    · by_cases h1 : s < 0
      · go_wp2_with fail
        go_ret
        exact ⟨by rw [HGD.out, show numB s = false from numB_low h1]; simp, HB.out⟩
      · by_cases h2 : 4611686018427387904 < s
        · have h3 : decide (s < 0) = false := by simp; omega
          go_wp2_with fail
          go_ret
          exact ⟨by rw [HGD.out, show numB s = false from numB_high h2]; simp, HB.out⟩
        · have h3 : decide (s < 0) = false := by simp; omega
          have h4 : decide (4611686018427387904 < s) = false := by simp; omega
          have HN := Aside0.mk (show numB s = true from numB_ok (by omega) (by omega))
          go_wp2_with fail
          go_roundw
          case rel => exact ⟨2, by omega, rfl, fun _ => hn0 (by omega), fun _ => HN.out, fun h => absurd h (by omega), by first | rfl | trivial⟩
          case measure => simp [intOf]
    · by_cases h1 : a < 0
      · go_wp2_with fail
        go_ret
        exact ⟨by rw [HGD.out, show numB a = false from numB_low h1]; simp, HB.out⟩
      · by_cases h2 : 4611686018427387904 < a
        · have h3 : decide (a < 0) = false := by simp; omega
          go_wp2_with fail
          go_ret
          exact ⟨by rw [HGD.out, show numB a = false from numB_high h2]; simp, HB.out⟩
        · have h3 : decide (a < 0) = false := by simp; omega
          have h4 : decide (4611686018427387904 < a) = false := by simp; omega
          have HN := Aside0.mk (show numB a = true from numB_ok (by omega) (by omega))
          go_wp2_with fail
          go_roundw
          case rel => exact ⟨3, by omega, rfl, fun _ => hn0 (by omega), fun _ => hn1 (by omega), fun _ => HN.out, by first | rfl | trivial⟩
          case measure => simp [intOf]
    · have N0 := Aside0.mk (hn0 (by omega))
      have N1 := Aside0.mk (hn1 (by omega))
      have N2 := Aside0.mk (hn2 (by omega))
      clear hn0 hn1 hn2
      by_cases h1 : (d.size : Int) ≤ 65536
      · by_cases h2 : 0 < s
        · go_wp2_with fail
          go_ret
          exact ⟨by rw [HGD.out, N0.out, N1.out, N2.out, decide_eq_true (show d.size ≤ 65536 by omega), decide_eq_true h2]; rfl, HB.out⟩
        · have h3 : decide (0 < s) = false := by simp; omega
          by_cases h4 : d.size = 0
          · have h5 : (d.toList == ([] : List UInt8)) = true := by rw [HE.out]; simpa using h4
            have HZ := Aside0.mk (decide_eq_true h4)
            have h6 : d.toList = [] := by simpa using h5
            clear h4
            go_wp2_with fail
            go_ret
            exact ⟨by rw [HGD.out, N0.out, N1.out, N2.out, decide_eq_true (show d.size ≤ 65536 by omega), HZ.out]; simp; first | rfl | skip, HB.out⟩
          · have h5 : (d.toList == ([] : List UInt8)) = false := by rw [HE.out]; simpa using h4
            have HZ := Aside0.mk (decide_eq_false h4)
            have h6 : ¬ d.toList = [] := by simpa using h5
            clear h4
            go_wp2_with fail
            go_ret
            exact ⟨by rw [HGD.out, N0.out, N1.out, N2.out, decide_eq_true (show d.size ≤ 65536 by omega), HZ.out, h3]; simp; first | rfl | skip, HB.out⟩
      · have h2 : (65536 : Int) < (d.size : Int) := by omega
        have HZ := Aside0.mk (show decide (d.size ≤ 65536) = false by simp; omega)
        go_wp2_with fail
        go_ret
        exact ⟨by rw [HGD.out, HZ.out]; simp; first | rfl | skip, HB.out⟩

set_option maxHeartbeats 2000000 in
set_option maxRecDepth 100000 in
theorem body_c (p : Pk) (w : World) (hd : p.d.size ≤ 140737488000000) : Calls Try.prog 37 #[p.val] w fun e w' => ∃ v, e = .returned v ∧ Gr w.heap.size 5 w' v (body p) ∧ Below w.heap.size w w' := by
  obtain ⟨e, s, a, d⟩ := p
  unfold Pk.val body
  simp only at hd ⊢
  have HD := Aside0.mk hd
  have hx0 := index3 e s a 0 e rfl rfl
  have hx1 := index3 e s a 1 s rfl rfl
  have hx2 := index3 e s a 2 a rfl rfl
  have q1 := putL_len [] e
  have q2 := putL_len (putL [] e) s
  have q3 := putL_len (putL (putL [] e) s) a
  simp only [List.length_nil] at q1
  have Q1 := Aside0.mk q1
  have Q2 := Aside0.mk q2
  have Q3 := Aside0.mk q3
  clear hd q1 q2 q3
  go_enter Try.func37, Try.ntmps37
  go_wp2_with fail
  have hh := Own.heap_new w (.cells #[.int .i64 e, .int .i64 s, .int .i64 a, .string d] 23)
  have HH := Aside0.mk hh
  have hsz : w.heap.size < (w.alloc (.cells #[.int .i64 e, .int .i64 s, .int .i64 a, .string d] 23)).heap.size := by simp
  have HB := Aside0.mk (below_alloc (Below.refl w.heap.size w) (.cells #[.int .i64 e, .int .i64 s, .int .i64 a, .string d] 23))
  obtain ⟨w0, hw0⟩ : ∃ w0, w0 = w.alloc (.cells #[.int .i64 e, .int .i64 s, .int .i64 a, .string d] 23) := ⟨_, rfl⟩
  rw [← hw0] at HH HB hsz ⊢
  have HSZ := Aside0.mk hsz
  clear hw0 hh hsz
  go_loopw [3, 13] (fun bv i wr => ∃ (k : Nat) (l : List Int), k ≤ 3 ∧ i = .int .i64 (k : Int) ∧ Sl wr bv l ∧ (k = 0 → l = []) ∧ (k = 1 → l = putL [] e) ∧ (k = 2 → l = putL (putL [] e) s) ∧ (k = 3 → l = putL (putL (putL [] e) s) a) ∧ Below w.heap.size w wr ∧ wr.heap[w.heap.size]? = some (.cells #[.int .i64 e, .int .i64 s, .int .i64 a, .string d] 23 (0, 0))) (fun _ i _ => 3 - (intOf i).toNat)
  case atStart => exact ⟨0, [], by omega, rfl, Sl.nil _, fun _ => rfl, fun h => absurd h (by omega), fun h => absurd h (by omega), fun h => absurd h (by omega), HB.out, HH.out⟩
  case round =>
    clear HB HH
    obtain ⟨k, l, hk, rfl, hs, l0, l1, l2, l3, hb, hh⟩ := hrel
    have HS := Aside0.mk hs
    have HB := Aside0.mk hb
    have HH := Aside0.mk hh
    have h5 : k = 0 ∨ k = 1 ∨ k = 2 ∨ k = 3 := by omega
    clear hk hs hb hh
    rcases h5 with rfl | rfl | rfl | rfl
    · have L := Aside0.mk (l0 rfl)
      clear l0 l1 l2 l3
      go_wp2_with fail
      refine (VaryP.nPut _ l e _ HS.out (by rw [L.out]; have := Q1.out; have := Q2.out; have := Q3.out; (try simp only [List.length_nil]); omega)).mono ?_
      rintro e1 w1 ⟨v1, rfl, hg, hb⟩
      have HS1 := Aside0.mk hg.sl
      rw [L.out] at HS1
      have HB1 := Aside0.mk (HB.out.trans (hb.mono HB.out.size))
      have HH1 := Aside0.mk ((hb.block _ (Array.getElem?_eq_some_iff.1 HH.out).1).trans HH.out)
      clear hg hb
      go_wp2_with fail
      go_roundw
      case rel => exact ⟨1, _, by omega, rfl, HS1.out, fun h => absurd h (by omega), fun _ => rfl, fun h => absurd h (by omega), fun h => absurd h (by omega), HB1.out, HH1.out⟩
      case measure => simp [intOf]
    · have L := Aside0.mk (l1 rfl)
      clear l0 l1 l2 l3
      go_wp2_with fail
      refine (VaryP.nPut _ l s _ HS.out (by rw [L.out]; have := Q1.out; have := Q2.out; have := Q3.out; (try simp only [List.length_nil]); omega)).mono ?_
      rintro e1 w1 ⟨v1, rfl, hg, hb⟩
      have HS1 := Aside0.mk hg.sl
      rw [L.out] at HS1
      have HB1 := Aside0.mk (HB.out.trans (hb.mono HB.out.size))
      have HH1 := Aside0.mk ((hb.block _ (Array.getElem?_eq_some_iff.1 HH.out).1).trans HH.out)
      clear hg hb
      go_wp2_with fail
      go_roundw
      case rel => exact ⟨2, _, by omega, rfl, HS1.out, fun h => absurd h (by omega), fun h => absurd h (by omega), fun _ => rfl, fun h => absurd h (by omega), HB1.out, HH1.out⟩
      case measure => simp [intOf]
    · have L := Aside0.mk (l2 rfl)
      clear l0 l1 l2 l3
      go_wp2_with fail
      refine (VaryP.nPut _ l a _ HS.out (by rw [L.out]; have := Q1.out; have := Q2.out; have := Q3.out; (try simp only [List.length_nil]); omega)).mono ?_
      rintro e1 w1 ⟨v1, rfl, hg, hb⟩
      have HS1 := Aside0.mk hg.sl
      rw [L.out] at HS1
      have HB1 := Aside0.mk (HB.out.trans (hb.mono HB.out.size))
      have HH1 := Aside0.mk ((hb.block _ (Array.getElem?_eq_some_iff.1 HH.out).1).trans HH.out)
      clear hg hb
      go_wp2_with fail
      go_roundw
      case rel => exact ⟨3, _, by omega, rfl, HS1.out, fun h => absurd h (by omega), fun h => absurd h (by omega), fun h => absurd h (by omega), fun _ => rfl, HB1.out, HH1.out⟩
      case measure => simp [intOf]
    · have L := Aside0.mk (l3 rfl)
      clear l0 l1 l2 l3
      have hc3 : wr.cell? ⟨w.heap.size, 3, none⟩ = some (.string d) := by rw [cell_of_row wr _ 3 _ _ _ HH.out]; rfl
      go_wp2_with fail
      refine (VaryP.nPutText _ l d _ HS.out (by rw [L.out]; have := Q1.out; have := Q2.out; have := Q3.out; have := HD.out; omega)).mono ?_
      rintro e1 w1 ⟨v1, rfl, hg, hb⟩
      have HG1 := Aside0.mk (hg.mono HB.out.size)
      rw [L.out] at HG1
      have HB1 := Aside0.mk (HB.out.trans (hb.mono HB.out.size))
      clear hg hb
      go_wp2_with fail
      go_ret
      exact ⟨_, rfl, HG1.out, HB1.out⟩
set_option maxHeartbeats 2000000 in
set_option maxRecDepth 100000 in
theorem put_c (p : Pk) (w : World) : Calls Try.prog 13 #[p.val] w fun e w' => ∃ v, e = .returned (.tuple #[v, .int .i64 (if good p then 0 else 2)]) ∧ Gr w.heap.size 5 w' v (if good p then frame p else []) ∧ Below w.heap.size w w' := by
  have HL := Aside0.mk (frame_len p)
  have HBL := Aside0.mk (body_len p)
  have HPV := Aside0.mk (show p.val = .agg #[.int .i64 p.e, .int .i64 p.s, .int .i64 p.a, .string p.d] from rfl)
  have HGD := Aside0.mk (show good p = true → p.d.size ≤ 65536 by
    intro h
    unfold good at h
    simp only [Bool.and_eq_true, decide_eq_true_eq] at h
    exact h.1.2)
  have hg := good_c p
  have hbd := body_c p
  rw [HPV.out] at hg hbd ⊢
  have HG := Aside0.mk hg
  have HBD := Aside0.mk hbd
  have HF := Aside0.mk (show frame p = putL [] ((body p).length : Int) ++ Nice.sealL (body p) from rfl)
  clear hg hbd HPV
  cases hgp : good p with
  | false =>
    rw [hgp] at HG
    clear hgp
    go_enter Try.func13, Try.ntmps13
    go_wp2_with fail
    refine (HG.out _).mono ?_
    rintro e w1 ⟨rfl, hb⟩
    have HB1 := Aside0.mk ((below_alloc (Below.refl w.heap.size w) _).trans (hb.mono (by simp)))
    clear hb
    go_wp2_with fail
    go_ret2
    exact ⟨_, rfl, Gr.nil _ _ _, HB1.out⟩
  | true =>
    rw [hgp] at HG
    have hd := HGD.out hgp
    clear hgp
    have HD := Aside0.mk hd
    have hbl : ((body p).length : Int) ≤ 65572 := by have := HBL.out; omega
    clear hd
    go_enter Try.func13, Try.ntmps13
    go_wp2_with fail
    obtain ⟨w0, hw0⟩ : ∃ w0, w0 = w.alloc (.cells #[.int .i64 p.e, .int .i64 p.s, .int .i64 p.a, .string p.d] 23) := ⟨_, rfl⟩
    have HB0 := Aside0.mk (show Below w.heap.size w w0 by rw [hw0]; exact below_alloc (Below.refl _ _) _)
    have HH0 := Aside0.mk (show w0.heap[w.heap.size]? = some (.cells #[.int .i64 p.e, .int .i64 p.s, .int .i64 p.a, .string p.d] 23 (0, 0)) by rw [hw0]; exact Own.heap_new _ _)
    rw [← hw0]
    clear hw0
    refine (HG.out _).mono ?_
    rintro e w1 ⟨rfl, hb⟩
    have HB1 := Aside0.mk (HB0.out.trans (hb.mono HB0.out.size))
    have hh1 := (hb.block _ (Array.getElem?_eq_some_iff.1 HH0.out).1).trans HH0.out
    have c0 : w1.cell? ⟨w.heap.size, 0, none⟩ = some (.int .i64 p.e) := by rw [cell_of_row w1 _ 0 _ _ _ hh1]; rfl
    have c1 : w1.cell? ⟨w.heap.size, 1, none⟩ = some (.int .i64 p.s) := by rw [cell_of_row w1 _ 1 _ _ _ hh1]; rfl
    have c2 : w1.cell? ⟨w.heap.size, 2, none⟩ = some (.int .i64 p.a) := by rw [cell_of_row w1 _ 2 _ _ _ hh1]; rfl
    have c3 : w1.cell? ⟨w.heap.size, 3, none⟩ = some (.string p.d) := by rw [cell_of_row w1 _ 3 _ _ _ hh1]; rfl
    clear hh1
    clear hb HB0 HH0
    go_wp2_with fail
    refine (HBD.out _ (by have := HD.out; omega)).mono ?_
    rintro e w2 ⟨v2, rfl, hg2, hb2⟩
    have hs2 := hg2.sl
    obtain ⟨A2, cc2, rfl, hc2, hC2⟩ := hs2
    have HS2 := Aside0.mk (Sl.mk hC2 hc2)
    have HB2 := Aside0.mk (HB1.out.trans (hb2.mono HB1.out.size))
    clear hg2 hb2 hC2 HB1 c0 c1 c2 c3
    go_wp2_with fail
    refine (VaryP.nPut _ [] ((body p).length : Int) _ (Sl.nil _) (by decide)).mono ?_
    rintro e w3 ⟨v3, rfl, hg3, hb3⟩
    have HG3 := Aside0.mk (hg3.mono HB2.out.size)
    have HS3 := Aside0.mk (HS2.out.below hb3)
    have HB3 := Aside0.mk (HB2.out.trans (hb3.mono HB2.out.size))
    clear hg3 hb3 HS2 HB2
    go_wp2_with fail
    refine (Nice.nSeal _ (body p) _ HS3.out (by have := HBL.out; have := HD.out; omega)).mono ?_
    rintro e w4 ⟨v4, rfl, hs4, hb4⟩
    have HG4 := Aside0.mk (HG3.out.below hb4)
    have HS4 := Aside0.mk hs4
    have HB4 := Aside0.mk (HB3.out.trans (hb4.mono HB3.out.size))
    clear hs4 hb4 HG3 HS3 HB3
    go_wp2_with (at_builtin; refine wpList_gr rfl rfl Try.underlying25 info5 HB4.out.size rfl HG4.out rfl HS4.out ?b1 ?_)
    case b1 => have := HL.out; rw [HF.out, List.length_append] at this; have := HD.out; omega
    rw [← HF.out]
    intro v5 w5 hg5 hb5
    have HG5 := Aside0.mk hg5
    have HB5 := Aside0.mk (HB4.out.trans hb5)
    clear hg5 hb5 HG4 HS4 HB4
    go_wp2_with fail
    go_ret2
    exact ⟨_, rfl, HG5.out, HB5.out⟩

/-! The reference's. -/
theorem num_f (n : Int) : variorumref12_num.f n = some (numB n) := by
  unfold variorumref12_num.f numB
  by_cases h : n ≥ 0
  · rw [if_pos h, decide_eq_true (show 0 ≤ n from h), Bool.true_and]
  · rw [if_neg h, decide_eq_false (show ¬ 0 ≤ n from h), Bool.false_and]
theorem rgood_f (p : Pk) : variorumref12_Good.f p.e p.s p.a p.d = some (good p) := by
  unfold variorumref12_Good.f good
  rw [num_f, Option.bind_some]
  cases numB p.e with
  | false => simp
  | true =>
    rw [if_pos rfl, num_f, Option.bind_some]
    cases numB p.s with
    | false => simp
    | true =>
      rw [if_pos rfl, num_f, Option.bind_some]
      cases numB p.a with
      | false => simp
      | true =>
        rw [if_pos rfl]
        by_cases h : (p.d.size : Int) ≤ 65536
        · rw [if_pos h, decide_eq_true (show p.d.size ≤ 65536 by omega)]
          by_cases h2 : p.s > 0
          · rw [if_pos h2, decide_eq_true (show 0 < p.s from h2)]; rfl
          · rw [if_neg h2, decide_eq_false (show ¬ 0 < p.s from h2), empty_iff]; simp
        · rw [if_neg h, decide_eq_false (show ¬ p.d.size ≤ 65536 by omega)]; simp
theorem rbody_f (p : Pk) (k : Nat) (hk : 10 ≤ k) (hd : p.d.size ≤ 140737488000000) : variorumref12_body.f k p.e p.s p.a p.d = some (body p) := by
  have q1 := putL_len [] p.e
  have q2 := putL_len (putL [] p.e) p.s
  have q3 := putL_len (putL (putL [] p.e) p.s) p.a
  simp only [List.length_nil] at q1
  unfold variorumref12_body.f
  rw [VaryRef.put_f _ _ _ hk (by simp), Option.bind_some, VaryRef.put_f _ _ _ hk (by omega), Option.bind_some, VaryRef.put_f _ _ _ hk (by omega), Option.bind_some, VaryRef.putT_f _ _ _ hk (by omega)]
  rfl
theorem rput_f (p : Pk) : ∃ k, variorumref12_Put.f k p.e p.s p.a p.d = some (if good p then frame p else [], if good p then 0 else 2) := by
  cases hg : good p with
  | false =>
    refine ⟨10, ?_⟩
    unfold variorumref12_Put.f
    rw [rgood_f, Option.bind_some, hg]; rfl
  | true =>
    have hd : p.d.size ≤ 65536 := by
      unfold good at hg
      simp only [Bool.and_eq_true, decide_eq_true_eq] at hg
      exact hg.1.2
    have hb := body_len p
    have q := putL_len [] ((body p).length : Int)
    simp only [List.length_nil] at q
    refine ⟨(body p).length + 10, ?_⟩
    unfold variorumref12_Put.f
    rw [rgood_f, Option.bind_some, hg, if_pos rfl, rbody_f p _ (by omega) (by omega), Option.bind_some, VaryRef.put_f _ _ _ (by omega) (by simp), Option.bind_some, RefSum.seal_f _ (by omega) _ (Nat.le_refl _), Option.bind_some]
    rw [if_pos (by rw [List.length_append]; have : (Crc.le4 (Crc.sum (body p))).length = 4 := rfl; omega)]
    rfl
theorem nRefGood (p : Pk) (w : World) : Calls Try.prog 16 #[p.val] w fun e w' => e = .returned (.bool (good p)) ∧ Below w.heap.size w w' :=
  variorumref12_Good.calls p.e p.s p.a p.d _ w (rgood_f p)
theorem nRefPut (p : Pk) (w : World) : Calls Try.prog 14 #[p.val] w fun e w' => ∃ v, e = .returned (.tuple #[v, .int .i64 (if good p then 0 else 2)]) ∧ Gr w.heap.size 5 w' v (if good p then frame p else []) ∧ Below w.heap.size w w' := by
  obtain ⟨k, hk⟩ := rput_f p
  exact (variorumref12_Put.calls k p.e p.s p.a p.d _ _ w hk).mono fun e w' ⟨v, he, hr, hb⟩ => ⟨v, he, Gr.of_R hr, hb⟩
end Go.Proofs.Ytedfcjcnhgomoaa.FrameP
end
-- MERGED YtedfcjcnhgomoaaVaryM
section
/- The walks of vary's reader's methods. -/
namespace Go.Proofs.Ytedfcjcnhgomoaa.VaryR
open Go.RowKit Go.Proofs.Ytedfcjcnhgomoaa.P Go.Proofs.YtedfcjcnhgomoaaW.PrintWords Go.Proofs.YtedfcjcnhgomoaaW.PrintLast Go.Proofs.YtedfcjcnhgomoaaW.PrintMore Go.Proofs.Ytedfcjcnhgomoaa.Own Go.Proofs.Ytedfcjcnhgomoaa.Vy

set_option maxHeartbeats 1000000 in
theorem num_read (g : Nat) (w : World) (v : Value) (l : List Int) (a : Nat) (h : RdAt g w v l a false) (hok : Byt.Ok l) :
    Calls Try.prog 85 #[.pointer (some ⟨g, 0, none⟩), .func (.func 86) #[] #[]] w (RdPost g v l a false (if (numL (l.drop a)).2 = 0 then (.int .i64 0) else (.int .i64 (numL (l.drop a)).1)) (numL (l.drop a)).2 w) := by
  have H := Aside0.mk h
  clear h
  by_cases hk : (numL (l.drop a)).2 = 0
  · have HK := Aside0.mk hk
    rw [if_pos hk]
    clear hk
    go_enter Try.func85, Try.ntmps85
    go_wp2_with fail
    refine (bad_c g _ v l a false H.out).mono ?_
    rintro e w' ⟨rfl, rfl⟩
    go_wp2_with fail
    refine (numFn_c g _ v l a H.out hok).mono ?_
    rintro e w' ⟨a', rfl, h1, h2, h3⟩
    have H1 := Aside0.mk h1
    have H2 := Aside0.mk h2
    have H3 := Aside0.mk h3
    rw [decide_eq_true HK.out] at h1
    have H4 := Aside0.mk h1
    clear h1 h2 h3
    go_wp2_with fail
    refine (bad_c g _ v l a' true H4.out).mono ?_
    rintro e w' ⟨rfl, rfl⟩
    go_wp2_with fail
    go_ret
    exact RdPost.mk H1.out H2.out H3.out
  · have HK := Aside0.mk hk
    rw [if_neg hk]
    clear hk
    go_enter Try.func85, Try.ntmps85
    go_wp2_with fail
    refine (bad_c g _ v l a false H.out).mono ?_
    rintro e w' ⟨rfl, rfl⟩
    go_wp2_with fail
    refine (numFn_c g _ v l a H.out hok).mono ?_
    rintro e w' ⟨a', rfl, h1, h2, h3⟩
    have H1 := Aside0.mk h1
    have H2 := Aside0.mk h2
    have H3 := Aside0.mk h3
    rw [decide_eq_false HK.out] at h1
    have H4 := Aside0.mk h1
    clear h1 h2 h3
    go_wp2_with fail
    refine (bad_c g _ v l a' false H4.out).mono ?_
    rintro e w' ⟨rfl, rfl⟩
    go_wp2_with fail
    go_ret
    exact RdPost.mk H1.out H2.out H3.out

set_option maxHeartbeats 1000000 in
theorem signed_read (g : Nat) (w : World) (v : Value) (l : List Int) (a : Nat) (h : RdAt g w v l a false) (hok : Byt.Ok l) :
    Calls Try.prog 85 #[.pointer (some ⟨g, 0, none⟩), .func (.func 112) #[] #[]] w (RdPost g v l a false (if (sgnL (l.drop a)).2 = 0 then (.int .i64 0) else (.int .i64 (sgnL (l.drop a)).1)) (sgnL (l.drop a)).2 w) := by
  have H := Aside0.mk h
  clear h
  by_cases hk : (sgnL (l.drop a)).2 = 0
  · have HK := Aside0.mk hk
    rw [if_pos hk]
    clear hk
    go_enter Try.func85, Try.ntmps85
    go_wp2_with fail
    refine (bad_c g _ v l a false H.out).mono ?_
    rintro e w' ⟨rfl, rfl⟩
    go_wp2_with fail
    refine (signed_c g _ v l a H.out hok).mono ?_
    rintro e w' ⟨a', rfl, h1, h2, h3⟩
    have H1 := Aside0.mk h1
    have H2 := Aside0.mk h2
    have H3 := Aside0.mk h3
    rw [decide_eq_true HK.out] at h1
    have H4 := Aside0.mk h1
    clear h1 h2 h3
    go_wp2_with fail
    refine (bad_c g _ v l a' true H4.out).mono ?_
    rintro e w' ⟨rfl, rfl⟩
    go_wp2_with fail
    go_ret
    exact RdPost.mk H1.out H2.out H3.out
  · have HK := Aside0.mk hk
    rw [if_neg hk]
    clear hk
    go_enter Try.func85, Try.ntmps85
    go_wp2_with fail
    refine (bad_c g _ v l a false H.out).mono ?_
    rintro e w' ⟨rfl, rfl⟩
    go_wp2_with fail
    refine (signed_c g _ v l a H.out hok).mono ?_
    rintro e w' ⟨a', rfl, h1, h2, h3⟩
    have H1 := Aside0.mk h1
    have H2 := Aside0.mk h2
    have H3 := Aside0.mk h3
    rw [decide_eq_false HK.out] at h1
    have H4 := Aside0.mk h1
    clear h1 h2 h3
    go_wp2_with fail
    refine (bad_c g _ v l a' false H4.out).mono ?_
    rintro e w' ⟨rfl, rfl⟩
    go_wp2_with fail
    go_ret
    exact RdPost.mk H1.out H2.out H3.out

set_option maxHeartbeats 1000000 in
theorem text_read (g : Nat) (w : World) (v : Value) (l : List Int) (a : Nat) (h : RdAt g w v l a false) (hok : Byt.Ok l) :
    Calls Try.prog 89 #[.pointer (some ⟨g, 0, none⟩), .func (.func 90) #[] #[]] w (RdPost g v l a false (if (textL (l.drop a)).2 = 0 then (.string ⟨#[]⟩) else (.string (strOfNums (textL (l.drop a)).1))) (textL (l.drop a)).2 w) := by
  have H := Aside0.mk h
  clear h
  by_cases hk : (textL (l.drop a)).2 = 0
  · have HK := Aside0.mk hk
    rw [if_pos hk]
    clear hk
    go_enter Try.func89, Try.ntmps89
    go_wp2_with fail
    refine (bad_c g _ v l a false H.out).mono ?_
    rintro e w' ⟨rfl, rfl⟩
    go_wp2_with fail
    refine (text_c g _ v l a H.out hok).mono ?_
    rintro e w' ⟨a', rfl, h1, h2, h3⟩
    have H1 := Aside0.mk h1
    have H2 := Aside0.mk h2
    have H3 := Aside0.mk h3
    rw [decide_eq_true HK.out] at h1
    have H4 := Aside0.mk h1
    clear h1 h2 h3
    go_wp2_with fail
    refine (bad_c g _ v l a' true H4.out).mono ?_
    rintro e w' ⟨rfl, rfl⟩
    go_wp2_with fail
    go_ret
    exact RdPost.mk H1.out H2.out H3.out
  · have HK := Aside0.mk hk
    rw [if_neg hk]
    clear hk
    go_enter Try.func89, Try.ntmps89
    go_wp2_with fail
    refine (bad_c g _ v l a false H.out).mono ?_
    rintro e w' ⟨rfl, rfl⟩
    go_wp2_with fail
    refine (text_c g _ v l a H.out hok).mono ?_
    rintro e w' ⟨a', rfl, h1, h2, h3⟩
    have H1 := Aside0.mk h1
    have H2 := Aside0.mk h2
    have H3 := Aside0.mk h3
    rw [decide_eq_false HK.out] at h1
    have H4 := Aside0.mk h1
    clear h1 h2 h3
    go_wp2_with fail
    refine (bad_c g _ v l a' false H4.out).mono ?_
    rintro e w' ⟨rfl, rfl⟩
    go_wp2_with fail
    go_ret
    exact RdPost.mk H1.out H2.out H3.out

set_option maxHeartbeats 1000000 in
theorem readStr_bad (F : Nat) (g : Nat) (w : World) (v : Value) (l : List Int) (a : Nat) (k : Nat) (h : Rd g w v l a true) :
    Calls Try.prog 89 #[.pointer (some ⟨g, 0, none⟩), .func (.func F) #[] #[]] w (RdPost g v l a true (.string ⟨#[]⟩) k w) := by
  obtain ⟨a', h, _⟩ := h
  have H := Aside0.mk h
  clear h
  go_enter Try.func89, Try.ntmps89
  go_wp2_with fail
  refine (bad_c g _ v l a' true H.out).mono ?_
  rintro e w' ⟨rfl, rfl⟩
  go_wp2_with fail
  go_ret
  exact ⟨rfl, ⟨a', H.out, fun h => by cases h⟩, But.refl g _⟩
theorem num_zero {l : List Int} (h : (numL l).2 = 0) : (numL l).1 = 0 := numL_zero h
theorem sgn_zero {l : List Int} (h : (sgnL l).2 = 0) : (sgnL l).1 = 0 := by
  unfold sgnL at h ⊢; simp only at h ⊢; rw [numL_zero h]; rfl
theorem text_zero {l : List Int} (h : (textL l).2 = 0) : (textL l).1 = [] := by
  unfold textL at h ⊢
  split
  · rfl
  · rename_i h1
    rw [if_neg h1] at h
    exact absurd h (by simp only; omega)
theorem strOf_nil : strOfNums [] = ⟨#[]⟩ := rfl
theorem stepV_true {α : Type} (z : α) (k : Nat) (x : α) : stepV z true k x = z := rfl
theorem stepV_false {α : Type} {z : α} {k : Nat} {x : α} (h : k = 0 → x = z) : stepV z false k x = x := by
  unfold stepV stepB
  by_cases hk : k = 0
  · simp [hk, h hk]
  · simp [hk]

set_option maxHeartbeats 1000000 in
theorem nNum (g : Nat) (w : World) (v : Value) (l : List Int) (a : Nat) (bad : Bool) (h : Rd g w v l a bad) (hok : Byt.Ok l) :
    Calls Try.prog 45 #[.pointer (some ⟨g, 0, none⟩)] w (RdPost g v l a bad (.int .i64 (stepV 0 bad (numL (l.drop a)).2 (numL (l.drop a)).1)) (numL (l.drop a)).2 w) := by
  cases bad with
  | true =>
    have H := Aside0.mk h
    clear h
    rw [stepV_true]
    go_enter Try.func45, Try.ntmps45
    go_wp2_with fail
    refine (readInt_bad _ g _ v l a (numL (l.drop a)).2 H.out).mono ?_
    rintro e w' ⟨rfl, h1, h2⟩
    have H1 := Aside0.mk h1
    have H2 := Aside0.mk h2
    clear h1 h2
    go_wp2_with fail
    go_ret
    exact ⟨rfl, H1.out, H2.out⟩
  | false =>
    obtain ⟨a', h, ha⟩ := h
    obtain rfl := ha rfl
    have H := Aside0.mk h
    clear h ha
    rw [stepV_false num_zero]
    go_enter Try.func45, Try.ntmps45
    go_wp2_with fail
    refine (num_read g _ v l a' H.out hok).mono ?_
    rintro e w' ⟨rfl, h1, h2⟩
    have H1 := Aside0.mk h1
    have H2 := Aside0.mk h2
    clear h1 h2
    by_cases hk : (numL (l.drop a')).2 = 0
    · have HZ := Aside0.mk (num_zero hk)
      rw [if_pos hk]
      clear hk
      go_wp2_with fail
      go_ret
      exact ⟨by rw [HZ.out]; rfl, H1.out, H2.out⟩
    · rw [if_neg hk]
      clear hk
      go_wp2_with fail
      go_ret
      exact ⟨rfl, H1.out, H2.out⟩

set_option maxHeartbeats 1000000 in
theorem nSigned (g : Nat) (w : World) (v : Value) (l : List Int) (a : Nat) (bad : Bool) (h : Rd g w v l a bad) (hok : Byt.Ok l) :
    Calls Try.prog 102 #[.pointer (some ⟨g, 0, none⟩)] w (RdPost g v l a bad (.int .i64 (stepV 0 bad (sgnL (l.drop a)).2 (sgnL (l.drop a)).1)) (sgnL (l.drop a)).2 w) := by
  cases bad with
  | true =>
    have H := Aside0.mk h
    clear h
    rw [stepV_true]
    go_enter Try.func102, Try.ntmps102
    go_wp2_with fail
    refine (readInt_bad _ g _ v l a (sgnL (l.drop a)).2 H.out).mono ?_
    rintro e w' ⟨rfl, h1, h2⟩
    have H1 := Aside0.mk h1
    have H2 := Aside0.mk h2
    clear h1 h2
    go_wp2_with fail
    go_ret
    exact ⟨rfl, H1.out, H2.out⟩
  | false =>
    obtain ⟨a', h, ha⟩ := h
    obtain rfl := ha rfl
    have H := Aside0.mk h
    clear h ha
    rw [stepV_false sgn_zero]
    go_enter Try.func102, Try.ntmps102
    go_wp2_with fail
    refine (signed_read g _ v l a' H.out hok).mono ?_
    rintro e w' ⟨rfl, h1, h2⟩
    have H1 := Aside0.mk h1
    have H2 := Aside0.mk h2
    clear h1 h2
    by_cases hk : (sgnL (l.drop a')).2 = 0
    · have HZ := Aside0.mk (sgn_zero hk)
      rw [if_pos hk]
      clear hk
      go_wp2_with fail
      go_ret
      exact ⟨by rw [HZ.out]; rfl, H1.out, H2.out⟩
    · rw [if_neg hk]
      clear hk
      go_wp2_with fail
      go_ret
      exact ⟨rfl, H1.out, H2.out⟩

set_option maxHeartbeats 1000000 in
theorem nText (g : Nat) (w : World) (v : Value) (l : List Int) (a : Nat) (bad : Bool) (h : Rd g w v l a bad) (hok : Byt.Ok l) :
    Calls Try.prog 51 #[.pointer (some ⟨g, 0, none⟩)] w (RdPost g v l a bad (.string (strOfNums (stepV [] bad (textL (l.drop a)).2 (textL (l.drop a)).1))) (textL (l.drop a)).2 w) := by
  cases bad with
  | true =>
    have H := Aside0.mk h
    clear h
    rw [stepV_true]
    go_enter Try.func51, Try.ntmps51
    go_wp2_with fail
    refine (readStr_bad _ g _ v l a (textL (l.drop a)).2 H.out).mono ?_
    rintro e w' ⟨rfl, h1, h2⟩
    have H1 := Aside0.mk h1
    have H2 := Aside0.mk h2
    clear h1 h2
    go_wp2_with fail
    go_ret
    exact ⟨rfl, H1.out, H2.out⟩
  | false =>
    obtain ⟨a', h, ha⟩ := h
    obtain rfl := ha rfl
    have H := Aside0.mk h
    clear h ha
    rw [stepV_false text_zero]
    go_enter Try.func51, Try.ntmps51
    go_wp2_with fail
    refine (text_read g _ v l a' H.out hok).mono ?_
    rintro e w' ⟨rfl, h1, h2⟩
    have H1 := Aside0.mk h1
    have H2 := Aside0.mk h2
    clear h1 h2
    by_cases hk : (textL (l.drop a')).2 = 0
    · have HZ := Aside0.mk (text_zero hk)
      rw [if_pos hk]
      clear hk
      go_wp2_with fail
      go_ret
      exact ⟨by rw [HZ.out]; rfl, H1.out, H2.out⟩
    · rw [if_neg hk]
      clear hk
      go_wp2_with fail
      go_ret
      exact ⟨rfl, H1.out, H2.out⟩

/-! A step that reads something, and one that doesn't. -/
theorem rd_ok {g : Nat} {w : World} {v : Value} {l : List Int} {a k : Nat} (h : Rd g w v l (stepA false a k) (stepB false k)) (hk : k ≠ 0) : Rd g w v l (a + k) false := by
  have e1 : stepB false k = false := by unfold stepB; simp [hk]
  rw [e1] at h; exact h
theorem rd_no {g : Nat} {w : World} {v : Value} {l : List Int} {a k : Nat} (h : Rd g w v l (stepA false a k) (stepB false k)) (hk : k = 0) : Rd g w v l a true := by
  subst hk; exact h
theorem nNum_ok (g : Nat) (w : World) (v : Value) (l : List Int) (a : Nat) (x : Int) (k : Nat) (h : Rd g w v l a false) (hok : Byt.Ok l) (hx : numL (l.drop a) = (x, k)) (hk : k ≠ 0) :
    Calls Try.prog 45 #[.pointer (some ⟨g, 0, none⟩)] w fun e w' => e = .returned (.int .i64 x) ∧ Rd g w' v l (a + k) false ∧ But g w w' := by
  have := nNum g w v l a false h hok
  rw [stepV_false num_zero, hx] at this
  exact this.mono fun e w' ⟨h1, h2, h3⟩ => ⟨h1, rd_ok h2 hk, h3⟩
theorem nSigned_ok (g : Nat) (w : World) (v : Value) (l : List Int) (a : Nat) (x : Int) (k : Nat) (h : Rd g w v l a false) (hok : Byt.Ok l) (hx : sgnL (l.drop a) = (x, k)) (hk : k ≠ 0) :
    Calls Try.prog 102 #[.pointer (some ⟨g, 0, none⟩)] w fun e w' => e = .returned (.int .i64 x) ∧ Rd g w' v l (a + k) false ∧ But g w w' := by
  have := nSigned g w v l a false h hok
  rw [stepV_false sgn_zero, hx] at this
  exact this.mono fun e w' ⟨h1, h2, h3⟩ => ⟨h1, rd_ok h2 hk, h3⟩
theorem nText_ok (g : Nat) (w : World) (v : Value) (l : List Int) (a : Nat) (x : List Int) (k : Nat) (h : Rd g w v l a false) (hok : Byt.Ok l) (hx : textL (l.drop a) = (x, k)) (hk : k ≠ 0) :
    Calls Try.prog 51 #[.pointer (some ⟨g, 0, none⟩)] w fun e w' => e = .returned (.string (strOfNums x)) ∧ Rd g w' v l (a + k) false ∧ But g w w' := by
  have := nText g w v l a false h hok
  rw [stepV_false text_zero, hx] at this
  exact this.mono fun e w' ⟨h1, h2, h3⟩ => ⟨h1, rd_ok h2 hk, h3⟩

theorem nNum_bad (g : Nat) (w : World) (v : Value) (l : List Int) (a : Nat) (h : Rd g w v l a true) (hok : Byt.Ok l) :
    Calls Try.prog 45 #[.pointer (some ⟨g, 0, none⟩)] w fun e w' => e = .returned (.int .i64 0) ∧ Rd g w' v l a true ∧ But g w w' := by
  have := nNum g w v l a true h hok
  rw [stepV_true] at this
  exact this
theorem nNum_no (g : Nat) (w : World) (v : Value) (l : List Int) (a : Nat) (h : Rd g w v l a false) (hok : Byt.Ok l) (hk : (numL (l.drop a)).2 = 0) :
    Calls Try.prog 45 #[.pointer (some ⟨g, 0, none⟩)] w fun e w' => e = .returned (.int .i64 0) ∧ Rd g w' v l a true ∧ But g w w' := by
  have := nNum g w v l a false h hok
  rw [stepV_false num_zero, num_zero hk] at this
  exact this.mono fun e w' ⟨h1, h2, h3⟩ => ⟨h1, rd_no h2 hk, h3⟩

theorem nSigned_bad (g : Nat) (w : World) (v : Value) (l : List Int) (a : Nat) (h : Rd g w v l a true) (hok : Byt.Ok l) :
    Calls Try.prog 102 #[.pointer (some ⟨g, 0, none⟩)] w fun e w' => e = .returned (.int .i64 0) ∧ Rd g w' v l a true ∧ But g w w' := by
  have := nSigned g w v l a true h hok
  rw [stepV_true] at this
  exact this
theorem nSigned_no (g : Nat) (w : World) (v : Value) (l : List Int) (a : Nat) (h : Rd g w v l a false) (hok : Byt.Ok l) (hk : (sgnL (l.drop a)).2 = 0) :
    Calls Try.prog 102 #[.pointer (some ⟨g, 0, none⟩)] w fun e w' => e = .returned (.int .i64 0) ∧ Rd g w' v l a true ∧ But g w w' := by
  have := nSigned g w v l a false h hok
  rw [stepV_false sgn_zero, sgn_zero hk] at this
  exact this.mono fun e w' ⟨h1, h2, h3⟩ => ⟨h1, rd_no h2 hk, h3⟩

theorem nText_bad (g : Nat) (w : World) (v : Value) (l : List Int) (a : Nat) (h : Rd g w v l a true) (hok : Byt.Ok l) :
    Calls Try.prog 51 #[.pointer (some ⟨g, 0, none⟩)] w fun e w' => e = .returned (.string ⟨#[]⟩) ∧ Rd g w' v l a true ∧ But g w w' := by
  have := nText g w v l a true h hok
  rw [stepV_true] at this
  exact this
theorem nText_no (g : Nat) (w : World) (v : Value) (l : List Int) (a : Nat) (h : Rd g w v l a false) (hok : Byt.Ok l) (hk : (textL (l.drop a)).2 = 0) :
    Calls Try.prog 51 #[.pointer (some ⟨g, 0, none⟩)] w fun e w' => e = .returned (.string ⟨#[]⟩) ∧ Rd g w' v l a true ∧ But g w w' := by
  have := nText g w v l a false h hok
  rw [stepV_false text_zero, text_zero hk] at this
  exact this.mono fun e w' ⟨h1, h2, h3⟩ => ⟨h1, rd_no h2 hk, h3⟩

theorem nBad (g : Nat) (w : World) (v : Value) (l : List Int) (a : Nat) (bad : Bool) (h : Rd g w v l a bad) :
    Calls Try.prog 48 #[.pointer (some ⟨g, 0, none⟩)] w fun e w' => e = .returned (.bool bad) ∧ w' = w := by
  obtain ⟨a', h, _⟩ := h
  exact bad_c g w v l a' bad h
/-- How many bytes are ahead. -/
def leftL (l : List Int) (a : Nat) (bad : Bool) : Nat := if bad then 0 else l.length - a
set_option maxHeartbeats 1000000 in
theorem nLeft (g : Nat) (w : World) (v : Value) (l : List Int) (a : Nat) (bad : Bool) (h : Rd g w v l a bad) :
    Calls Try.prog 47 #[.pointer (some ⟨g, 0, none⟩)] w fun e w' => e = .returned (.int .i64 ((leftL l a bad : Nat) : Int)) ∧ Drawn0 w w' := by
  obtain ⟨a', h, ha⟩ := h
  have H := Aside0.mk h
  clear h
  cases bad with
  | true =>
    clear ha
    go_enter Try.func47, Try.ntmps47
    go_wp2_with fail
    refine (bad_c g _ v l a' true H.out).mono ?_
    rintro e w' ⟨rfl, rfl⟩
    go_wp2_with fail
    go_ret
    exact ⟨rfl, ⟨0, rfl⟩⟩
  | false =>
    obtain rfl := ha rfl
    clear ha
    obtain ⟨q, hq⟩ : ∃ q, q = l.length - a' := ⟨_, rfl⟩
    have HQ := Aside0.mk hq
    have hc := fun w => ahead_c g w v l a' false
    rw [← hq] at hc
    clear hq
    go_enter Try.func47, Try.ntmps47
    go_wp2_with fail
    refine (bad_c g _ v l a' false H.out).mono ?_
    rintro e w' ⟨rfl, rfl⟩
    go_wp2_with fail
    refine (hc _ H.out).mono ?_
    rintro e w' ⟨rfl, n, rfl⟩
    go_wp2_with fail
    go_ret
    exact ⟨by unfold leftL; rw [if_neg (by simp), ← HQ.out]; rfl, ⟨n, rfl⟩⟩
set_option maxHeartbeats 1000000 in
theorem nDone (g : Nat) (w : World) (v : Value) (l : List Int) (a : Nat) (bad : Bool) (h : Rd g w v l a bad) :
    Calls Try.prog 52 #[.pointer (some ⟨g, 0, none⟩)] w fun e w' => e = .returned (.bool (!bad && decide (l.length - a = 0))) ∧ Drawn0 w w' := by
  obtain ⟨a', h, ha⟩ := h
  have H := Aside0.mk h
  clear h
  cases bad with
  | true =>
    clear ha
    go_enter Try.func52, Try.ntmps52
    go_wp2_with fail
    refine (bad_c g _ v l a' true H.out).mono ?_
    rintro e w' ⟨rfl, rfl⟩
    go_wp2_with fail
    go_ret
    exact ⟨rfl, ⟨0, rfl⟩⟩
  | false =>
    obtain rfl := ha rfl
    clear ha
    obtain ⟨q, hq⟩ : ∃ q, q = l.length - a' := ⟨_, rfl⟩
    have HQ := Aside0.mk hq
    have hc := fun w => ahead_c g w v l a' false
    rw [← hq] at hc
    clear hq
    by_cases hz : q = 0
    · subst hz
      go_enter Try.func52, Try.ntmps52
      go_wp2_with fail
      refine (bad_c g _ v l a' false H.out).mono ?_
      rintro e w' ⟨rfl, rfl⟩
      go_wp2_with fail
      refine (hc _ H.out).mono ?_
      rintro e w' ⟨rfl, n, rfl⟩
      go_wp2_with fail
      go_ret
      exact ⟨by rw [← HQ.out]; rfl, ⟨n, rfl⟩⟩
    · have hz2 : ((q : Int) == 0) = false := by simp; omega
      have HZ := Aside0.mk hz
      clear hz
      go_enter Try.func52, Try.ntmps52
      go_wp2_with fail
      refine (bad_c g _ v l a' false H.out).mono ?_
      rintro e w' ⟨rfl, rfl⟩
      go_wp2_with fail
      refine (hc _ H.out).mono ?_
      rintro e w' ⟨rfl, n, rfl⟩
      go_wp2_with fail
      go_ret
      exact ⟨by rw [← HQ.out, decide_eq_false HZ.out]; rfl, ⟨n, rfl⟩⟩
set_option maxHeartbeats 1000000 in
theorem nRead (w : World) (v : Value) (l : List Int) (h : Sl w v l) (hl : l.length ≤ 140737488355000) :
    Calls Try.prog 44 #[v] w fun e w' => e = .returned (.pointer (some ⟨w.heap.size, 0, none⟩)) ∧ Rd w.heap.size w' v l 0 false ∧ Below w.heap.size w w' ∧ w'.heap.size = w.heap.size + 1 := by
  have H := Aside0.mk h
  have HL := Aside0.mk hl
  obtain ⟨A, c, rfl, hc, hC⟩ := h
  clear hC hl
  go_enter Try.func44, Try.ntmps44
  go_wp2_with fail
  go_ret
  exact ⟨rfl, ⟨0, ⟨by rw [Own.heap_new]; rfl, H.out.alloc _, Nat.zero_le _, HL.out⟩, fun _ => rfl⟩, below_alloc (Below.refl _ _) _, by show (w.heap.push _).size = _; simp⟩
end Go.Proofs.Ytedfcjcnhgomoaa.VaryR
end
-- MERGED YtedfcjcnhgomoaaFrameL
section
/- The plain law of frames that are got: how a body parses; no program in sight. -/
namespace Go.Proofs.Ytedfcjcnhgomoaa.FrameL
open Go.RowKit Go.Proofs.Ytedfcjcnhgomoaa.Own Go.Proofs.Ytedfcjcnhgomoaa.Vy Go.Proofs.Ytedfcjcnhgomoaa.FrameP Go.Proofs.Ytedfcjcnhgomoaa.VaryR

/-- What four reads tell: the packet, where the reader stands, whether it is bad. -/
def a1 (x : List Int) : Nat := stepA false 0 (numL (x.drop 0)).2
def b1 (x : List Int) : Bool := stepB false (numL (x.drop 0)).2
def a2 (x : List Int) : Nat := stepA (b1 x) (a1 x) (numL (x.drop (a1 x))).2
def b2 (x : List Int) : Bool := stepB (b1 x) (numL (x.drop (a1 x))).2
def a3 (x : List Int) : Nat := stepA (b2 x) (a2 x) (numL (x.drop (a2 x))).2
def b3 (x : List Int) : Bool := stepB (b2 x) (numL (x.drop (a2 x))).2
def a4 (x : List Int) : Nat := stepA (b3 x) (a3 x) (textL (x.drop (a3 x))).2
def b4 (x : List Int) : Bool := stepB (b3 x) (textL (x.drop (a3 x))).2
def pk (x : List Int) : Pk := ⟨stepV 0 false (numL (x.drop 0)).2 (numL (x.drop 0)).1, stepV 0 (b1 x) (numL (x.drop (a1 x))).2 (numL (x.drop (a1 x))).1, stepV 0 (b2 x) (numL (x.drop (a2 x))).2 (numL (x.drop (a2 x))).1, strOfNums (stepV [] (b3 x) (textL (x.drop (a3 x))).2 (textL (x.drop (a3 x))).1)⟩
/-- Is all read, and was nothing wrong? -/
def dn (x : List Int) : Bool := !b4 x && decide (x.length - a4 x = 0)
def parse (x : List Int) : Option Pk := if dn x && good (pk x) then some (pk x) else none

theorem stepB_false {b : Bool} {k : Nat} : stepB b k = false ↔ b = false ∧ k ≠ 0 := by unfold stepB; simp
theorem stepV_ok {α : Type} {z : α} {b : Bool} {k : Nat} {x : α} (h : stepB b k = false) : stepV z b k x = x := by unfold stepV; rw [h]; rfl
theorem textL_one {l : List Int} (hok : Byt.Ok l) (h : (textL l).2 ≠ 0) : l.take (textL l).2 = putTL [] (textL l).1 ∧ (textL l).2 ≤ l.length ∧ Byt.Ok (textL l).1 := by
  have hle := textL_le hok
  refine ⟨?_, hle, ?_⟩
  · unfold textL at h ⊢
    split at h
    · exact absurd rfl h
    · rename_i hc
      rw [if_neg hc]
      simp only at h ⊢
      have hk : (numL l).2 ≠ 0 := fun e => hc (.inl e)
      obtain ⟨m, h1, h2, h3, h4, _⟩ := numL_one hok hk
      have hlen : ((l.drop (numL l).2).take (numL l).1.toNat).length = m := by
        rw [List.length_take, List.length_drop, h1, Int.toNat_natCast]
        have : (numL l).1 = (m : Int) := h1
        omega
      unfold putTL
      rw [hlen, putL_good h3, List.nil_append, ← h2, List.take_add]
  · unfold textL
    split
    · exact Byt.ok_nil
    · exact Byt.ok_take (Byt.ok_drop hok _) _
theorem numsOf_strOf {l : List Int} (hok : Byt.Ok l) : numsOf (strOfNums l) = l := by
  have h : strOfNums (numsOf (strOfNums l)) = strOfNums l := strOf_numsOf _
  have h2 := congrArg ByteArray.toList h
  exact (Byt.str_eq (ok_numsOf _) hok).1 h2
/-- What was read without a fault has just these bytes. -/
theorem body_take {x : List Int} (hok : Byt.Ok x) (hb : b4 x = false) : body (pk x) = x.take (a4 x) ∧ a4 x ≤ x.length := by
  obtain ⟨h3, k4⟩ := stepB_false.1 hb
  obtain ⟨h2, k3⟩ := stepB_false.1 h3
  obtain ⟨h1, k2⟩ := stepB_false.1 h2
  obtain ⟨_, k1⟩ := stepB_false.1 h1
  have ea1 : a1 x = (numL (x.drop 0)).2 := by unfold a1 stepA; simp
  have ea2 : a2 x = a1 x + (numL (x.drop (a1 x))).2 := by unfold a2 stepA; rw [h1]; rfl
  have ea3 : a3 x = a2 x + (numL (x.drop (a2 x))).2 := by unfold a3 stepA; rw [h2]; rfl
  have ea4 : a4 x = a3 x + (textL (x.drop (a3 x))).2 := by unfold a4 stepA; rw [h3]; rfl
  obtain ⟨m1, e1, t1, M1, l1, _⟩ := numL_one (Byt.ok_drop hok 0) k1
  obtain ⟨m2, e2, t2, M2, l2, _⟩ := numL_one (Byt.ok_drop hok (a1 x)) k2
  obtain ⟨m3, e3, t3, M3, l3, _⟩ := numL_one (Byt.ok_drop hok (a2 x)) k3
  obtain ⟨t4, l4, o4⟩ := textL_one (Byt.ok_drop hok (a3 x)) k4
  rw [List.length_drop] at l1 l2 l3 l4
  have hp : pk x = ⟨(m1 : Int), (m2 : Int), (m3 : Int), strOfNums (textL (x.drop (a3 x))).1⟩ := by
    unfold pk
    rw [stepV_ok (stepB_false.2 ⟨rfl, k1⟩), stepV_ok (stepB_false.2 ⟨h1, k2⟩), stepV_ok (stepB_false.2 ⟨h2, k3⟩), stepV_ok (stepB_false.2 ⟨h3, k4⟩), e1, e2, e3]
  refine ⟨?_, by omega⟩
  rw [hp]
  unfold body
  simp only
  rw [putL_good M1, putL_good M2, putL_good M3, numsOf_strOf o4, List.nil_append]
  have ht : putTL (enc m1 ++ enc m2 ++ enc m3) (textL (x.drop (a3 x))).1 = enc m1 ++ enc m2 ++ enc m3 ++ putTL [] (textL (x.drop (a3 x))).1 := by
    unfold putTL putL
    split
    · simp
    · simp
  rw [ht, ← t4, ← t3, ← t2, ← t1]
  rw [List.drop_zero] at ea1 ⊢
  rw [ea4, ea3, ea2, ea1]
  simp only [List.take_add]
theorem dn_iff {x : List Int} (hok : Byt.Ok x) : dn x = true ↔ b4 x = false ∧ body (pk x) = x := by
  unfold dn
  simp only [Bool.and_eq_true, Bool.not_eq_true', decide_eq_true_eq]
  constructor
  · rintro ⟨h1, h2⟩
    obtain ⟨h3, h4⟩ := body_take hok h1
    exact ⟨h1, by rw [h3, List.take_of_length_le (by omega)]⟩
  · rintro ⟨h1, h2⟩
    obtain ⟨h3, h4⟩ := body_take hok h1
    refine ⟨h1, ?_⟩
    have := congrArg List.length (h3.symm.trans h2)
    rw [List.length_take] at this
    omega
/-- What bytes begin with: the packet, how many bytes, the error. -/
def zp : Pk := ⟨0, 0, 0, ⟨#[]⟩⟩
def segL (b : List Int) : List Int := (b.take ((numL b).2 + (numL b).1.toNat + 4)).drop (numL b).2
def sizeL (b : List Int) : Nat := (numL b).2 + (numL b).1.toNat + 4
def getTail (s : Nat) (seg : List Int) : Pk × Nat × Int :=
  if Nice.openB seg = false then (zp, s, 12)
  else match parse (Nice.openL seg) with
    | none => (zp, s, 10)
    | some p => (p, s, 0)
def get (b : List Int) : Pk × Nat × Int :=
  if (numL b).2 = 0 then (zp, 0, 10)
  else if 65576 < (numL b).1 then (zp, 0, 11)
  else if b.length < sizeL b then (zp, 0, 10)
  else getTail (sizeL b) (segL b)
theorem tail_shut {s : Nat} {seg : List Int} (h : Nice.openB seg = false) : getTail s seg = (zp, s, 12) := by unfold getTail; rw [if_pos h]
theorem tail_none {s : Nat} {seg : List Int} (h : Nice.openB seg = true) (h2 : parse (Nice.openL seg) = none) : getTail s seg = (zp, s, 10) := by unfold getTail; rw [if_neg (by rw [h]; simp), h2]
theorem tail_some {s : Nat} {seg : List Int} {p : Pk} (h : Nice.openB seg = true) (h2 : parse (Nice.openL seg) = some p) : getTail s seg = (p, s, 0) := by unfold getTail; rw [if_neg (by rw [h]; simp), h2]
theorem get_long {l : List Int} {k m : Nat} (hk : (numL l).2 = k) (hk0 : ¬ (numL l).2 = 0) (hm : (numL l).1 = (m : Int)) (hb : ¬ (65576 : Int) < (m : Int)) (hs : k + m + 4 ≤ l.length) : FrameL.get l = getTail (k + m + 4) ((l.take (k + m + 4)).drop k) := by
  have hz : sizeL l = k + m + 4 := by unfold sizeL; rw [hk, hm, Int.toNat_natCast]
  unfold FrameL.get segL
  rw [if_neg hk0, hm, if_neg hb, if_neg (by rw [hz]; omega), hz, hk, Int.toNat_natCast]
end Go.Proofs.Ytedfcjcnhgomoaa.FrameL
end

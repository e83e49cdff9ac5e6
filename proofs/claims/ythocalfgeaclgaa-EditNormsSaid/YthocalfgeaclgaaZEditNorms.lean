import Derived.Test.YthocalfgeaclgaaRows
import Derived.Test.YthocalfgeaclgaaZC
import Derived.Test.YthocalfgeaclgaaWWords
import Derived.Test.YthocalfgeaclgaaWMore
import Derived.Test.YthocalfgeaclgaaZA
import Derived.Test.YthocalfgeaclgaaZB
import Derived.Deep.Slices
import Derived.ChangeArms
import Derived.OpenShut
import Derived.ShutString
import Derived.WalkKit
import Derived.ProofKit
import Derived.ChangeOld
import Derived.Below
import Derived.SizedLaws
import Derived.Test.YthocalfgeaclgaaWSized
-- MERGED YthocalfgeaclgaaMaps1
section
/- What is read at one kind is read at another one, element by element. -/
namespace Go.Proofs.Ythocalfgeaclgaa.Maps1
open Go.RowKit Go.Proofs.YthocalfgeaclgaaW.PrintWords Go.Proofs.YthocalfgeaclgaaW.PrintLast Go.Proofs.YthocalfgeaclgaaW.PrintMore
theorem C_map {α β : Type} {d : Kd α} {d' : Kd β} {w : World} {A : Option Addr} {n : Nat} {xs : List α} (hs : d.sz = d'.sz) (f : α → β) (hK : ∀ x cs, d.K w x cs → d'.K w (f x) cs) (h : Kd.C d w A n xs) : Kd.C d' w A n (xs.map f) := by
  refine ⟨by rw [List.length_map]; exact h.1, h.2.1, fun hp => ?_⟩
  obtain ⟨ad, e, hr⟩ := h.2.2 hp
  refine ⟨ad, e, fun j p hj => ?_⟩
  rw [List.getElem?_map] at hj
  cases hx : xs[j]? with
  | none => rw [hx] at hj; cases hj
  | some x =>
    rw [hx] at hj
    obtain rfl := Option.some.inj hj
    obtain ⟨c, h1, h2, h3⟩ := hr j x hx
    exact ⟨c, by rw [h1, hs], hK x c h2, fun i u hu => by rw [← hs]; exact h3 i u hu⟩
theorem K_slice_map {α β : Type} {d : Kd α} {d' : Kd β} {w : World} {e : Nat} (hs : d.sz = d'.sz) (f : α → β) (hK : ∀ x cs, d.K w x cs → d'.K w (f x) cs) (xs : List α) (cs : List Value) (h : (Kd.slice e d).K w xs cs) : (Kd.slice e d').K w (xs.map f) cs := by
  obtain ⟨A, c, rfl, h1, h2⟩ := h
  exact ⟨A, c, by rw [List.length_map], by rw [List.length_map]; exact h1, by rw [List.length_map]; exact C_map hs f hK h2⟩
end Go.Proofs.Ythocalfgeaclgaa.Maps1
end
-- MERGED YthocalfgeaclgaaPvariorumlaw06Light
section
-- Written by wip/myprint.py of this session, over the kit's print.py: a Lean function for each Go function, and the proof that the code comes to it.
namespace Go.Proofs.Ythocalfgeaclgaa.P
open Go.RowKit Go.Proofs.YthocalfgeaclgaaW.PrintWords Go.Proofs.YthocalfgeaclgaaW.PrintLast Go.Proofs.YthocalfgeaclgaaW.PrintMore
attribute [local go_sem] max2_int min2_int max_two min_two max_three min_three max_four min_four   -- for this text's walks alone
set_option linter.unusedVariables false
set_option linter.unusedSimpArgs false

/-! ### variorumlaw06_Light: function 21 -/
def variorumlaw06_Light.l0 : Nat → List (S37) → Int → Int → Option (Bool)
  | 0, _, _, _ => none
  | k + 1, x8, x9, x10 => if x10 < x9 then (if 0 ≤ x10 then (if x10 < (x8.length : Int) then (if (((rd_T37 x8 x10).f1).size : Int) > 200 then (some false) else (variorumlaw06_Light.l0 k x8 x9 (wrap64 (x10 + 1)))) else (none)) else (none)) else (some true)
def variorumlaw06_Light.f (k : Nat) (l0 : List (S37)) : Option (Bool) := if (l0.length : Int) > 100 then (some false) else (variorumlaw06_Light.l0 k l0 (l0.length : Int) 0)
theorem variorumlaw06_Light.mono_l : ∀ k, (∀ y0 y1 y2, LeO (variorumlaw06_Light.l0 k y0 y1 y2) (variorumlaw06_Light.l0 (k + 1) y0 y1 y2))
  | 0 => fun _ _ _ r h => by simp [variorumlaw06_Light.l0] at h
  | k + 1 => by
    have ih0 := variorumlaw06_Light.mono_l k
    · intro y0 y1 y2
      unfold variorumlaw06_Light.l0
      repeat' first
      | (with_reducible exact ih0 _ _ _)
      | (with_reducible exact LeO.refl _)
      | (with_reducible exact LeO.none _)
      | (with_reducible refine LeO.ite ?_ ?_)
      | (with_reducible refine LeO.bind ?_ (fun _ => ?_))
      | exact ih0 _ _ _
      | exact LeO.none _
      | refine LeO.ite ?_ ?_
      | refine LeO.bind ?_ (fun _ => ?_)
theorem variorumlaw06_Light.mono : ∀ a0 k, LeO (variorumlaw06_Light.f k a0) (variorumlaw06_Light.f (k + 1) a0) := by
  intro a0 k
  have ih0 := variorumlaw06_Light.mono_l k
  unfold variorumlaw06_Light.f
  repeat' first
      | (with_reducible exact ih0 _ _ _)
      | (with_reducible exact LeO.refl _)
      | (with_reducible exact LeO.none _)
      | (with_reducible refine LeO.ite ?_ ?_)
      | (with_reducible refine LeO.bind ?_ (fun _ => ?_))
      | exact ih0 _ _ _
      | exact LeO.none _
      | refine LeO.ite ?_ ?_
      | refine LeO.bind ?_ (fun _ => ?_)
set_option maxHeartbeats 8000000 in
set_option maxRecDepth 100000 in
theorem variorumlaw06_Light.calls (k : Nat) (A0 : Option Addr) (c0 : Nat) (l0 : List (S37)) (r : Bool) (w : World) (hr0 : Kd.C k37 w A0 l0.length l0) (hc0 : l0.length ≤ c0) (h : variorumlaw06_Light.f k l0 = some r) :
    Calls Try.prog 21 #[.slice A0 l0.length c0] w fun e w' => e = .returned (.bool r) ∧ Below w.heap.size w w' := by
  have hu37 := Try.underlying37
  have HR0 := Aside0.mk hr0
  have HC0 := Aside0.mk hc0
  clear hr0 hc0
  have HB := Aside0.mk (Below.refl w.heap.size w)
  have H : (if (l0.length : Int) > 100 then (some false) else (variorumlaw06_Light.l0 k l0 (l0.length : Int) 0)) = some r := h
  clear h
  by_cases c2 : (l0.length : Int) > 100
  · rw [if_pos c2] at H
    have c2b0 : decide (100 < (l0.length : Int)) = true := decide_eq_true c2
    have c2b1 : decide (100 < l0.length) = true := decide_eq_true (by omega)
    clear c2
    obtain rfl := Option.some.inj H
    go_enter Try.func21, Try.ntmps21
    go_wp2
    go_ret
    exact ⟨by first | rfl | (simp [errW_none, errW_some] <;> rfl) | (simp [*, errW_none, errW_some] <;> rfl), by repeat (first | (with_reducible first | exact HB.out | apply below_alloc | apply pw_below_drewN | apply below_drew1) | exact HB.out)⟩
  · rw [if_neg c2] at H
    have c2b0 : decide (100 < (l0.length : Int)) = false := decide_eq_false c2
    have c2b1 : decide (100 < l0.length) = false := decide_eq_false (by omega)
    clear c2
    have H' := Aside0.mk H
    clear H
    go_enter Try.func21, Try.ntmps21
    go_wp2
    go_loopg [10] k (fun kq v10 w' => ∃ (x10_1 : Int), v10 = .int .i64 x10_1 ∧ Aside0 (variorumlaw06_Light.l0 kq l0 (l0.length : Int) x10_1 = some r) ∧ Aside0 (kq ≤ k) ∧ Aside0 (Below w.heap.size w w'))
    case atStart => exact ⟨(0), (by first | rfl | (simp; done) | (simp [*]; done)), H', ⟨Nat.le_refl _⟩, ⟨by repeat (first | (with_reducible first | exact HB.out | apply below_alloc | apply pw_below_drewN | apply below_drew1) | exact HB.out)⟩⟩
    case round =>
      clear H'
      try clear c2
      try clear c2b0
      try clear c2b1
      try clear p2
      obtain ⟨x10_1, rfl, HA, HK1, HB⟩ := hrel
      cases gk with
      | zero => exact absurd HA.out (by simp [variorumlaw06_Light.l0])
      | succ k1 =>
        have H := HA.out
        clear HA
        simp only [variorumlaw06_Light.l0] at H
        by_cases c3 : x10_1 < (l0.length : Int)
        · rw [if_pos c3] at H
          have c3b0 : decide (x10_1 < (l0.length : Int)) = true := decide_eq_true c3
          clear c3
          by_cases c4 : 0 ≤ x10_1
          · rw [if_pos c4] at H
            have c4b0 : decide (0 ≤ x10_1) = true := decide_eq_true c4
            clear c4
            by_cases c5 : x10_1 < (l0.length : Int)
            · rw [if_pos c5] at H
              have c5b0 : decide (x10_1 < (l0.length : Int)) = true := decide_eq_true c5
              clear c5
              by_cases c6 : (((rd_T37 l0 x10_1).f1).size : Int) > 200
              · rw [if_pos c6] at H
                have c6b0 : decide (200 < (((rd_T37 l0 x10_1).f1).size : Int)) = true := decide_eq_true c6
                have c6b1 : decide (200 < ((rd_T37 l0 x10_1).f1).size) = true := decide_eq_true (by omega)
                clear c6
                obtain rfl := Option.some.inj H
                have p112 : 0 ≤ (x10_1 : Int) := of_decide_eq_true (by first | (with_reducible assumption) | assumption)
                have q112 : x10_1 < (l0.length : Int) := of_decide_eq_true (by first | (with_reducible assumption) | assumption)
                obtain ⟨ad112, e112, hx112_0, hx112_1, hx112_2⟩ := at_T37 HR0.out x10_1 p112 q112
                cases e112
                replace hx112_0 := (HB.out.cell (World.block_lt_of_cell? w _ hx112_0)).trans hx112_0
                replace hx112_1 := (HB.out.cell (World.block_lt_of_cell? w _ hx112_1)).trans hx112_1
                replace hx112_2 := (HB.out.cell (World.block_lt_of_cell? w _ hx112_2)).trans hx112_2
                replace p112 := eq_true p112
                replace q112 := eq_true q112
                go_wp2_with (first | ((with_reducible refine gate_dst (N := 4) rfl ?_); refine box_event ?hg (N := 4) ?hd (cs := #[.int .i64 0, .string (⟨#[]⟩ : ByteArray), .int .i64 0]) (t := 37) ?hr ?_; (case hd => rfl); (case hg => rfl); (case hr => first | (go_simp; done) | (go_simp; rfl)); intro gb113 hg w7 hbox hb; have n0_ := Aside0.mk (below_step (by repeat (first | (with_reducible first | exact HB.out | apply below_alloc | apply pw_below_drewN | apply below_drew1) | exact HB.out)) hb); have n1_ := Aside0.mk (hbox); have n2_ := Aside0.mk ((by rw [hg]; exact (below_size (by repeat (first | (with_reducible first | exact HB.out | apply below_alloc | apply pw_below_drewN | apply below_drew1) | exact HB.out))) : w.heap.size ≤ gb113)); have n3_ := Aside0.mk ((by rw [hg]; exact (below_size (by repeat (first | (with_reducible first | exact HB.out | apply below_alloc | apply pw_below_drewN | apply below_drew1) | exact HB.out))) : w.heap.size ≤ gb113)); clear HB; have HB := n0_; have BK113 := n1_; have GW113 := n2_; have GE113 := n3_; clear n0_ n1_ n2_ n3_; clear hb hbox hg; have hcz8_0 : w7.cell? ⟨gb113, 0, none⟩ = some (.int .i64 0) := (blk_cell BK113.out 0).trans rfl; have hcz8_1 : w7.cell? ⟨gb113, 1, none⟩ = some (.string (⟨#[]⟩ : ByteArray)) := (blk_cell BK113.out 1).trans rfl; have hcz8_2 : w7.cell? ⟨gb113, 2, none⟩ = some (.int .i64 0) := (blk_cell BK113.out 2).trans rfl; have hfz8_0 := blk_frozen BK113.out 0; have hfz8_1 := blk_frozen BK113.out 1; have hfz8_2 := blk_frozen BK113.out 2))
                go_ret
                exact ⟨by first | rfl | (simp [errW_none, errW_some] <;> rfl) | (simp [*, errW_none, errW_some] <;> rfl), by repeat (first | (with_reducible first | exact HB.out | apply below_alloc | apply pw_below_drewN | apply below_drew1 | refine below_set ?_ GE113.out) | exact HB.out)⟩
              · rw [if_neg c6] at H
                have c6b0 : decide (200 < (((rd_T37 l0 x10_1).f1).size : Int)) = false := decide_eq_false c6
                have c6b1 : decide (200 < ((rd_T37 l0 x10_1).f1).size) = false := decide_eq_false (by omega)
                clear c6
                have H' := Aside0.mk H
                clear H
                have p112 : 0 ≤ (x10_1 : Int) := of_decide_eq_true (by first | (with_reducible assumption) | assumption)
                have q112 : x10_1 < (l0.length : Int) := of_decide_eq_true (by first | (with_reducible assumption) | assumption)
                obtain ⟨ad112, e112, hx112_0, hx112_1, hx112_2⟩ := at_T37 HR0.out x10_1 p112 q112
                cases e112
                replace hx112_0 := (HB.out.cell (World.block_lt_of_cell? w _ hx112_0)).trans hx112_0
                replace hx112_1 := (HB.out.cell (World.block_lt_of_cell? w _ hx112_1)).trans hx112_1
                replace hx112_2 := (HB.out.cell (World.block_lt_of_cell? w _ hx112_2)).trans hx112_2
                replace p112 := eq_true p112
                replace q112 := eq_true q112
                go_wp2_with (first | ((with_reducible refine gate_dst (N := 4) rfl ?_); refine box_event ?hg (N := 4) ?hd (cs := #[.int .i64 0, .string (⟨#[]⟩ : ByteArray), .int .i64 0]) (t := 37) ?hr ?_; (case hd => rfl); (case hg => rfl); (case hr => first | (go_simp; done) | (go_simp; rfl)); intro gb113 hg w9 hbox hb; have n0_ := Aside0.mk (below_step (by repeat (first | (with_reducible first | exact HB.out | apply below_alloc | apply pw_below_drewN | apply below_drew1) | exact HB.out)) hb); have n1_ := Aside0.mk (hbox); have n2_ := Aside0.mk ((by rw [hg]; exact (below_size (by repeat (first | (with_reducible first | exact HB.out | apply below_alloc | apply pw_below_drewN | apply below_drew1) | exact HB.out))) : w.heap.size ≤ gb113)); have n3_ := Aside0.mk ((by rw [hg]; exact (below_size (by repeat (first | (with_reducible first | exact HB.out | apply below_alloc | apply pw_below_drewN | apply below_drew1) | exact HB.out))) : w.heap.size ≤ gb113)); clear HB; have HB := n0_; have BK113 := n1_; have GW113 := n2_; have GE113 := n3_; clear n0_ n1_ n2_ n3_; clear hb hbox hg; have hcz10_0 : w9.cell? ⟨gb113, 0, none⟩ = some (.int .i64 0) := (blk_cell BK113.out 0).trans rfl; have hcz10_1 : w9.cell? ⟨gb113, 1, none⟩ = some (.string (⟨#[]⟩ : ByteArray)) := (blk_cell BK113.out 1).trans rfl; have hcz10_2 : w9.cell? ⟨gb113, 2, none⟩ = some (.int .i64 0) := (blk_cell BK113.out 2).trans rfl; have hfz10_0 := blk_frozen BK113.out 0; have hfz10_1 := blk_frozen BK113.out 1; have hfz10_2 := blk_frozen BK113.out 2))
                go_roundg k1
                case measure => have := HK1.out; omega
                case rel => exact ⟨(wrap64 (x10_1 + 1)), (by first | rfl | (simp; done) | (simp [*]; done)), H', ⟨by have := HK1.out; omega⟩, ⟨by repeat (first | (with_reducible first | exact HB.out | apply below_alloc | apply pw_below_drewN | apply below_drew1 | refine below_set ?_ GE113.out) | exact HB.out)⟩⟩
            · rw [if_neg c5] at H
              exact absurd H (by simp)
          · rw [if_neg c4] at H
            exact absurd H (by simp)
        · rw [if_neg c3] at H
          have c3b0 : decide (x10_1 < (l0.length : Int)) = false := decide_eq_false c3
          clear c3
          obtain rfl := Option.some.inj H
          go_wp2
          go_ret
          exact ⟨by first | rfl | (simp [errW_none, errW_some] <;> rfl) | (simp [*, errW_none, errW_some] <;> rfl), by repeat (first | (with_reducible first | exact HB.out | apply below_alloc | apply pw_below_drewN | apply below_drew1) | exact HB.out)⟩

end Go.Proofs.Ythocalfgeaclgaa.P
end
-- MERGED YthocalfgeaclgaaPvariorumlaw06EditNorms
section
-- Written by wip/myprint.py of this session, over the kit's print.py: a Lean function for each Go function, and the proof that the code comes to it.
namespace Go.Proofs.Ythocalfgeaclgaa.P
open Go.RowKit Go.Proofs.YthocalfgeaclgaaW.PrintWords Go.Proofs.YthocalfgeaclgaaW.PrintLast Go.Proofs.YthocalfgeaclgaaW.PrintMore
attribute [local go_sem] max2_int min2_int max_two min_two max_three min_three max_four min_four   -- for this text's walks alone
set_option linter.unusedVariables false
set_option linter.unusedSimpArgs false

/-! ### variorumlaw06_EditNorms: function 5 -/
mutual
def variorumlaw06_EditNorms.j0 : Nat → Int → List (S37) → Bool → Option (Bool)
  | 0, _, _, _ => none
  | k + 1, x1, x5, x27 => if x27 = true then (some false) else (variorumlaw06_EditNorms.l0 k x1 x5 ([] : List (S37)) 0 0 x5 (x5.length : Int) 0)
def variorumlaw06_EditNorms.l0 : Nat → Int → List (S37) → List (S37) → Int → Int → List (S37) → Int → Int → Option (Bool)
  | 0, _, _, _, _, _, _, _, _ => none
  | k + 1, x1, x5, x6, x7, x8, x28, x29, x30 => if x30 < x29 then (if 0 ≤ x30 then (if x30 < (x28.length : Int) then (if ((rd_T37 x28 x30).f0) > (wrap64 (Int.tmod (IntKind.u64.wrap (x1)) 7)) then ((some (([(⟨wrap64 (Int.tmod (IntKind.u64.wrap (x1)) 7), (⟨#[]⟩ : ByteArray), 0⟩ : S37), (⟨wrap64 (((rd_T37 x28 x30).f0) - (wrap64 (Int.tmod (IntKind.u64.wrap (x1)) 7))), (⟨#[]⟩ : ByteArray), 0⟩ : S37)] : List (S37)) : List (S37))).bind fun y228 => (if x6.length + y228.length < 4398046511104 then (variorumlaw06_EditNorms.l0 k x1 x5 (x6 ++ y228) (wrap64 (x7 + (wrap64 (((rd_T37 x28 x30).f0) + ((rd_T37 x28 x30).f2))))) (wrap64 (x8 + (wrap64 (((rd_T37 x28 x30).f0) + (((rd_T37 x28 x30).f1).size : Int))))) x28 x29 (wrap64 (x30 + 1))) else (none))) else (if ((rd_T37 x28 x30).f2) > (wrap64 (Int.tmod (IntKind.u64.wrap (x1)) 7)) then ((some (([(⟨0, (⟨#[]⟩ : ByteArray), wrap64 (Int.tmod (IntKind.u64.wrap (x1)) 7)⟩ : S37), (⟨0, (⟨#[]⟩ : ByteArray), wrap64 (((rd_T37 x28 x30).f2) - (wrap64 (Int.tmod (IntKind.u64.wrap (x1)) 7)))⟩ : S37)] : List (S37)) : List (S37))).bind fun y234 => (if x6.length + y234.length < 4398046511104 then (variorumlaw06_EditNorms.l0 k x1 x5 (x6 ++ y234) (wrap64 (x7 + (wrap64 (((rd_T37 x28 x30).f0) + ((rd_T37 x28 x30).f2))))) (wrap64 (x8 + (wrap64 (((rd_T37 x28 x30).f0) + (((rd_T37 x28 x30).f1).size : Int))))) x28 x29 (wrap64 (x30 + 1))) else (none))) else (if (((rd_T37 x28 x30).f1).size : Int) > (wrap64 (Int.tmod (IntKind.u64.wrap (x1)) 7)) then (if 0 ≤ (wrap64 (Int.tmod (IntKind.u64.wrap (x1)) 7)) then (if (wrap64 (Int.tmod (IntKind.u64.wrap (x1)) 7)) ≤ (((rd_T37 x28 x30).f1).size : Int) then ((some (([(⟨0, ((rd_T37 x28 x30).f1).extract 0 ((wrap64 (Int.tmod (IntKind.u64.wrap (x1)) 7)) : Int).toNat, 0⟩ : S37), (⟨0, ((rd_T37 x28 x30).f1).extract ((wrap64 (Int.tmod (IntKind.u64.wrap (x1)) 7)) : Int).toNat ((rd_T37 x28 x30).f1).size, 0⟩ : S37)] : List (S37)) : List (S37))).bind fun y240 => (if x6.length + y240.length < 4398046511104 then (variorumlaw06_EditNorms.l0 k x1 x5 (x6 ++ y240) (wrap64 (x7 + (wrap64 (((rd_T37 x28 x30).f0) + ((rd_T37 x28 x30).f2))))) (wrap64 (x8 + (wrap64 (((rd_T37 x28 x30).f0) + (((rd_T37 x28 x30).f1).size : Int))))) x28 x29 (wrap64 (x30 + 1))) else (none))) else (none)) else (none)) else (if x6.length < 4398046511104 then (variorumlaw06_EditNorms.l0 k x1 x5 (x6 ++ [(⟨(rd_T37 x28 x30).f0, (rd_T37 x28 x30).f1, (rd_T37 x28 x30).f2⟩ : S37)]) (wrap64 (x7 + (wrap64 (((rd_T37 x28 x30).f0) + ((rd_T37 x28 x30).f2))))) (wrap64 (x8 + (wrap64 (((rd_T37 x28 x30).f0) + (((rd_T37 x28 x30).f1).size : Int))))) x28 x29 (wrap64 (x30 + 1))) else (none))))) else (none)) else (none)) else ((edit_Norm.f x6).bind fun t249 => ((variorumref06_Same.f k t249 x5).bind fun t252 => (if t252 = true then ((edit_In.f k x5).bind fun t253 => (if t253 = x7 then ((edit_Out.f k x5).bind fun t254 => (if t254 = x8 then ((variorumlaw06_lives.f k).bind fun t255 => (some t255)) else (some false))) else (some false))) else (some false))))
end
def variorumlaw06_EditNorms.f (k : Nat) (l0 : List (S37)) (a1 : Int) : Option (Bool) := (variorumlaw06_Light.f k l0).bind fun t216 => (if t216 = true then ((edit_Norm.f l0).bind fun t218 => ((edit_Good.f k t218).bind fun t221 => (if t221 = true then ((edit_Norm.f t218).bind fun t222 => ((variorumref06_Same.f k t222 t218).bind fun t225 => (variorumlaw06_EditNorms.j0 k a1 t218 (!t225)))) else (variorumlaw06_EditNorms.j0 k a1 t218 true)))) else ((variorumlaw06_lives.f k).bind fun t217 => (some t217)))
theorem variorumlaw06_EditNorms.mono_l : ∀ k, (∀ y0 y1 y2, LeO (variorumlaw06_EditNorms.j0 k y0 y1 y2) (variorumlaw06_EditNorms.j0 (k + 1) y0 y1 y2)) ∧ (∀ y0 y1 y2 y3 y4 y5 y6 y7, LeO (variorumlaw06_EditNorms.l0 k y0 y1 y2 y3 y4 y5 y6 y7) (variorumlaw06_EditNorms.l0 (k + 1) y0 y1 y2 y3 y4 y5 y6 y7))
  | 0 => ⟨fun _ _ _ r h => by simp [variorumlaw06_EditNorms.j0] at h, fun _ _ _ _ _ _ _ _ r h => by simp [variorumlaw06_EditNorms.l0] at h⟩
  | k + 1 => by
    obtain ⟨ih0, ih1⟩ := variorumlaw06_EditNorms.mono_l k
    refine ⟨?_, ?_⟩
    · intro y0 y1 y2
      unfold variorumlaw06_EditNorms.j0
      repeat' first
      | (with_reducible exact ih0 _ _ _)
      | (with_reducible exact ih1 _ _ _ _ _ _ _ _)
      | (with_reducible exact edit_Good.mono _ _)
      | (with_reducible exact edit_In.mono _ _)
      | (with_reducible exact edit_Out.mono _ _)
      | (with_reducible exact variorumlaw06_Light.mono _ _)
      | (with_reducible exact variorumlaw06_lives.mono _)
      | (with_reducible exact variorumref06_Same.mono _ _ _)
      | (with_reducible exact LeO.refl _)
      | (with_reducible exact LeO.none _)
      | (with_reducible refine LeO.ite ?_ ?_)
      | (with_reducible refine LeO.bind ?_ (fun _ => ?_))
      | exact ih0 _ _ _
      | exact ih1 _ _ _ _ _ _ _ _
      | exact edit_Good.mono _ _
      | exact edit_In.mono _ _
      | exact edit_Out.mono _ _
      | exact variorumlaw06_Light.mono _ _
      | exact variorumlaw06_lives.mono _
      | exact variorumref06_Same.mono _ _ _
      | exact LeO.none _
      | refine LeO.ite ?_ ?_
      | refine LeO.bind ?_ (fun _ => ?_)
    · intro y0 y1 y2 y3 y4 y5 y6 y7
      unfold variorumlaw06_EditNorms.l0
      repeat' first
      | (with_reducible exact ih0 _ _ _)
      | (with_reducible exact ih1 _ _ _ _ _ _ _ _)
      | (with_reducible exact edit_Good.mono _ _)
      | (with_reducible exact edit_In.mono _ _)
      | (with_reducible exact edit_Out.mono _ _)
      | (with_reducible exact variorumlaw06_Light.mono _ _)
      | (with_reducible exact variorumlaw06_lives.mono _)
      | (with_reducible exact variorumref06_Same.mono _ _ _)
      | (with_reducible exact LeO.refl _)
      | (with_reducible exact LeO.none _)
      | (with_reducible refine LeO.ite ?_ ?_)
      | (with_reducible refine LeO.bind ?_ (fun _ => ?_))
      | exact ih0 _ _ _
      | exact ih1 _ _ _ _ _ _ _ _
      | exact edit_Good.mono _ _
      | exact edit_In.mono _ _
      | exact edit_Out.mono _ _
      | exact variorumlaw06_Light.mono _ _
      | exact variorumlaw06_lives.mono _
      | exact variorumref06_Same.mono _ _ _
      | exact LeO.none _
      | refine LeO.ite ?_ ?_
      | refine LeO.bind ?_ (fun _ => ?_)
theorem variorumlaw06_EditNorms.mono : ∀ a0 a1 k, LeO (variorumlaw06_EditNorms.f k a0 a1) (variorumlaw06_EditNorms.f (k + 1) a0 a1) := by
  intro a0 a1 k
  obtain ⟨ih0, ih1⟩ := variorumlaw06_EditNorms.mono_l k
  unfold variorumlaw06_EditNorms.f
  repeat' first
      | (with_reducible exact ih0 _ _ _)
      | (with_reducible exact ih1 _ _ _ _ _ _ _ _)
      | (with_reducible exact edit_Good.mono _ _)
      | (with_reducible exact edit_In.mono _ _)
      | (with_reducible exact edit_Out.mono _ _)
      | (with_reducible exact variorumlaw06_Light.mono _ _)
      | (with_reducible exact variorumlaw06_lives.mono _)
      | (with_reducible exact variorumref06_Same.mono _ _ _)
      | (with_reducible exact LeO.refl _)
      | (with_reducible exact LeO.none _)
      | (with_reducible refine LeO.ite ?_ ?_)
      | (with_reducible refine LeO.bind ?_ (fun _ => ?_))
      | exact ih0 _ _ _
      | exact ih1 _ _ _ _ _ _ _ _
      | exact edit_Good.mono _ _
      | exact edit_In.mono _ _
      | exact edit_Out.mono _ _
      | exact variorumlaw06_Light.mono _ _
      | exact variorumlaw06_lives.mono _
      | exact variorumref06_Same.mono _ _ _
      | exact LeO.none _
      | refine LeO.ite ?_ ?_
      | refine LeO.bind ?_ (fun _ => ?_)
def variorumlaw06_EditNorms.T19 : Bool × List (List Nat × List Nat) := (true, [([], []), ([], []), ([1], [1]), ([], []), ([2, 3], [2, 3]), ([4], [4]), ([], []), ([6], [6]), ([], []), ([7, 8], [7, 8]), ([9], [9]), ([5, 10], [5, 10]), ([0, 11], [0, 11]), ([12, 12, 0, 1, 2, 3, 4, 5, 6, 7, 8, 9, 10, 11, 12], [0, 12])])
def variorumlaw06_EditNorms.B19 : List Nat := [0, 0, 2, 0, 14, 30, 0, 64, 0, 448, 960, 2046, 4095, 8191]
theorem variorumlaw06_EditNorms.tab19 : rtab .any (opsOf Try.f5 19) = variorumlaw06_EditNorms.T19 := by kernel_rfl
theorem variorumlaw06_EditNorms.bits19 : waitsOk variorumlaw06_EditNorms.T19.2 variorumlaw06_EditNorms.B19 = true := by kernel_rfl
set_option maxHeartbeats 8000000 in
set_option maxRecDepth 100000 in
theorem variorumlaw06_EditNorms.calls (k : Nat) (A0 : Option Addr) (c0 : Nat) (l0 : List (S37)) (a1 : Int) (r : Bool) (w : World) (hr0 : Kd.C k37 w A0 l0.length l0) (hc0 : l0.length ≤ c0) (h : variorumlaw06_EditNorms.f k l0 a1 = some r) :
    Calls Try.prog 5 #[.slice A0 l0.length c0, .int .i64 a1] w fun e w' => e = .returned (.bool r) ∧ Below w.heap.size w w' := by
  have hu37 := Try.underlying37
  have HR0 := Aside0.mk hr0
  have HC0 := Aside0.mk hc0
  clear hr0 hc0
  have HB := Aside0.mk (Below.refl w.heap.size w)
  have H : ((variorumlaw06_Light.f k l0).bind fun t216 => (if t216 = true then ((edit_Norm.f l0).bind fun t218 => ((edit_Good.f k t218).bind fun t221 => (if t221 = true then ((edit_Norm.f t218).bind fun t222 => ((variorumref06_Same.f k t222 t218).bind fun t225 => (variorumlaw06_EditNorms.j0 k a1 t218 (!t225)))) else (variorumlaw06_EditNorms.j0 k a1 t218 true)))) else ((variorumlaw06_lives.f k).bind fun t217 => (some t217)))) = some r := h
  clear h
  replace H := Option.bind_eq_some_iff.mp H
  obtain ⟨t216, A30, H⟩ := H
  replace H : (if t216 = true then ((edit_Norm.f l0).bind fun t218 => ((edit_Good.f k t218).bind fun t221 => (if t221 = true then ((edit_Norm.f t218).bind fun t222 => ((variorumref06_Same.f k t222 t218).bind fun t225 => (variorumlaw06_EditNorms.j0 k a1 t218 (!t225)))) else (variorumlaw06_EditNorms.j0 k a1 t218 true)))) else ((variorumlaw06_lives.f k).bind fun t217 => (some t217))) = some r := H
  have A3 := Aside0.mk A30
  clear A30
  by_cases c4 : t216 = true
  · subst c4
    have H1 : ((edit_Norm.f l0).bind fun t218 => ((edit_Good.f k t218).bind fun t221 => (if t221 = true then ((edit_Norm.f t218).bind fun t222 => ((variorumref06_Same.f k t222 t218).bind fun t225 => (variorumlaw06_EditNorms.j0 k a1 t218 (!t225)))) else (variorumlaw06_EditNorms.j0 k a1 t218 true)))) = some r := by rw [if_pos rfl] at H; exact H
    clear H
    have H := H1
    clear H1
    replace H := Option.bind_eq_some_iff.mp H
    obtain ⟨t218, A50, H⟩ := H
    replace H : ((edit_Good.f k t218).bind fun t221 => (if t221 = true then ((edit_Norm.f t218).bind fun t222 => ((variorumref06_Same.f k t222 t218).bind fun t225 => (variorumlaw06_EditNorms.j0 k a1 t218 (!t225)))) else (variorumlaw06_EditNorms.j0 k a1 t218 true))) = some r := H
    have A5 := Aside0.mk A50
    clear A50
    have HC6 := Aside0.mk H
    clear H
    go_enter Try.func5, Try.ntmps5
    go_upto_region 4 with (first | ((with_reducible refine gate_callee (f := 21) rfl ?_); refine goesL_ (some 13) rfl rfl Try.func21 (by kernel_rfl) rfl #[.slice A0 l0.length c0] rfl (by (try simp only [List.map_toArray, List.map_cons, List.map_nil]); first | done | rfl | (simp only [List.length_drop, List.length_take]; rfl)) ?_; (with_reducible refine (variorumlaw06_Light.calls k _ _ l0 true _ ?side1 ?side2 A3.out).mono ?_); (case side1 => repeat (first | exact HR0.out | (with_reducible refine Kd.C_alloc ?_ _) | (with_reducible refine Kd.C_drewN ?_ _) | (with_reducible refine Kd.C_drew ?_))); (case side2 => exact HC0.out); rintro e w7 ⟨rfl, hb⟩; refine ⟨_, rfl, ?_⟩; have n0_ := Aside0.mk (below_step (by repeat (first | (with_reducible first | exact HB.out | apply below_alloc | apply pw_below_drewN | apply below_drew1) | exact HB.out)) hb); clear HB; have HB := n0_; clear n0_; (try clear hb); (try clear hb2); (try clear hk); (try clear hi)) | ((with_reducible refine gate_callee (f := 23) rfl ?_); refine goesL_ (some 17) rfl rfl Try.func23 (by kernel_rfl) rfl #[.slice A0 l0.length c0] rfl (by (try simp only [List.map_toArray, List.map_cons, List.map_nil]); first | done | rfl | (simp only [List.length_drop, List.length_take]; rfl)) ?_; (with_reducible refine (edit_Norm.calls _ _ l0 t218 _ ?side1 ?side2 A5.out).mono ?_); (case side1 => repeat (first | exact (Kd.C_below HR0.out HB.out) | (with_reducible refine Kd.C_alloc ?_ _) | (with_reducible refine Kd.C_drewN ?_ _) | (with_reducible refine Kd.C_drew ?_))); (case side2 => exact HC0.out); rintro e w8 ⟨v219, rfl, ho0, hb⟩; refine ⟨_, rfl, ?_⟩; have n0_ := Aside0.mk (Kd.R_lower ho0 (below_size (by repeat (first | (with_reducible first | exact HB.out | apply below_alloc | apply pw_below_drewN | apply below_drew1) | exact HB.out)))); have n1_ := Aside0.mk (below_step (by repeat (first | (with_reducible first | exact HB.out | apply below_alloc | apply pw_below_drewN | apply below_drew1) | exact HB.out)) hb); clear HB; have HO220 := n0_; have HB := n1_; clear n0_ n1_; (try clear hb); (try clear hb2); (try clear hk); (try clear hi); (try clear ho0)))
    (try simp only [Act.put, List.setIfInBounds_toArray, List.set_cons_zero, List.set_cons_succ])
    go_cut [27] (fun v27 wc => ∃ (kq : Nat) (x27_5 : Bool), v27 = .bool x27_5 ∧ Aside0 (variorumlaw06_EditNorms.j0 kq a1 t218 x27_5 = some r) ∧ Aside0 (kq ≤ k) ∧ Aside0 (Kd.R k37 37 wc w.heap.size (fun _ => True) v219 t218) ∧ Aside0 (Below w.heap.size w wc))
    case first =>
      have H := HC6.out
      clear HC6
      replace H := Option.bind_eq_some_iff.mp H
      obtain ⟨t221, A90, H⟩ := H
      replace H : (if t221 = true then ((edit_Norm.f t218).bind fun t222 => ((variorumref06_Same.f k t222 t218).bind fun t225 => (variorumlaw06_EditNorms.j0 k a1 t218 (!t225)))) else (variorumlaw06_EditNorms.j0 k a1 t218 true)) = some r := H
      have A9 := Aside0.mk A90
      clear A90
      by_cases c10 : t221 = true
      · subst c10
        have H1 : ((edit_Norm.f t218).bind fun t222 => ((variorumref06_Same.f k t222 t218).bind fun t225 => (variorumlaw06_EditNorms.j0 k a1 t218 (!t225)))) = some r := by rw [if_pos rfl] at H; exact H
        clear H
        have H := H1
        clear H1
        replace H := Option.bind_eq_some_iff.mp H
        obtain ⟨t222, A110, H⟩ := H
        replace H : ((variorumref06_Same.f k t222 t218).bind fun t225 => (variorumlaw06_EditNorms.j0 k a1 t218 (!t225))) = some r := H
        have A11 := Aside0.mk A110
        clear A110
        replace H := Option.bind_eq_some_iff.mp H
        obtain ⟨t225, A120, H⟩ := H
        replace H : (variorumlaw06_EditNorms.j0 k a1 t218 (!t225)) = some r := H
        have A12 := Aside0.mk A120
        clear A120
        have H' := Aside0.mk H
        clear H
        obtain ⟨Ao13, co13, eo13⟩ := Kd.R_slice HO220.out
        subst eo13
        go_wp2_with (first | ((with_reducible refine gate_callee (f := 24) rfl ?_); refine goesL_ (some 19) rfl rfl Try.func24 (by kernel_rfl) rfl #[.slice Ao13 t218.length co13] rfl (by (try simp only [List.map_toArray, List.map_cons, List.map_nil]); first | done | rfl | (simp only [List.length_drop, List.length_take]; rfl)) ?_; (with_reducible refine (edit_Good.calls k _ _ t218 true _ ?side1 ?side2 A9.out).mono ?_); (case side1 => repeat (first | exact (Kd.R_reads' HO220.out).2.2 | (with_reducible refine Kd.C_alloc ?_ _) | (with_reducible refine Kd.C_drewN ?_ _) | (with_reducible refine Kd.C_drew ?_))); (case side2 => exact (Kd.R_reads' HO220.out).2.1); rintro e w14 ⟨rfl, hb⟩; refine ⟨_, rfl, ?_⟩; have n0_ := Aside0.mk (Kd.R_below (by (with_reducible repeat (first | apply Kd.R_alloc | apply Kd.R_drewN | apply Kd.R_drew)); exact HO220.out) hb); have n1_ := Aside0.mk (below_step (by repeat (first | (with_reducible first | exact HB.out | apply below_alloc | apply pw_below_drewN | apply below_drew1) | exact HB.out)) hb); clear HO220; clear HB; have HO220 := n0_; have HB := n1_; clear n0_ n1_; (try clear hb); (try clear hb2); (try clear hk); (try clear hi)) | (go_at_call 23; (with_reducible refine (edit_Norm.calls _ _ t218 t222 _ ?side1 ?side2 A11.out).mono ?_); (case side1 => repeat (first | exact (Kd.R_reads' HO220.out).2.2 | (with_reducible refine Kd.C_alloc ?_ _) | (with_reducible refine Kd.C_drewN ?_ _) | (with_reducible refine Kd.C_drew ?_))); (case side2 => exact (Kd.R_reads' HO220.out).2.1); rintro e w15 ⟨v223, rfl, ho0, hb⟩; have n0_ := Aside0.mk (Kd.R_elder' (by (with_reducible repeat (first | apply Kd.R_alloc | apply Kd.R_drewN | apply Kd.R_drew)); exact HO220.out) (Kd.R_base ho0) hb); have n1_ := Aside0.mk (Kd.R_lower (Kd.R_new' ho0 (Kd.R_lt (by (with_reducible repeat (first | apply Kd.R_alloc | apply Kd.R_drewN | apply Kd.R_drew)); exact HO220.out))) (below_size (by repeat (first | (with_reducible first | exact HB.out | apply below_alloc | apply pw_below_drewN | apply below_drew1) | exact HB.out)))); have n2_ := Aside0.mk (below_step (by repeat (first | (with_reducible first | exact HB.out | apply below_alloc | apply pw_below_drewN | apply below_drew1) | exact HB.out)) hb); clear HO220; clear HB; have HO220 := n0_; have HO224 := n1_; have HB := n2_; clear n0_ n1_ n2_; (try clear hb); (try clear hb2); (try clear hk); (try clear hi); (try clear ho0); obtain ⟨Ao16, co16, eo16⟩ := Kd.R_slice HO224.out; subst eo16) | (go_at_call 25; (with_reducible refine (variorumref06_Same.calls k _ _ t222 _ _ t218 t225 _ ?side1 ?side2 ?side3 ?side4 A12.out).mono ?_); (case side1 => repeat (first | exact (Kd.R_reads' HO224.out).2.2 | (with_reducible refine Kd.C_alloc ?_ _) | (with_reducible refine Kd.C_drewN ?_ _) | (with_reducible refine Kd.C_drew ?_))); (case side2 => exact (Kd.R_reads' HO224.out).2.1); (case side3 => repeat (first | exact (Kd.R_reads' HO220.out).2.2 | (with_reducible refine Kd.C_alloc ?_ _) | (with_reducible refine Kd.C_drewN ?_ _) | (with_reducible refine Kd.C_drew ?_))); (case side4 => exact (Kd.R_reads' HO220.out).2.1); rintro e w' ⟨rfl, ⟨nd, rfl⟩⟩))
        go_meet
        case rel => exact ⟨_, (!t225), (by first | rfl | (simp; done) | (simp [*]; done)), H', ⟨by first | omega | exact Nat.le_refl _⟩, ⟨by (with_reducible repeat (first | apply Kd.R_alloc | apply Kd.R_drewN | apply Kd.R_drew)); exact Kd.R_mono HO220.out (fun _ hk => trivial)⟩, ⟨by repeat (first | (with_reducible first | exact HB.out | apply below_alloc | apply pw_below_drewN | apply below_drew1) | exact HB.out)⟩⟩
      · replace c10 := Bool.eq_false_iff.mpr c10
        subst c10
        have H1 : (variorumlaw06_EditNorms.j0 k a1 t218 true) = some r := by rw [if_neg (show ¬ (false = true) by decide)] at H; exact H
        clear H
        have H := H1
        clear H1
        have H' := Aside0.mk H
        clear H
        obtain ⟨Ao17, co17, eo17⟩ := Kd.R_slice HO220.out
        subst eo17
        go_wp2_with (first | ((with_reducible refine gate_callee (f := 24) rfl ?_); refine goesL_ (some 19) rfl rfl Try.func24 (by kernel_rfl) rfl #[.slice Ao17 t218.length co17] rfl (by (try simp only [List.map_toArray, List.map_cons, List.map_nil]); first | done | rfl | (simp only [List.length_drop, List.length_take]; rfl)) ?_; (with_reducible refine (edit_Good.calls k _ _ t218 false _ ?side1 ?side2 A9.out).mono ?_); (case side1 => repeat (first | exact (Kd.R_reads' HO220.out).2.2 | (with_reducible refine Kd.C_alloc ?_ _) | (with_reducible refine Kd.C_drewN ?_ _) | (with_reducible refine Kd.C_drew ?_))); (case side2 => exact (Kd.R_reads' HO220.out).2.1); rintro e w18 ⟨rfl, hb⟩; refine ⟨_, rfl, ?_⟩; have n0_ := Aside0.mk (Kd.R_below (by (with_reducible repeat (first | apply Kd.R_alloc | apply Kd.R_drewN | apply Kd.R_drew)); exact HO220.out) hb); have n1_ := Aside0.mk (below_step (by repeat (first | (with_reducible first | exact HB.out | apply below_alloc | apply pw_below_drewN | apply below_drew1) | exact HB.out)) hb); clear HO220; clear HB; have HO220 := n0_; have HB := n1_; clear n0_ n1_; (try clear hb); (try clear hb2); (try clear hk); (try clear hi)))
        go_meet
        case rel => exact ⟨_, (true), (by first | rfl | (simp; done) | (simp [*]; done)), H', ⟨by first | omega | exact Nat.le_refl _⟩, ⟨by (with_reducible repeat (first | apply Kd.R_alloc | apply Kd.R_drewN | apply Kd.R_drew)); exact HO220.out⟩, ⟨by repeat (first | (with_reducible first | exact HB.out | apply below_alloc | apply pw_below_drewN | apply below_drew1) | exact HB.out)⟩⟩
    case rest =>
      clear HC6
      try clear c1
      try clear c2
      try clear p2
      try clear c4
      try clear c5
      try clear c10
      obtain ⟨kq, x27_5, rfl, HA, HJ5, HO_5, HB⟩ := hcut
      cases kq with
      | zero => exact absurd HA.out (by simp [variorumlaw06_EditNorms.j0])
      | succ kj5 =>
        have H := HA.out
        clear HA
        simp only [variorumlaw06_EditNorms.j0] at H
        by_cases c19 : x27_5 = true
        · subst c19
          have H1 : (some false) = some r := by rw [if_pos rfl] at H; exact H
          clear H
          have H := H1
          clear H1
          obtain rfl := Option.some.inj H
          go_wp2
          go_ret
          exact ⟨by first | rfl | (simp [errW_none, errW_some] <;> rfl) | (simp [*, errW_none, errW_some] <;> rfl), by repeat (first | (with_reducible first | exact HB.out | apply below_alloc | apply pw_below_drewN | apply below_drew1) | exact HB.out)⟩
        · replace c19 := Bool.eq_false_iff.mpr c19
          subst c19
          have H1 : (variorumlaw06_EditNorms.l0 kj5 a1 t218 ([] : List (S37)) 0 0 t218 (t218.length : Int) 0) = some r := by rw [if_neg (show ¬ (false = true) by decide)] at H; exact H
          clear H
          have H := H1
          clear H1
          have H' := Aside0.mk H
          clear H
          obtain ⟨Ao20, co20, eo20⟩ := Kd.R_slice HO_5.out
          subst eo20
          go_wp2
          go_loopg [6, 7, 8, 30] kj5 (fun kq v6 v7 v8 v30 w' => ∃ (x6_2 : List (S37)) (x7_2 : Int) (x8_2 : Int) (x30_2 : Int), v7 = .int .i64 x7_2 ∧ v8 = .int .i64 x8_2 ∧ v30 = .int .i64 x30_2 ∧ Aside0 (variorumlaw06_EditNorms.l0 kq a1 t218 x6_2 x7_2 x8_2 t218 (t218.length : Int) x30_2 = some r) ∧ Aside0 (kq ≤ kj5) ∧ Aside0 (Kd.R k37 37 w' w.heap.size (fun k_ => some k_ ≠ (v6 : Value).ownBlock) (.slice Ao20 t218.length co20) t218) ∧ Aside0 (Kd.R k37 37 w' w.heap.size (fun k_ => some k_ ≠ ((.slice Ao20 t218.length co20) : Value).ownBlock ∧ some k_ ≠ ((.slice Ao20 t218.length co20) : Value).ownBlock) v6 x6_2) ∧ Aside0 (Kd.R k37 37 w' w.heap.size (fun k_ => some k_ ≠ (v6 : Value).ownBlock) (.slice Ao20 t218.length co20) t218) ∧ Aside0 (Below w.heap.size w w'))
          case atStart => exact ⟨(([] : List (S37))), (0), (0), (0), (by first | rfl | (simp; done) | (simp [*]; done)), (by first | rfl | (simp; done) | (simp [*]; done)), (by first | rfl | (simp; done) | (simp [*]; done)), H', ⟨Nat.le_refl _⟩, ⟨by (with_reducible repeat (first | apply Kd.R_alloc | apply Kd.R_drewN | apply Kd.R_drew)); exact Kd.R_mono HO_5.out (fun _ hk => (by simp [Value.ownBlock]))⟩, ⟨by first | exact Kd.R_nil _ _ _ _ _ | exact Kd.N_nil _ _ _ _ _ | exact Kd.V_nil _ _ _ _ _ | exact Kd.Q_nil _ _ _ _ _ | exact Kd.S_nil _ _ _ _ _⟩, ⟨by (with_reducible repeat (first | apply Kd.R_alloc | apply Kd.R_drewN | apply Kd.R_drew)); exact Kd.R_mono HO_5.out (fun _ hk => (by simp [Value.ownBlock]))⟩, ⟨by repeat (first | (with_reducible first | exact HB.out | apply below_alloc | apply pw_below_drewN | apply below_drew1) | exact HB.out)⟩⟩
          case round =>
            clear H'
            try clear c1
            try clear c2
            try clear p2
            try clear c4
            try clear c5
            try clear c10
            try clear c19
            try clear p2
            obtain ⟨x6_2, x7_2, x8_2, x30_2, rfl, rfl, rfl, HA, HK2, HO_5, HO_6, HO_28, HB⟩ := hrel
            cases gk with
            | zero => exact absurd HA.out (by simp [variorumlaw06_EditNorms.l0])
            | succ k2 =>
              have H := HA.out
              clear HA
              simp only [variorumlaw06_EditNorms.l0] at H
              by_cases c21 : x30_2 < (t218.length : Int)
              · rw [if_pos c21] at H
                have c21b0 : decide (x30_2 < (t218.length : Int)) = true := decide_eq_true c21
                clear c21
                by_cases c22 : 0 ≤ x30_2
                · rw [if_pos c22] at H
                  have c22b0 : decide (0 ≤ x30_2) = true := decide_eq_true c22
                  clear c22
                  by_cases c23 : x30_2 < (t218.length : Int)
                  · rw [if_pos c23] at H
                    have c23b0 : decide (x30_2 < (t218.length : Int)) = true := decide_eq_true c23
                    clear c23
                    by_cases c24 : ((rd_T37 t218 x30_2).f0) > (wrap64 (Int.tmod (IntKind.u64.wrap (a1)) 7))
                    · rw [if_pos c24] at H
                      have c24b0 : decide ((wrap64 (Int.tmod (IntKind.u64.wrap (a1)) 7)) < ((rd_T37 t218 x30_2).f0)) = true := decide_eq_true c24
                      clear c24
                      obtain ⟨y228, hy228⟩ : ∃ y_ : List (S37), y_ = (([(⟨wrap64 (Int.tmod (IntKind.u64.wrap (a1)) 7), (⟨#[]⟩ : ByteArray), 0⟩ : S37), (⟨wrap64 (((rd_T37 t218 x30_2).f0) - (wrap64 (Int.tmod (IntKind.u64.wrap (a1)) 7))), (⟨#[]⟩ : ByteArray), 0⟩ : S37)] : List (S37))) := ⟨_, rfl⟩
                      replace H : (if x6_2.length + y228.length < 4398046511104 then (variorumlaw06_EditNorms.l0 k2 a1 t218 (x6_2 ++ y228) (wrap64 (x7_2 + (wrap64 (((rd_T37 t218 x30_2).f0) + ((rd_T37 t218 x30_2).f2))))) (wrap64 (x8_2 + (wrap64 (((rd_T37 t218 x30_2).f0) + (((rd_T37 t218 x30_2).f1).size : Int))))) t218 (t218.length : Int) (wrap64 (x30_2 + 1))) else (none)) = some r := by first | (rw [hy228]; with_reducible exact H) | (have H2_ := (Option.bind_some _ _).symm.trans H; rw [hy228]; with_reducible exact H2_) | (have H2_ := (Option.bind_some _ _).symm.trans H; with_reducible exact H2_) | with_reducible exact H | (rw [hy228]; exact H) | exact H
                      have Ny228 := Aside0.mk hy228
                      clear hy228
                      by_cases c25 : x6_2.length + y228.length < 4398046511104
                      · rw [if_pos c25] at H
                        have LMc25 := Aside0.mk c25
                        clear c25
                        obtain ⟨y231, hy231⟩ : ∃ y_ : List (S37), y_ = (x6_2 ++ y228) := ⟨_, rfl⟩
                        replace H : (variorumlaw06_EditNorms.l0 k2 a1 t218 y231 (wrap64 (x7_2 + (wrap64 (((rd_T37 t218 x30_2).f0) + ((rd_T37 t218 x30_2).f2))))) (wrap64 (x8_2 + (wrap64 (((rd_T37 t218 x30_2).f0) + (((rd_T37 t218 x30_2).f1).size : Int))))) t218 (t218.length : Int) (wrap64 (x30_2 + 1))) = some r := by first | (rw [hy231]; with_reducible exact H) | (have H2_ := (Option.bind_some _ _).symm.trans H; rw [hy231]; with_reducible exact H2_) | (have H2_ := (Option.bind_some _ _).symm.trans H; with_reducible exact H2_) | with_reducible exact H | (rw [hy231]; exact H) | exact H
                        have Ny231 := Aside0.mk hy231
                        clear hy231
                        have H' := Aside0.mk H
                        clear H
                        have p226 : 0 ≤ (x30_2 : Int) := of_decide_eq_true (by first | (with_reducible assumption) | assumption)
                        have q226 : x30_2 < (t218.length : Int) := of_decide_eq_true (by first | (with_reducible assumption) | assumption)
                        obtain ⟨ad226, e226, hx226_0, hx226_1, hx226_2⟩ := at_T37 (Kd.R_reads' HO_28.out).2.2 x30_2 p226 q226
                        cases e226
                        replace p226 := eq_true p226
                        replace q226 := eq_true q226
                        go_wp2_with (first | ((with_reducible refine gate_dst (N := 10) rfl ?_); refine box_event ?hg (N := 10) ?hd (cs := #[.int .i64 0, .string (⟨#[]⟩ : ByteArray), .int .i64 0]) (t := 37) ?hr ?_; (case hd => rfl); (case hg => rfl); (case hr => first | (go_simp; done) | (go_simp; rfl)); intro gb227 hg w26 hbox hb; have n0_ := Aside0.mk (Kd.R_below (Kd.R_elderB (by (with_reducible repeat (first | apply Kd.R_alloc | apply Kd.R_drewN | apply Kd.R_drew)); exact HO_5.out) gb227 (Nat.le_of_eq hg.symm)) hb); have n1_ := Aside0.mk (Kd.R_below (Kd.R_elderB (by (with_reducible repeat (first | apply Kd.R_alloc | apply Kd.R_drewN | apply Kd.R_drew)); exact HO_6.out) gb227 (Nat.le_of_eq hg.symm)) hb); have n2_ := Aside0.mk (Kd.R_below (Kd.R_elderB (by (with_reducible repeat (first | apply Kd.R_alloc | apply Kd.R_drewN | apply Kd.R_drew)); exact HO_28.out) gb227 (Nat.le_of_eq hg.symm)) hb); have n3_ := Aside0.mk (below_step (by repeat (first | (with_reducible first | exact HB.out | apply below_alloc | apply pw_below_drewN | apply below_drew1) | exact HB.out)) hb); have n4_ := Aside0.mk (hbox); have n5_ := Aside0.mk ((by rw [hg]; exact (below_size (by repeat (first | (with_reducible first | exact HB.out | apply below_alloc | apply pw_below_drewN | apply below_drew1) | exact HB.out))) : w.heap.size ≤ gb227)); have n6_ := Aside0.mk ((by rw [hg]; exact (below_size (by repeat (first | (with_reducible first | exact HB.out | apply below_alloc | apply pw_below_drewN | apply below_drew1) | exact HB.out))) : w.heap.size ≤ gb227)); clear HO_5; clear HO_6; clear HO_28; clear HB; have HO_5 := n0_; have HO_6 := n1_; have HO_28 := n2_; have HB := n3_; have BK227 := n4_; have GW227 := n5_; have GE227 := n6_; clear n0_ n1_ n2_ n3_ n4_ n5_ n6_; clear hb hbox hg; have hcz27_0 : w26.cell? ⟨gb227, 0, none⟩ = some (.int .i64 0) := (blk_cell BK227.out 0).trans rfl; have hcz27_1 : w26.cell? ⟨gb227, 1, none⟩ = some (.string (⟨#[]⟩ : ByteArray)) := (blk_cell BK227.out 1).trans rfl; have hcz27_2 : w26.cell? ⟨gb227, 2, none⟩ = some (.int .i64 0) := (blk_cell BK227.out 2).trans rfl; have hfz27_0 := blk_frozen BK227.out 0; have hfz27_1 := blk_frozen BK227.out 1; have hfz27_2 := blk_frozen BK227.out 2) | ((with_reducible refine gate_dst (N := 65) rfl ?_); refine Kd.R_lit k37 _ 37 ?hg (N := 65) ?hd (xs := ([(⟨wrap64 (Int.tmod (IntKind.u64.wrap (a1)) 7), (⟨#[]⟩ : ByteArray), 0⟩ : S37), (⟨wrap64 (((rd_T37 t218 x30_2).f0) - (wrap64 (Int.tmod (IntKind.u64.wrap (a1)) 7))), (⟨#[]⟩ : ByteArray), 0⟩ : S37)] : List (S37))) (inner := [.int .i64 (wrap64 (Int.tmod (IntKind.u64.wrap (a1)) 7)), .string (⟨#[]⟩ : ByteArray), .int .i64 0, .int .i64 (wrap64 (((rd_T37 t218 x30_2).f0) - (wrap64 (Int.tmod (IntKind.u64.wrap (a1)) 7)))), .string (⟨#[]⟩ : ByteArray), .int .i64 0]) (ok := fun _ => True) (okp := fun _ => True) ?hr ?hp (fun _ hk => hk) trivial (Below.refl _ _) (Nat.le_refl _) (by simp) ?_; (case hd => rfl); (case hg => rfl); (case hr => first | (go_simp; done) | (go_simp; rfl)); (case hp => exact (Reps.c3 (show Kd.M k37 _ _ _ (⟨wrap64 (Int.tmod (IntKind.u64.wrap (a1)) 7), (⟨#[]⟩ : ByteArray), 0⟩ : S37) [.int .i64 (wrap64 (Int.tmod (IntKind.u64.wrap (a1)) 7)), .string (⟨#[]⟩ : ByteArray), .int .i64 0] from (k37_mkM _ _ _ (⟨wrap64 (Int.tmod (IntKind.u64.wrap (a1)) 7), (⟨#[]⟩ : ByteArray), 0⟩ : S37) )) (Reps.c3 (show Kd.M k37 _ _ _ (⟨wrap64 (((rd_T37 t218 x30_2).f0) - (wrap64 (Int.tmod (IntKind.u64.wrap (a1)) 7))), (⟨#[]⟩ : ByteArray), 0⟩ : S37) [.int .i64 (wrap64 (((rd_T37 t218 x30_2).f0) - (wrap64 (Int.tmod (IntKind.u64.wrap (a1)) 7)))), .string (⟨#[]⟩ : ByteArray), .int .i64 0] from (k37_mkM _ _ _ (⟨wrap64 (((rd_T37 t218 x30_2).f0) - (wrap64 (Int.tmod (IntKind.u64.wrap (a1)) 7))), (⟨#[]⟩ : ByteArray), 0⟩ : S37) )) (Reps.none _ _)))); intro v229 w28 ho29 hb hg_ hnew_; clear hg_ hnew_; (first | rw [← Ny228.out] at ho29 | (simp only [Int.reduceToNat] at ho29; rw [← Ny228.out] at ho29)); have n0_ := Aside0.mk (Kd.R_elder' (by (with_reducible repeat (first | apply Kd.R_alloc | apply Kd.R_drewN | apply Kd.R_drew)); exact (Kd.R_mono (Kd.R_far (p := ⟨gb227, 2, none⟩) (Kd.R_far (p := ⟨gb227, 1, none⟩) (Kd.R_far (p := ⟨gb227, 0, none⟩) (Kd.R_mono HO_5.out (fun k_ hk => (⟨hk, hk.2⟩ : _ ∧ k_ ≠ gb227))) (fun _ hk => hk.2) (.int .i64 ((rd_T37 t218 x30_2).f0))) (fun _ hk => hk.2) (.string ((rd_T37 t218 x30_2).f1))) (fun _ hk => hk.2) (.int .i64 ((rd_T37 t218 x30_2).f2))) (fun _ h_ => h_.1))) (Kd.R_base ho29) hb); have n1_ := Aside0.mk (Kd.R_elder' (by (with_reducible repeat (first | apply Kd.R_alloc | apply Kd.R_drewN | apply Kd.R_drew)); exact (Kd.R_mono (Kd.R_far (p := ⟨gb227, 2, none⟩) (Kd.R_far (p := ⟨gb227, 1, none⟩) (Kd.R_far (p := ⟨gb227, 0, none⟩) (Kd.R_mono HO_6.out (fun k_ hk => (⟨hk, hk.2⟩ : _ ∧ k_ ≠ gb227))) (fun _ hk => hk.2) (.int .i64 ((rd_T37 t218 x30_2).f0))) (fun _ hk => hk.2) (.string ((rd_T37 t218 x30_2).f1))) (fun _ hk => hk.2) (.int .i64 ((rd_T37 t218 x30_2).f2))) (fun _ h_ => h_.1))) (Kd.R_base ho29) hb); have n2_ := Aside0.mk (Kd.R_elder' (by (with_reducible repeat (first | apply Kd.R_alloc | apply Kd.R_drewN | apply Kd.R_drew)); exact (Kd.R_mono (Kd.R_far (p := ⟨gb227, 2, none⟩) (Kd.R_far (p := ⟨gb227, 1, none⟩) (Kd.R_far (p := ⟨gb227, 0, none⟩) (Kd.R_mono HO_28.out (fun k_ hk => (⟨hk, hk.2⟩ : _ ∧ k_ ≠ gb227))) (fun _ hk => hk.2) (.int .i64 ((rd_T37 t218 x30_2).f0))) (fun _ hk => hk.2) (.string ((rd_T37 t218 x30_2).f1))) (fun _ hk => hk.2) (.int .i64 ((rd_T37 t218 x30_2).f2))) (fun _ h_ => h_.1))) (Kd.R_base ho29) hb); have n3_ := Aside0.mk (Kd.R_lower (Kd.R_newB (Kd.R_new' (Kd.R_new' (Kd.R_new' ho29 (Kd.R_lt (by (with_reducible repeat (first | apply Kd.R_alloc | apply Kd.R_drewN | apply Kd.R_drew)); exact (Kd.R_mono (Kd.R_far (p := ⟨gb227, 2, none⟩) (Kd.R_far (p := ⟨gb227, 1, none⟩) (Kd.R_far (p := ⟨gb227, 0, none⟩) (Kd.R_mono HO_5.out (fun k_ hk => (⟨hk, hk.2⟩ : _ ∧ k_ ≠ gb227))) (fun _ hk => hk.2) (.int .i64 ((rd_T37 t218 x30_2).f0))) (fun _ hk => hk.2) (.string ((rd_T37 t218 x30_2).f1))) (fun _ hk => hk.2) (.int .i64 ((rd_T37 t218 x30_2).f2))) (fun _ h_ => h_.1))))) (Kd.R_lt (by (with_reducible repeat (first | apply Kd.R_alloc | apply Kd.R_drewN | apply Kd.R_drew)); exact (Kd.R_mono (Kd.R_far (p := ⟨gb227, 2, none⟩) (Kd.R_far (p := ⟨gb227, 1, none⟩) (Kd.R_far (p := ⟨gb227, 0, none⟩) (Kd.R_mono HO_6.out (fun k_ hk => (⟨hk, hk.2⟩ : _ ∧ k_ ≠ gb227))) (fun _ hk => hk.2) (.int .i64 ((rd_T37 t218 x30_2).f0))) (fun _ hk => hk.2) (.string ((rd_T37 t218 x30_2).f1))) (fun _ hk => hk.2) (.int .i64 ((rd_T37 t218 x30_2).f2))) (fun _ h_ => h_.1))))) (Kd.R_lt (by (with_reducible repeat (first | apply Kd.R_alloc | apply Kd.R_drewN | apply Kd.R_drew)); exact (Kd.R_mono (Kd.R_far (p := ⟨gb227, 2, none⟩) (Kd.R_far (p := ⟨gb227, 1, none⟩) (Kd.R_far (p := ⟨gb227, 0, none⟩) (Kd.R_mono HO_28.out (fun k_ hk => (⟨hk, hk.2⟩ : _ ∧ k_ ≠ gb227))) (fun _ hk => hk.2) (.int .i64 ((rd_T37 t218 x30_2).f0))) (fun _ hk => hk.2) (.string ((rd_T37 t218 x30_2).f1))) (fun _ hk => hk.2) (.int .i64 ((rd_T37 t218 x30_2).f2))) (fun _ h_ => h_.1))))) (g := gb227) (o := .cells #[.int .i64 ((rd_T37 t218 x30_2).f0), .string ((rd_T37 t218 x30_2).f1), .int .i64 ((rd_T37 t218 x30_2).f2)] 37 (0, 0)) (by (with_reducible repeat (first | refine blk_drewN ?_ _ | refine blk_drew ?_ | refine blk_alloc ?_ _)); refine blk_put (cs := #[.int .i64 ((rd_T37 t218 x30_2).f0), .string ((rd_T37 t218 x30_2).f1), .int .i64 0]) ?_ 2 _ rfl; (with_reducible repeat (first | refine blk_drewN ?_ _ | refine blk_drew ?_ | refine blk_alloc ?_ _)); refine blk_put (cs := #[.int .i64 ((rd_T37 t218 x30_2).f0), .string (⟨#[]⟩ : ByteArray), .int .i64 0]) ?_ 1 _ rfl; (with_reducible repeat (first | refine blk_drewN ?_ _ | refine blk_drew ?_ | refine blk_alloc ?_ _)); refine blk_put (cs := #[.int .i64 0, .string (⟨#[]⟩ : ByteArray), .int .i64 0]) ?_ 0 _ rfl; (with_reducible repeat (first | refine blk_drewN ?_ _ | refine blk_drew ?_ | refine blk_alloc ?_ _)); exact BK227.out)) (below_size (by repeat (first | (with_reducible first | exact HB.out | apply below_alloc | apply pw_below_drewN | apply below_drew1 | refine below_set ?_ GE227.out) | exact HB.out)))); have n4_ := Aside0.mk (blk_below (g := gb227) (o := .cells #[.int .i64 ((rd_T37 t218 x30_2).f0), .string ((rd_T37 t218 x30_2).f1), .int .i64 ((rd_T37 t218 x30_2).f2)] 37 (0, 0)) (by (with_reducible repeat (first | refine blk_drewN ?_ _ | refine blk_drew ?_ | refine blk_alloc ?_ _)); refine blk_put (cs := #[.int .i64 ((rd_T37 t218 x30_2).f0), .string ((rd_T37 t218 x30_2).f1), .int .i64 0]) ?_ 2 _ rfl; (with_reducible repeat (first | refine blk_drewN ?_ _ | refine blk_drew ?_ | refine blk_alloc ?_ _)); refine blk_put (cs := #[.int .i64 ((rd_T37 t218 x30_2).f0), .string (⟨#[]⟩ : ByteArray), .int .i64 0]) ?_ 1 _ rfl; (with_reducible repeat (first | refine blk_drewN ?_ _ | refine blk_drew ?_ | refine blk_alloc ?_ _)); refine blk_put (cs := #[.int .i64 0, .string (⟨#[]⟩ : ByteArray), .int .i64 0]) ?_ 0 _ rfl; (with_reducible repeat (first | refine blk_drewN ?_ _ | refine blk_drew ?_ | refine blk_alloc ?_ _)); exact BK227.out) hb); have n5_ := Aside0.mk (below_step (by repeat (first | (with_reducible first | exact HB.out | apply below_alloc | apply pw_below_drewN | apply below_drew1 | refine below_set ?_ GE227.out) | exact HB.out)) hb); clear HO_5; clear HO_6; clear HO_28; clear BK227; clear HB; have HO_5 := n0_; have HO_6 := n1_; have HO_28 := n2_; have HO230 := n3_; have BK227 := n4_; have HB := n5_; clear n0_ n1_ n2_ n3_ n4_ n5_; clear hb ho29; obtain ⟨Ao31, co31, eo31⟩ := Kd.R_slice HO230.out; subst eo31) | ((with_reducible refine gate_builtin (b := .append) (xs := #[.tmp 57, .tmp 65]) rfl ?_); at_builtin; refine Kd.R_append_rows k37 (w0 := w) w.heap.size rfl (.tmp 57) (.tmp 65) 22 37 (.agg #[(.int .i64 0), (.string ⟨#[]⟩), (.int .i64 0)]) 32 rfl Try.underlying22 info37 rfl (by decide) (by omega) u6 x6_2 y228 _ _ _ (fun k_ => some k_ ≠ (.slice (some ad226) t218.length co20 : Value).ownBlock ∧ some k_ ≠ (.slice (some ad226) t218.length co20 : Value).ownBlock ∧ some k_ ≠ (.slice Ao31 y228.length co31 : Value).ownBlock ∧ k_ ≠ gb227) (fun _ => False) rfl rfl ?aO ?aR (fun _ _ h => h) (fun _ h => h.elim) ?aF ?aB ?aS ?aL ?_; (case aR => repeat (first | exact (Kd.R_reads' HO230.out).2.2 | (with_reducible refine Kd.C_alloc ?_ _) | (with_reducible refine Kd.C_drewN ?_ _) | (with_reducible refine Kd.C_drew ?_))); (case aB => exact (by repeat (first | (with_reducible first | exact HB.out | apply below_alloc | apply pw_below_drewN | apply below_drew1 | refine below_set ?_ GE227.out) | exact HB.out))); (case aF => exact (fun k_ hk => ⟨Kd.fresh' (Kd.R_lt (by (with_reducible repeat (first | apply Kd.R_alloc | apply Kd.R_drewN | apply Kd.R_drew)); exact HO_5.out)) k_ hk, Kd.fresh' (Kd.R_lt (by (with_reducible repeat (first | apply Kd.R_alloc | apply Kd.R_drewN | apply Kd.R_drew)); exact HO_28.out)) k_ hk, Kd.fresh' (Kd.R_lt (by (with_reducible repeat (first | apply Kd.R_alloc | apply Kd.R_drewN | apply Kd.R_drew)); exact HO230.out)) k_ hk, Kd.freshB (g := gb227) (o := .cells #[.int .i64 ((rd_T37 t218 x30_2).f0), .string ((rd_T37 t218 x30_2).f1), .int .i64 ((rd_T37 t218 x30_2).f2)] 37 (0, 0)) (by (with_reducible repeat (first | refine blk_drewN ?_ _ | refine blk_drew ?_ | refine blk_alloc ?_ _)); exact BK227.out) k_ hk⟩)); (case aO => exact (by (with_reducible repeat (first | apply Kd.R_alloc | apply Kd.R_drewN | apply Kd.R_drew)); exact Kd.R_mono HO_6.out (fun _ hk => ⟨hk.1.1.1, ⟨hk.1.1.2, ⟨hk.2, hk.1.2⟩⟩⟩))); (case aS => exact (below_size (by repeat (first | (with_reducible first | exact HB.out | apply below_alloc | apply pw_below_drewN | apply below_drew1 | refine below_set ?_ GE227.out) | exact HB.out)))); (case aL => have := LMc25.out; omega); intro v232 w30 ho hb hg hat; rw [← Ny231.out] at ho; have n0_ := Aside0.mk (Kd.R_after (ok := (fun k_ => some k_ ≠ (.slice Ao31 y228.length co31 : Value).ownBlock ∧ k_ ≠ gb227)) (by (with_reducible repeat (first | apply Kd.R_alloc | apply Kd.R_drewN | apply Kd.R_drew)); exact Kd.R_mono HO_5.out (fun _ hk => ⟨⟨hk.2, hk.1.2⟩, hk.1.1⟩)) hg hat); have n1_ := Aside0.mk (Kd.R_after (ok := (fun k_ => some k_ ≠ (.slice Ao31 y228.length co31 : Value).ownBlock ∧ k_ ≠ gb227)) (by (with_reducible repeat (first | apply Kd.R_alloc | apply Kd.R_drewN | apply Kd.R_drew)); exact Kd.R_mono HO_28.out (fun _ hk => ⟨⟨hk.2, hk.1.2⟩, hk.1.1⟩)) hg hat); have n2_ := Aside0.mk (blk_grown (g := gb227) (o := .cells #[.int .i64 ((rd_T37 t218 x30_2).f0), .string ((rd_T37 t218 x30_2).f1), .int .i64 ((rd_T37 t218 x30_2).f2)] 37 (0, 0)) (by (with_reducible repeat (first | refine blk_drewN ?_ _ | refine blk_drew ?_ | refine blk_alloc ?_ _)); exact BK227.out) hg (Kd.R_away HO_6.out (fun _ hk => hk.1.2))); have n3_ := Aside0.mk (Kd.R_after (ok := (fun k_ => some k_ ≠ (.slice (some ad226) t218.length co20 : Value).ownBlock ∧ some k_ ≠ (.slice (some ad226) t218.length co20 : Value).ownBlock ∧ k_ ≠ gb227)) (by (with_reducible repeat (first | apply Kd.R_alloc | apply Kd.R_drewN | apply Kd.R_drew)); exact Kd.R_mono HO230.out (fun _ hk => ⟨⟨hk.1.1.1.2, ⟨hk.1.2, hk.2⟩⟩, hk.1.1.2⟩)) hg hat); have n4_ := Aside0.mk (hb); have n5_ := Aside0.mk (ho); clear HO_5; clear HO_28; clear BK227; clear HO230; clear HB; clear HO_6; have HO_5 := n0_; have HO_28 := n1_; have BK227 := n2_; have HO230 := n3_; have HB := n4_; have HO233 := n5_; clear n0_ n1_ n2_ n3_ n4_ n5_; clear ho hb hg hat))
                        go_roundg k2
                        case measure => have := HJ5.out; have := HK2.out; omega
                        case rel => exact ⟨(y231), (wrap64 (x7_2 + (wrap64 (((rd_T37 t218 x30_2).f0) + ((rd_T37 t218 x30_2).f2))))), (wrap64 (x8_2 + (wrap64 (((rd_T37 t218 x30_2).f0) + (((rd_T37 t218 x30_2).f1).size : Int))))), (wrap64 (x30_2 + 1)), (by first | rfl | (simp; done) | (simp [*]; done)), (by first | rfl | (simp; done) | (simp [*]; done)), (by first | rfl | (simp; done) | (simp [*]; done)), H', ⟨by have := HJ5.out; have := HK2.out; omega⟩, ⟨by (with_reducible repeat (first | apply Kd.R_alloc | apply Kd.R_drewN | apply Kd.R_drew)); exact Kd.R_mono HO_5.out (fun _ hk => hk.2)⟩, ⟨by (with_reducible repeat (first | apply Kd.R_alloc | apply Kd.R_drewN | apply Kd.R_drew)); exact Kd.R_mono HO233.out (fun _ hk => ⟨hk.1, hk.2.1⟩)⟩, ⟨by (with_reducible repeat (first | apply Kd.R_alloc | apply Kd.R_drewN | apply Kd.R_drew)); exact Kd.R_mono HO_28.out (fun _ hk => hk.2)⟩, ⟨by repeat (first | (with_reducible first | exact HB.out | apply below_alloc | apply pw_below_drewN | apply below_drew1 | refine below_set ?_ GE227.out) | exact HB.out)⟩⟩
                      · rw [if_neg c25] at H
                        exact absurd H (by simp)
                    · rw [if_neg c24] at H
                      have c24b0 : decide ((wrap64 (Int.tmod (IntKind.u64.wrap (a1)) 7)) < ((rd_T37 t218 x30_2).f0)) = false := decide_eq_false c24
                      clear c24
                      by_cases c32 : ((rd_T37 t218 x30_2).f2) > (wrap64 (Int.tmod (IntKind.u64.wrap (a1)) 7))
                      · rw [if_pos c32] at H
                        have c32b0 : decide ((wrap64 (Int.tmod (IntKind.u64.wrap (a1)) 7)) < ((rd_T37 t218 x30_2).f2)) = true := decide_eq_true c32
                        clear c32
                        obtain ⟨y234, hy234⟩ : ∃ y_ : List (S37), y_ = (([(⟨0, (⟨#[]⟩ : ByteArray), wrap64 (Int.tmod (IntKind.u64.wrap (a1)) 7)⟩ : S37), (⟨0, (⟨#[]⟩ : ByteArray), wrap64 (((rd_T37 t218 x30_2).f2) - (wrap64 (Int.tmod (IntKind.u64.wrap (a1)) 7)))⟩ : S37)] : List (S37))) := ⟨_, rfl⟩
                        replace H : (if x6_2.length + y234.length < 4398046511104 then (variorumlaw06_EditNorms.l0 k2 a1 t218 (x6_2 ++ y234) (wrap64 (x7_2 + (wrap64 (((rd_T37 t218 x30_2).f0) + ((rd_T37 t218 x30_2).f2))))) (wrap64 (x8_2 + (wrap64 (((rd_T37 t218 x30_2).f0) + (((rd_T37 t218 x30_2).f1).size : Int))))) t218 (t218.length : Int) (wrap64 (x30_2 + 1))) else (none)) = some r := by first | (rw [hy234]; with_reducible exact H) | (have H2_ := (Option.bind_some _ _).symm.trans H; rw [hy234]; with_reducible exact H2_) | (have H2_ := (Option.bind_some _ _).symm.trans H; with_reducible exact H2_) | with_reducible exact H | (rw [hy234]; exact H) | exact H
                        have Ny234 := Aside0.mk hy234
                        clear hy234
                        by_cases c33 : x6_2.length + y234.length < 4398046511104
                        · rw [if_pos c33] at H
                          have LMc33 := Aside0.mk c33
                          clear c33
                          obtain ⟨y237, hy237⟩ : ∃ y_ : List (S37), y_ = (x6_2 ++ y234) := ⟨_, rfl⟩
                          replace H : (variorumlaw06_EditNorms.l0 k2 a1 t218 y237 (wrap64 (x7_2 + (wrap64 (((rd_T37 t218 x30_2).f0) + ((rd_T37 t218 x30_2).f2))))) (wrap64 (x8_2 + (wrap64 (((rd_T37 t218 x30_2).f0) + (((rd_T37 t218 x30_2).f1).size : Int))))) t218 (t218.length : Int) (wrap64 (x30_2 + 1))) = some r := by first | (rw [hy237]; with_reducible exact H) | (have H2_ := (Option.bind_some _ _).symm.trans H; rw [hy237]; with_reducible exact H2_) | (have H2_ := (Option.bind_some _ _).symm.trans H; with_reducible exact H2_) | with_reducible exact H | (rw [hy237]; exact H) | exact H
                          have Ny237 := Aside0.mk hy237
                          clear hy237
                          have H' := Aside0.mk H
                          clear H
                          have p226 : 0 ≤ (x30_2 : Int) := of_decide_eq_true (by first | (with_reducible assumption) | assumption)
                          have q226 : x30_2 < (t218.length : Int) := of_decide_eq_true (by first | (with_reducible assumption) | assumption)
                          obtain ⟨ad226, e226, hx226_0, hx226_1, hx226_2⟩ := at_T37 (Kd.R_reads' HO_28.out).2.2 x30_2 p226 q226
                          cases e226
                          replace p226 := eq_true p226
                          replace q226 := eq_true q226
                          go_wp2_with (first | ((with_reducible refine gate_dst (N := 10) rfl ?_); refine box_event ?hg (N := 10) ?hd (cs := #[.int .i64 0, .string (⟨#[]⟩ : ByteArray), .int .i64 0]) (t := 37) ?hr ?_; (case hd => rfl); (case hg => rfl); (case hr => first | (go_simp; done) | (go_simp; rfl)); intro gb227 hg w34 hbox hb; have n0_ := Aside0.mk (Kd.R_below (Kd.R_elderB (by (with_reducible repeat (first | apply Kd.R_alloc | apply Kd.R_drewN | apply Kd.R_drew)); exact HO_5.out) gb227 (Nat.le_of_eq hg.symm)) hb); have n1_ := Aside0.mk (Kd.R_below (Kd.R_elderB (by (with_reducible repeat (first | apply Kd.R_alloc | apply Kd.R_drewN | apply Kd.R_drew)); exact HO_6.out) gb227 (Nat.le_of_eq hg.symm)) hb); have n2_ := Aside0.mk (Kd.R_below (Kd.R_elderB (by (with_reducible repeat (first | apply Kd.R_alloc | apply Kd.R_drewN | apply Kd.R_drew)); exact HO_28.out) gb227 (Nat.le_of_eq hg.symm)) hb); have n3_ := Aside0.mk (below_step (by repeat (first | (with_reducible first | exact HB.out | apply below_alloc | apply pw_below_drewN | apply below_drew1) | exact HB.out)) hb); have n4_ := Aside0.mk (hbox); have n5_ := Aside0.mk ((by rw [hg]; exact (below_size (by repeat (first | (with_reducible first | exact HB.out | apply below_alloc | apply pw_below_drewN | apply below_drew1) | exact HB.out))) : w.heap.size ≤ gb227)); have n6_ := Aside0.mk ((by rw [hg]; exact (below_size (by repeat (first | (with_reducible first | exact HB.out | apply below_alloc | apply pw_below_drewN | apply below_drew1) | exact HB.out))) : w.heap.size ≤ gb227)); clear HO_5; clear HO_6; clear HO_28; clear HB; have HO_5 := n0_; have HO_6 := n1_; have HO_28 := n2_; have HB := n3_; have BK227 := n4_; have GW227 := n5_; have GE227 := n6_; clear n0_ n1_ n2_ n3_ n4_ n5_ n6_; clear hb hbox hg; have hcz35_0 : w34.cell? ⟨gb227, 0, none⟩ = some (.int .i64 0) := (blk_cell BK227.out 0).trans rfl; have hcz35_1 : w34.cell? ⟨gb227, 1, none⟩ = some (.string (⟨#[]⟩ : ByteArray)) := (blk_cell BK227.out 1).trans rfl; have hcz35_2 : w34.cell? ⟨gb227, 2, none⟩ = some (.int .i64 0) := (blk_cell BK227.out 2).trans rfl; have hfz35_0 := blk_frozen BK227.out 0; have hfz35_1 := blk_frozen BK227.out 1; have hfz35_2 := blk_frozen BK227.out 2) | ((with_reducible refine gate_dst (N := 79) rfl ?_); refine Kd.R_lit k37 _ 37 ?hg (N := 79) ?hd (xs := ([(⟨0, (⟨#[]⟩ : ByteArray), wrap64 (Int.tmod (IntKind.u64.wrap (a1)) 7)⟩ : S37), (⟨0, (⟨#[]⟩ : ByteArray), wrap64 (((rd_T37 t218 x30_2).f2) - (wrap64 (Int.tmod (IntKind.u64.wrap (a1)) 7)))⟩ : S37)] : List (S37))) (inner := [.int .i64 0, .string (⟨#[]⟩ : ByteArray), .int .i64 (wrap64 (Int.tmod (IntKind.u64.wrap (a1)) 7)), .int .i64 0, .string (⟨#[]⟩ : ByteArray), .int .i64 (wrap64 (((rd_T37 t218 x30_2).f2) - (wrap64 (Int.tmod (IntKind.u64.wrap (a1)) 7))))]) (ok := fun _ => True) (okp := fun _ => True) ?hr ?hp (fun _ hk => hk) trivial (Below.refl _ _) (Nat.le_refl _) (by simp) ?_; (case hd => rfl); (case hg => rfl); (case hr => first | (go_simp; done) | (go_simp; rfl)); (case hp => exact (Reps.c3 (show Kd.M k37 _ _ _ (⟨0, (⟨#[]⟩ : ByteArray), wrap64 (Int.tmod (IntKind.u64.wrap (a1)) 7)⟩ : S37) [.int .i64 0, .string (⟨#[]⟩ : ByteArray), .int .i64 (wrap64 (Int.tmod (IntKind.u64.wrap (a1)) 7))] from (k37_mkM _ _ _ (⟨0, (⟨#[]⟩ : ByteArray), wrap64 (Int.tmod (IntKind.u64.wrap (a1)) 7)⟩ : S37) )) (Reps.c3 (show Kd.M k37 _ _ _ (⟨0, (⟨#[]⟩ : ByteArray), wrap64 (((rd_T37 t218 x30_2).f2) - (wrap64 (Int.tmod (IntKind.u64.wrap (a1)) 7)))⟩ : S37) [.int .i64 0, .string (⟨#[]⟩ : ByteArray), .int .i64 (wrap64 (((rd_T37 t218 x30_2).f2) - (wrap64 (Int.tmod (IntKind.u64.wrap (a1)) 7))))] from (k37_mkM _ _ _ (⟨0, (⟨#[]⟩ : ByteArray), wrap64 (((rd_T37 t218 x30_2).f2) - (wrap64 (Int.tmod (IntKind.u64.wrap (a1)) 7)))⟩ : S37) )) (Reps.none _ _)))); intro v235 w36 ho37 hb hg_ hnew_; clear hg_ hnew_; (first | rw [← Ny234.out] at ho37 | (simp only [Int.reduceToNat] at ho37; rw [← Ny234.out] at ho37)); have n0_ := Aside0.mk (Kd.R_elder' (by (with_reducible repeat (first | apply Kd.R_alloc | apply Kd.R_drewN | apply Kd.R_drew)); exact (Kd.R_mono (Kd.R_far (p := ⟨gb227, 2, none⟩) (Kd.R_far (p := ⟨gb227, 1, none⟩) (Kd.R_far (p := ⟨gb227, 0, none⟩) (Kd.R_mono HO_5.out (fun k_ hk => (⟨hk, hk.2⟩ : _ ∧ k_ ≠ gb227))) (fun _ hk => hk.2) (.int .i64 ((rd_T37 t218 x30_2).f0))) (fun _ hk => hk.2) (.string ((rd_T37 t218 x30_2).f1))) (fun _ hk => hk.2) (.int .i64 ((rd_T37 t218 x30_2).f2))) (fun _ h_ => h_.1))) (Kd.R_base ho37) hb); have n1_ := Aside0.mk (Kd.R_elder' (by (with_reducible repeat (first | apply Kd.R_alloc | apply Kd.R_drewN | apply Kd.R_drew)); exact (Kd.R_mono (Kd.R_far (p := ⟨gb227, 2, none⟩) (Kd.R_far (p := ⟨gb227, 1, none⟩) (Kd.R_far (p := ⟨gb227, 0, none⟩) (Kd.R_mono HO_6.out (fun k_ hk => (⟨hk, hk.2⟩ : _ ∧ k_ ≠ gb227))) (fun _ hk => hk.2) (.int .i64 ((rd_T37 t218 x30_2).f0))) (fun _ hk => hk.2) (.string ((rd_T37 t218 x30_2).f1))) (fun _ hk => hk.2) (.int .i64 ((rd_T37 t218 x30_2).f2))) (fun _ h_ => h_.1))) (Kd.R_base ho37) hb); have n2_ := Aside0.mk (Kd.R_elder' (by (with_reducible repeat (first | apply Kd.R_alloc | apply Kd.R_drewN | apply Kd.R_drew)); exact (Kd.R_mono (Kd.R_far (p := ⟨gb227, 2, none⟩) (Kd.R_far (p := ⟨gb227, 1, none⟩) (Kd.R_far (p := ⟨gb227, 0, none⟩) (Kd.R_mono HO_28.out (fun k_ hk => (⟨hk, hk.2⟩ : _ ∧ k_ ≠ gb227))) (fun _ hk => hk.2) (.int .i64 ((rd_T37 t218 x30_2).f0))) (fun _ hk => hk.2) (.string ((rd_T37 t218 x30_2).f1))) (fun _ hk => hk.2) (.int .i64 ((rd_T37 t218 x30_2).f2))) (fun _ h_ => h_.1))) (Kd.R_base ho37) hb); have n3_ := Aside0.mk (Kd.R_lower (Kd.R_newB (Kd.R_new' (Kd.R_new' (Kd.R_new' ho37 (Kd.R_lt (by (with_reducible repeat (first | apply Kd.R_alloc | apply Kd.R_drewN | apply Kd.R_drew)); exact (Kd.R_mono (Kd.R_far (p := ⟨gb227, 2, none⟩) (Kd.R_far (p := ⟨gb227, 1, none⟩) (Kd.R_far (p := ⟨gb227, 0, none⟩) (Kd.R_mono HO_5.out (fun k_ hk => (⟨hk, hk.2⟩ : _ ∧ k_ ≠ gb227))) (fun _ hk => hk.2) (.int .i64 ((rd_T37 t218 x30_2).f0))) (fun _ hk => hk.2) (.string ((rd_T37 t218 x30_2).f1))) (fun _ hk => hk.2) (.int .i64 ((rd_T37 t218 x30_2).f2))) (fun _ h_ => h_.1))))) (Kd.R_lt (by (with_reducible repeat (first | apply Kd.R_alloc | apply Kd.R_drewN | apply Kd.R_drew)); exact (Kd.R_mono (Kd.R_far (p := ⟨gb227, 2, none⟩) (Kd.R_far (p := ⟨gb227, 1, none⟩) (Kd.R_far (p := ⟨gb227, 0, none⟩) (Kd.R_mono HO_6.out (fun k_ hk => (⟨hk, hk.2⟩ : _ ∧ k_ ≠ gb227))) (fun _ hk => hk.2) (.int .i64 ((rd_T37 t218 x30_2).f0))) (fun _ hk => hk.2) (.string ((rd_T37 t218 x30_2).f1))) (fun _ hk => hk.2) (.int .i64 ((rd_T37 t218 x30_2).f2))) (fun _ h_ => h_.1))))) (Kd.R_lt (by (with_reducible repeat (first | apply Kd.R_alloc | apply Kd.R_drewN | apply Kd.R_drew)); exact (Kd.R_mono (Kd.R_far (p := ⟨gb227, 2, none⟩) (Kd.R_far (p := ⟨gb227, 1, none⟩) (Kd.R_far (p := ⟨gb227, 0, none⟩) (Kd.R_mono HO_28.out (fun k_ hk => (⟨hk, hk.2⟩ : _ ∧ k_ ≠ gb227))) (fun _ hk => hk.2) (.int .i64 ((rd_T37 t218 x30_2).f0))) (fun _ hk => hk.2) (.string ((rd_T37 t218 x30_2).f1))) (fun _ hk => hk.2) (.int .i64 ((rd_T37 t218 x30_2).f2))) (fun _ h_ => h_.1))))) (g := gb227) (o := .cells #[.int .i64 ((rd_T37 t218 x30_2).f0), .string ((rd_T37 t218 x30_2).f1), .int .i64 ((rd_T37 t218 x30_2).f2)] 37 (0, 0)) (by (with_reducible repeat (first | refine blk_drewN ?_ _ | refine blk_drew ?_ | refine blk_alloc ?_ _)); refine blk_put (cs := #[.int .i64 ((rd_T37 t218 x30_2).f0), .string ((rd_T37 t218 x30_2).f1), .int .i64 0]) ?_ 2 _ rfl; (with_reducible repeat (first | refine blk_drewN ?_ _ | refine blk_drew ?_ | refine blk_alloc ?_ _)); refine blk_put (cs := #[.int .i64 ((rd_T37 t218 x30_2).f0), .string (⟨#[]⟩ : ByteArray), .int .i64 0]) ?_ 1 _ rfl; (with_reducible repeat (first | refine blk_drewN ?_ _ | refine blk_drew ?_ | refine blk_alloc ?_ _)); refine blk_put (cs := #[.int .i64 0, .string (⟨#[]⟩ : ByteArray), .int .i64 0]) ?_ 0 _ rfl; (with_reducible repeat (first | refine blk_drewN ?_ _ | refine blk_drew ?_ | refine blk_alloc ?_ _)); exact BK227.out)) (below_size (by repeat (first | (with_reducible first | exact HB.out | apply below_alloc | apply pw_below_drewN | apply below_drew1 | refine below_set ?_ GE227.out) | exact HB.out)))); have n4_ := Aside0.mk (blk_below (g := gb227) (o := .cells #[.int .i64 ((rd_T37 t218 x30_2).f0), .string ((rd_T37 t218 x30_2).f1), .int .i64 ((rd_T37 t218 x30_2).f2)] 37 (0, 0)) (by (with_reducible repeat (first | refine blk_drewN ?_ _ | refine blk_drew ?_ | refine blk_alloc ?_ _)); refine blk_put (cs := #[.int .i64 ((rd_T37 t218 x30_2).f0), .string ((rd_T37 t218 x30_2).f1), .int .i64 0]) ?_ 2 _ rfl; (with_reducible repeat (first | refine blk_drewN ?_ _ | refine blk_drew ?_ | refine blk_alloc ?_ _)); refine blk_put (cs := #[.int .i64 ((rd_T37 t218 x30_2).f0), .string (⟨#[]⟩ : ByteArray), .int .i64 0]) ?_ 1 _ rfl; (with_reducible repeat (first | refine blk_drewN ?_ _ | refine blk_drew ?_ | refine blk_alloc ?_ _)); refine blk_put (cs := #[.int .i64 0, .string (⟨#[]⟩ : ByteArray), .int .i64 0]) ?_ 0 _ rfl; (with_reducible repeat (first | refine blk_drewN ?_ _ | refine blk_drew ?_ | refine blk_alloc ?_ _)); exact BK227.out) hb); have n5_ := Aside0.mk (below_step (by repeat (first | (with_reducible first | exact HB.out | apply below_alloc | apply pw_below_drewN | apply below_drew1 | refine below_set ?_ GE227.out) | exact HB.out)) hb); clear HO_5; clear HO_6; clear HO_28; clear BK227; clear HB; have HO_5 := n0_; have HO_6 := n1_; have HO_28 := n2_; have HO236 := n3_; have BK227 := n4_; have HB := n5_; clear n0_ n1_ n2_ n3_ n4_ n5_; clear hb ho37; obtain ⟨Ao39, co39, eo39⟩ := Kd.R_slice HO236.out; subst eo39) | ((with_reducible refine gate_builtin (b := .append) (xs := #[.tmp 71, .tmp 79]) rfl ?_); at_builtin; refine Kd.R_append_rows k37 (w0 := w) w.heap.size rfl (.tmp 71) (.tmp 79) 22 37 (.agg #[(.int .i64 0), (.string ⟨#[]⟩), (.int .i64 0)]) 32 rfl Try.underlying22 info37 rfl (by decide) (by omega) u6 x6_2 y234 _ _ _ (fun k_ => some k_ ≠ (.slice (some ad226) t218.length co20 : Value).ownBlock ∧ some k_ ≠ (.slice (some ad226) t218.length co20 : Value).ownBlock ∧ some k_ ≠ (.slice Ao39 y234.length co39 : Value).ownBlock ∧ k_ ≠ gb227) (fun _ => False) rfl rfl ?aO ?aR (fun _ _ h => h) (fun _ h => h.elim) ?aF ?aB ?aS ?aL ?_; (case aR => repeat (first | exact (Kd.R_reads' HO236.out).2.2 | (with_reducible refine Kd.C_alloc ?_ _) | (with_reducible refine Kd.C_drewN ?_ _) | (with_reducible refine Kd.C_drew ?_))); (case aB => exact (by repeat (first | (with_reducible first | exact HB.out | apply below_alloc | apply pw_below_drewN | apply below_drew1 | refine below_set ?_ GE227.out) | exact HB.out))); (case aF => exact (fun k_ hk => ⟨Kd.fresh' (Kd.R_lt (by (with_reducible repeat (first | apply Kd.R_alloc | apply Kd.R_drewN | apply Kd.R_drew)); exact HO_5.out)) k_ hk, Kd.fresh' (Kd.R_lt (by (with_reducible repeat (first | apply Kd.R_alloc | apply Kd.R_drewN | apply Kd.R_drew)); exact HO_28.out)) k_ hk, Kd.fresh' (Kd.R_lt (by (with_reducible repeat (first | apply Kd.R_alloc | apply Kd.R_drewN | apply Kd.R_drew)); exact HO236.out)) k_ hk, Kd.freshB (g := gb227) (o := .cells #[.int .i64 ((rd_T37 t218 x30_2).f0), .string ((rd_T37 t218 x30_2).f1), .int .i64 ((rd_T37 t218 x30_2).f2)] 37 (0, 0)) (by (with_reducible repeat (first | refine blk_drewN ?_ _ | refine blk_drew ?_ | refine blk_alloc ?_ _)); exact BK227.out) k_ hk⟩)); (case aO => exact (by (with_reducible repeat (first | apply Kd.R_alloc | apply Kd.R_drewN | apply Kd.R_drew)); exact Kd.R_mono HO_6.out (fun _ hk => ⟨hk.1.1.1, ⟨hk.1.1.2, ⟨hk.2, hk.1.2⟩⟩⟩))); (case aS => exact (below_size (by repeat (first | (with_reducible first | exact HB.out | apply below_alloc | apply pw_below_drewN | apply below_drew1 | refine below_set ?_ GE227.out) | exact HB.out)))); (case aL => have := LMc33.out; omega); intro v238 w38 ho hb hg hat; rw [← Ny237.out] at ho; have n0_ := Aside0.mk (Kd.R_after (ok := (fun k_ => some k_ ≠ (.slice Ao39 y234.length co39 : Value).ownBlock ∧ k_ ≠ gb227)) (by (with_reducible repeat (first | apply Kd.R_alloc | apply Kd.R_drewN | apply Kd.R_drew)); exact Kd.R_mono HO_5.out (fun _ hk => ⟨⟨hk.2, hk.1.2⟩, hk.1.1⟩)) hg hat); have n1_ := Aside0.mk (Kd.R_after (ok := (fun k_ => some k_ ≠ (.slice Ao39 y234.length co39 : Value).ownBlock ∧ k_ ≠ gb227)) (by (with_reducible repeat (first | apply Kd.R_alloc | apply Kd.R_drewN | apply Kd.R_drew)); exact Kd.R_mono HO_28.out (fun _ hk => ⟨⟨hk.2, hk.1.2⟩, hk.1.1⟩)) hg hat); have n2_ := Aside0.mk (blk_grown (g := gb227) (o := .cells #[.int .i64 ((rd_T37 t218 x30_2).f0), .string ((rd_T37 t218 x30_2).f1), .int .i64 ((rd_T37 t218 x30_2).f2)] 37 (0, 0)) (by (with_reducible repeat (first | refine blk_drewN ?_ _ | refine blk_drew ?_ | refine blk_alloc ?_ _)); exact BK227.out) hg (Kd.R_away HO_6.out (fun _ hk => hk.1.2))); have n3_ := Aside0.mk (Kd.R_after (ok := (fun k_ => some k_ ≠ (.slice (some ad226) t218.length co20 : Value).ownBlock ∧ some k_ ≠ (.slice (some ad226) t218.length co20 : Value).ownBlock ∧ k_ ≠ gb227)) (by (with_reducible repeat (first | apply Kd.R_alloc | apply Kd.R_drewN | apply Kd.R_drew)); exact Kd.R_mono HO236.out (fun _ hk => ⟨⟨hk.1.1.1.2, ⟨hk.1.2, hk.2⟩⟩, hk.1.1.2⟩)) hg hat); have n4_ := Aside0.mk (hb); have n5_ := Aside0.mk (ho); clear HO_5; clear HO_28; clear BK227; clear HO236; clear HB; clear HO_6; have HO_5 := n0_; have HO_28 := n1_; have BK227 := n2_; have HO236 := n3_; have HB := n4_; have HO239 := n5_; clear n0_ n1_ n2_ n3_ n4_ n5_; clear ho hb hg hat))
                          go_roundg k2
                          case measure => have := HJ5.out; have := HK2.out; omega
                          case rel => exact ⟨(y237), (wrap64 (x7_2 + (wrap64 (((rd_T37 t218 x30_2).f0) + ((rd_T37 t218 x30_2).f2))))), (wrap64 (x8_2 + (wrap64 (((rd_T37 t218 x30_2).f0) + (((rd_T37 t218 x30_2).f1).size : Int))))), (wrap64 (x30_2 + 1)), (by first | rfl | (simp; done) | (simp [*]; done)), (by first | rfl | (simp; done) | (simp [*]; done)), (by first | rfl | (simp; done) | (simp [*]; done)), H', ⟨by have := HJ5.out; have := HK2.out; omega⟩, ⟨by (with_reducible repeat (first | apply Kd.R_alloc | apply Kd.R_drewN | apply Kd.R_drew)); exact Kd.R_mono HO_5.out (fun _ hk => hk.2)⟩, ⟨by (with_reducible repeat (first | apply Kd.R_alloc | apply Kd.R_drewN | apply Kd.R_drew)); exact Kd.R_mono HO239.out (fun _ hk => ⟨hk.1, hk.2.1⟩)⟩, ⟨by (with_reducible repeat (first | apply Kd.R_alloc | apply Kd.R_drewN | apply Kd.R_drew)); exact Kd.R_mono HO_28.out (fun _ hk => hk.2)⟩, ⟨by repeat (first | (with_reducible first | exact HB.out | apply below_alloc | apply pw_below_drewN | apply below_drew1 | refine below_set ?_ GE227.out) | exact HB.out)⟩⟩
                        · rw [if_neg c33] at H
                          exact absurd H (by simp)
                      · rw [if_neg c32] at H
                        have c32b0 : decide ((wrap64 (Int.tmod (IntKind.u64.wrap (a1)) 7)) < ((rd_T37 t218 x30_2).f2)) = false := decide_eq_false c32
                        clear c32
                        by_cases c40 : (((rd_T37 t218 x30_2).f1).size : Int) > (wrap64 (Int.tmod (IntKind.u64.wrap (a1)) 7))
                        · rw [if_pos c40] at H
                          have c40b0 : decide ((wrap64 (Int.tmod (IntKind.u64.wrap (a1)) 7)) < (((rd_T37 t218 x30_2).f1).size : Int)) = true := decide_eq_true c40
                          clear c40
                          obtain ⟨ji41, hji41⟩ : ∃ j_ : Int, (wrap64 (Int.tmod (IntKind.u64.wrap (a1)) 7)) = j_ := ⟨_, rfl⟩
                          replace H : (if 0 ≤ (ji41) then (if (ji41) ≤ (((rd_T37 t218 x30_2).f1).size : Int) then ((some (([(⟨0, ((rd_T37 t218 x30_2).f1).extract 0 ((ji41) : Int).toNat, 0⟩ : S37), (⟨0, ((rd_T37 t218 x30_2).f1).extract ((ji41) : Int).toNat ((rd_T37 t218 x30_2).f1).size, 0⟩ : S37)] : List (S37)) : List (S37))).bind fun y240 => (if x6_2.length + y240.length < 4398046511104 then (variorumlaw06_EditNorms.l0 k2 a1 t218 (x6_2 ++ y240) (wrap64 (x7_2 + (wrap64 (((rd_T37 t218 x30_2).f0) + ((rd_T37 t218 x30_2).f2))))) (wrap64 (x8_2 + (wrap64 (((rd_T37 t218 x30_2).f0) + (((rd_T37 t218 x30_2).f1).size : Int))))) t218 (t218.length : Int) (wrap64 (x30_2 + 1))) else (none))) else (none)) else (none)) = some r := by first | (rw [hji41] at H; exact H) | (simp only [hji41] at H ⊢; exact H)
                          (try rw [hji41] at c24b0)
                          (try rw [hji41] at c32b0)
                          (try rw [hji41] at c40b0)
                          have hji41w : (IntKind.i64.wrap (Int.tmod (IntKind.u64.wrap (a1)) 7)) = ji41 := (i64_w _).trans hji41
                          by_cases c42 : 0 ≤ (ji41)
                          · rw [if_pos c42] at H
                            have c42b0 := eq_true c42
                            have c42b1 : decide (0 ≤ (ji41)) = true := decide_eq_true c42
                            clear c42
                            by_cases c43 : (ji41) ≤ (((rd_T37 t218 x30_2).f1).size : Int)
                            · rw [if_pos c43] at H
                              have c43b0 := eq_true c43
                              have c43b1 : decide ((ji41) ≤ (((rd_T37 t218 x30_2).f1).size : Int)) = true := decide_eq_true c43
                              clear c43
                              have c44b0 := eq_true (of_decide_eq_true (by first | (with_reducible assumption) | assumption) : 0 ≤ (ji41))
                              have c45b0 := eq_true (of_decide_eq_true (by first | (with_reducible assumption) | assumption) : (ji41) ≤ (((rd_T37 t218 x30_2).f1).size : Int))
                              obtain ⟨y240, hy240⟩ : ∃ y_ : List (S37), y_ = (([(⟨0, ((rd_T37 t218 x30_2).f1).extract 0 ((ji41) : Int).toNat, 0⟩ : S37), (⟨0, ((rd_T37 t218 x30_2).f1).extract ((ji41) : Int).toNat ((rd_T37 t218 x30_2).f1).size, 0⟩ : S37)] : List (S37))) := ⟨_, rfl⟩
                              replace H : (if x6_2.length + y240.length < 4398046511104 then (variorumlaw06_EditNorms.l0 k2 a1 t218 (x6_2 ++ y240) (wrap64 (x7_2 + (wrap64 (((rd_T37 t218 x30_2).f0) + ((rd_T37 t218 x30_2).f2))))) (wrap64 (x8_2 + (wrap64 (((rd_T37 t218 x30_2).f0) + (((rd_T37 t218 x30_2).f1).size : Int))))) t218 (t218.length : Int) (wrap64 (x30_2 + 1))) else (none)) = some r := by first | (rw [hy240]; with_reducible exact H) | (have H2_ := (Option.bind_some _ _).symm.trans H; rw [hy240]; with_reducible exact H2_) | (have H2_ := (Option.bind_some _ _).symm.trans H; with_reducible exact H2_) | with_reducible exact H | (rw [hy240]; exact H) | exact H
                              have Ny240 := Aside0.mk hy240
                              clear hy240
                              by_cases c46 : x6_2.length + y240.length < 4398046511104
                              · rw [if_pos c46] at H
                                have LMc46 := Aside0.mk c46
                                clear c46
                                obtain ⟨y243, hy243⟩ : ∃ y_ : List (S37), y_ = (x6_2 ++ y240) := ⟨_, rfl⟩
                                replace H : (variorumlaw06_EditNorms.l0 k2 a1 t218 y243 (wrap64 (x7_2 + (wrap64 (((rd_T37 t218 x30_2).f0) + ((rd_T37 t218 x30_2).f2))))) (wrap64 (x8_2 + (wrap64 (((rd_T37 t218 x30_2).f0) + (((rd_T37 t218 x30_2).f1).size : Int))))) t218 (t218.length : Int) (wrap64 (x30_2 + 1))) = some r := by first | (rw [hy243]; with_reducible exact H) | (have H2_ := (Option.bind_some _ _).symm.trans H; rw [hy243]; with_reducible exact H2_) | (have H2_ := (Option.bind_some _ _).symm.trans H; with_reducible exact H2_) | with_reducible exact H | (rw [hy243]; exact H) | exact H
                                have Ny243 := Aside0.mk hy243
                                clear hy243
                                have H' := Aside0.mk H
                                clear H
                                have p226 : 0 ≤ (x30_2 : Int) := of_decide_eq_true (by first | (with_reducible assumption) | assumption)
                                have q226 : x30_2 < (t218.length : Int) := of_decide_eq_true (by first | (with_reducible assumption) | assumption)
                                obtain ⟨ad226, e226, hx226_0, hx226_1, hx226_2⟩ := at_T37 (Kd.R_reads' HO_28.out).2.2 x30_2 p226 q226
                                cases e226
                                replace p226 := eq_true p226
                                replace q226 := eq_true q226
                                try go_wp2_with (first | ((with_reducible refine gate_dst (N := 10) rfl ?_); refine box_event ?hg (N := 10) ?hd (cs := #[.int .i64 0, .string (⟨#[]⟩ : ByteArray), .int .i64 0]) (t := 37) ?hr ?_; (case hd => rfl); (case hg => rfl); (case hr => first | (go_simp; done) | (go_simp; rfl)); intro gb227 hg w47 hbox hb; have n0_ := Aside0.mk (Kd.R_below (Kd.R_elderB (by (with_reducible repeat (first | apply Kd.R_alloc | apply Kd.R_drewN | apply Kd.R_drew)); exact HO_5.out) gb227 (Nat.le_of_eq hg.symm)) hb); have n1_ := Aside0.mk (Kd.R_below (Kd.R_elderB (by (with_reducible repeat (first | apply Kd.R_alloc | apply Kd.R_drewN | apply Kd.R_drew)); exact HO_6.out) gb227 (Nat.le_of_eq hg.symm)) hb); have n2_ := Aside0.mk (Kd.R_below (Kd.R_elderB (by (with_reducible repeat (first | apply Kd.R_alloc | apply Kd.R_drewN | apply Kd.R_drew)); exact HO_28.out) gb227 (Nat.le_of_eq hg.symm)) hb); have n3_ := Aside0.mk (below_step (by repeat (first | (with_reducible first | exact HB.out | apply below_alloc | apply pw_below_drewN | apply below_drew1) | exact HB.out)) hb); have n4_ := Aside0.mk (hbox); have n5_ := Aside0.mk ((by rw [hg]; exact (below_size (by repeat (first | (with_reducible first | exact HB.out | apply below_alloc | apply pw_below_drewN | apply below_drew1) | exact HB.out))) : w.heap.size ≤ gb227)); have n6_ := Aside0.mk ((by rw [hg]; exact (below_size (by repeat (first | (with_reducible first | exact HB.out | apply below_alloc | apply pw_below_drewN | apply below_drew1) | exact HB.out))) : w.heap.size ≤ gb227)); clear HO_5; clear HO_6; clear HO_28; clear HB; have HO_5 := n0_; have HO_6 := n1_; have HO_28 := n2_; have HB := n3_; have BK227 := n4_; have GW227 := n5_; have GE227 := n6_; clear n0_ n1_ n2_ n3_ n4_ n5_ n6_; clear hb hbox hg; have hcz48_0 : w47.cell? ⟨gb227, 0, none⟩ = some (.int .i64 0) := (blk_cell BK227.out 0).trans rfl; have hcz48_1 : w47.cell? ⟨gb227, 1, none⟩ = some (.string (⟨#[]⟩ : ByteArray)) := (blk_cell BK227.out 1).trans rfl; have hcz48_2 : w47.cell? ⟨gb227, 2, none⟩ = some (.int .i64 0) := (blk_cell BK227.out 2).trans rfl; have hfz48_0 := blk_frozen BK227.out 0; have hfz48_1 := blk_frozen BK227.out 1; have hfz48_2 := blk_frozen BK227.out 2))
                                have n0_ : Aside0 (Kd.R k37 37 (((w47.setCell ⟨gb227, 0, none⟩ (.int .i64 ((rd_T37 t218 x30_2).f0))).setCell ⟨gb227, 1, none⟩ (.string ((rd_T37 t218 x30_2).f1))).setCell ⟨gb227, 2, none⟩ (.int .i64 ((rd_T37 t218 x30_2).f2))) w.heap.size (fun k_ => some k_ ≠ (u6 : Value).ownBlock ∧ k_ ≠ gb227) (.slice (some ad226) t218.length co20) t218) := ⟨by (with_reducible repeat (first | apply Kd.R_alloc | apply Kd.R_drewN | apply Kd.R_drew)); exact Kd.R_mono (Kd.R_far (p := ⟨gb227, 2, none⟩) (Kd.R_far (p := ⟨gb227, 1, none⟩) (Kd.R_far (p := ⟨gb227, 0, none⟩) (Kd.R_mono HO_5.out (fun k_ hk => (⟨hk, hk.2⟩ : _ ∧ k_ ≠ gb227))) (fun _ hk => hk.2) (.int .i64 ((rd_T37 t218 x30_2).f0))) (fun _ hk => hk.2) (.string ((rd_T37 t218 x30_2).f1))) (fun _ hk => hk.2) (.int .i64 ((rd_T37 t218 x30_2).f2))) (fun _ hk => ⟨hk.1.1, hk.1.2⟩)⟩
                                have n1_ : Aside0 (Kd.R k37 37 (((w47.setCell ⟨gb227, 0, none⟩ (.int .i64 ((rd_T37 t218 x30_2).f0))).setCell ⟨gb227, 1, none⟩ (.string ((rd_T37 t218 x30_2).f1))).setCell ⟨gb227, 2, none⟩ (.int .i64 ((rd_T37 t218 x30_2).f2))) w.heap.size (fun k_ => some k_ ≠ (.slice (some ad226) t218.length co20 : Value).ownBlock ∧ some k_ ≠ (.slice (some ad226) t218.length co20 : Value).ownBlock ∧ k_ ≠ gb227) u6 x6_2) := ⟨by (with_reducible repeat (first | apply Kd.R_alloc | apply Kd.R_drewN | apply Kd.R_drew)); exact Kd.R_mono (Kd.R_far (p := ⟨gb227, 2, none⟩) (Kd.R_far (p := ⟨gb227, 1, none⟩) (Kd.R_far (p := ⟨gb227, 0, none⟩) (Kd.R_mono HO_6.out (fun k_ hk => (⟨hk, hk.2⟩ : _ ∧ k_ ≠ gb227))) (fun _ hk => hk.2) (.int .i64 ((rd_T37 t218 x30_2).f0))) (fun _ hk => hk.2) (.string ((rd_T37 t218 x30_2).f1))) (fun _ hk => hk.2) (.int .i64 ((rd_T37 t218 x30_2).f2))) (fun _ hk => ⟨hk.1.1.1, ⟨hk.1.1.2, hk.1.2⟩⟩)⟩
                                have n2_ : Aside0 (Kd.R k37 37 (((w47.setCell ⟨gb227, 0, none⟩ (.int .i64 ((rd_T37 t218 x30_2).f0))).setCell ⟨gb227, 1, none⟩ (.string ((rd_T37 t218 x30_2).f1))).setCell ⟨gb227, 2, none⟩ (.int .i64 ((rd_T37 t218 x30_2).f2))) w.heap.size (fun k_ => some k_ ≠ (u6 : Value).ownBlock ∧ k_ ≠ gb227) (.slice (some ad226) t218.length co20) t218) := ⟨by (with_reducible repeat (first | apply Kd.R_alloc | apply Kd.R_drewN | apply Kd.R_drew)); exact Kd.R_mono (Kd.R_far (p := ⟨gb227, 2, none⟩) (Kd.R_far (p := ⟨gb227, 1, none⟩) (Kd.R_far (p := ⟨gb227, 0, none⟩) (Kd.R_mono HO_28.out (fun k_ hk => (⟨hk, hk.2⟩ : _ ∧ k_ ≠ gb227))) (fun _ hk => hk.2) (.int .i64 ((rd_T37 t218 x30_2).f0))) (fun _ hk => hk.2) (.string ((rd_T37 t218 x30_2).f1))) (fun _ hk => hk.2) (.int .i64 ((rd_T37 t218 x30_2).f2))) (fun _ hk => ⟨hk.1.1, hk.1.2⟩)⟩
                                have n3_ : Aside0 ((((w47.setCell ⟨gb227, 0, none⟩ (.int .i64 ((rd_T37 t218 x30_2).f0))).setCell ⟨gb227, 1, none⟩ (.string ((rd_T37 t218 x30_2).f1))).setCell ⟨gb227, 2, none⟩ (.int .i64 ((rd_T37 t218 x30_2).f2))).heap[gb227]? = some (.cells #[.int .i64 ((rd_T37 t218 x30_2).f0), .string ((rd_T37 t218 x30_2).f1), .int .i64 ((rd_T37 t218 x30_2).f2)] 37 (0, 0))) := ⟨by (with_reducible repeat (first | refine blk_drewN ?_ _ | refine blk_drew ?_ | refine blk_alloc ?_ _)); refine blk_put (cs := #[.int .i64 ((rd_T37 t218 x30_2).f0), .string ((rd_T37 t218 x30_2).f1), .int .i64 0]) ?_ 2 _ rfl; (with_reducible repeat (first | refine blk_drewN ?_ _ | refine blk_drew ?_ | refine blk_alloc ?_ _)); refine blk_put (cs := #[.int .i64 ((rd_T37 t218 x30_2).f0), .string (⟨#[]⟩ : ByteArray), .int .i64 0]) ?_ 1 _ rfl; (with_reducible repeat (first | refine blk_drewN ?_ _ | refine blk_drew ?_ | refine blk_alloc ?_ _)); refine blk_put (cs := #[.int .i64 0, .string (⟨#[]⟩ : ByteArray), .int .i64 0]) ?_ 0 _ rfl; (with_reducible repeat (first | refine blk_drewN ?_ _ | refine blk_drew ?_ | refine blk_alloc ?_ _)); exact BK227.out⟩
                                have n4_ : Aside0 (Below w.heap.size w (((w47.setCell ⟨gb227, 0, none⟩ (.int .i64 ((rd_T37 t218 x30_2).f0))).setCell ⟨gb227, 1, none⟩ (.string ((rd_T37 t218 x30_2).f1))).setCell ⟨gb227, 2, none⟩ (.int .i64 ((rd_T37 t218 x30_2).f2)))) := ⟨by repeat (first | (with_reducible first | exact HB.out | apply below_alloc | apply pw_below_drewN | apply below_drew1 | refine below_set ?_ GE227.out) | exact HB.out)⟩
                                (try clear HO_5)
                                (try clear HO_6)
                                (try clear HO_28)
                                (try clear BK227)
                                (try clear HB)
                                generalize (((w47.setCell ⟨gb227, 0, none⟩ (.int .i64 ((rd_T37 t218 x30_2).f0))).setCell ⟨gb227, 1, none⟩ (.string ((rd_T37 t218 x30_2).f1))).setCell ⟨gb227, 2, none⟩ (.int .i64 ((rd_T37 t218 x30_2).f2))) = w49 at n0_ n1_ n2_ n3_ n4_ ⊢
                                have HO_5 := n0_
                                have HO_6 := n1_
                                have HO_28 := n2_
                                have BK227 := n3_
                                have HB := n4_
                                clear n0_ n1_ n2_ n3_ n4_
                                have n0_ := Aside0.mk (Kd.R_drew HO_5.out)
                                have n1_ := Aside0.mk (Kd.R_drew HO_6.out)
                                have n2_ := Aside0.mk (Kd.R_drew HO_28.out)
                                have n3_ := Aside0.mk (blk_drew BK227.out)
                                have n4_ := Aside0.mk (below_drew1 HB.out)
                                clear HO_5
                                clear HO_6
                                clear HO_28
                                clear BK227
                                clear HB
                                have HO_5 := n0_
                                have HO_6 := n1_
                                have HO_28 := n2_
                                have BK227 := n3_
                                have HB := n4_
                                clear n0_ n1_ n2_ n3_ n4_
                                refine start_ (n := 14) (S := fun w' => w'.cell? ⟨gb227, 0, none⟩ = some (.int .i64 ((rd_T37 t218 x30_2).f0)) ∧ w'.cell? ⟨gb227, 1, none⟩ = some (.string ((rd_T37 t218 x30_2).f1)) ∧ w'.cell? ⟨gb227, 2, none⟩ = some (.int .i64 ((rd_T37 t218 x30_2).f2))) (ds := []) #[false, false, false, false, false, false, false, false, false, false, false, false, false, false] (by kernel_rfl) rfl rfl ⟨(blk_cell BK227.out 0).trans rfl, (blk_cell BK227.out 1).trans rfl, (blk_cell BK227.out 2).trans rfl⟩ (fun hHeld => ?_); refine with_tabW variorumlaw06_EditNorms.tab19 variorumlaw06_EditNorms.bits19 (fun HT_ HW_ => ?_)
                                generalize w49.drew = w50 at HO_5 HO_6 HO_28 BK227 HB hHeld ⊢
                                refine pure_ (i := 0) (N := some 86) (v := ?_) (a' := ?_) #[true, false, false, false, false, false, false, false, false, false, false, false, false, false] rfl rfl (any_of HT_.out (by kernel_rfl)) (fun _ _ _ h => h) (Or.inl ⟨by rfl, ?_⟩) ?_ ?_
                                rotate_left
                                · intro w'
                                  go_simp
                                  with_reducible rfl
                                rotate_left
                                · simp only [Act.put, List.setIfInBounds_toArray, List.set_cons_zero, List.set_cons_succ, i64_w, i32_w]
                                  rfl
                                refine pure_ (i := 1) (N := some 87) (v := ?_) (a' := ?_) #[true, true, false, false, false, false, false, false, false, false, false, false, false, false] rfl rfl (any_of HT_.out (by kernel_rfl)) (fun _ _ _ h => h) (Or.inl ⟨by rfl, ?_⟩) ?_ ?_
                                rotate_left
                                · intro w'
                                  go_simp
                                  with_reducible rfl
                                rotate_left
                                · simp only [Act.put, List.setIfInBounds_toArray, List.set_cons_zero, List.set_cons_succ, i64_w, i32_w]
                                  rfl
                                refine pure_ (i := 3) (N := some 89) (v := ?_) (a' := ?_) #[true, true, false, true, false, false, false, false, false, false, false, false, false, false] rfl rfl (any_of HT_.out (by kernel_rfl)) (fun _ _ _ h => h) (Or.inl ⟨by rfl, ?_⟩) ?_ ?_
                                rotate_left
                                · intro w'
                                  go_simp
                                  with_reducible rfl
                                rotate_left
                                · simp only [Act.put, List.setIfInBounds_toArray, List.set_cons_zero, List.set_cons_succ, i64_w, i32_w]
                                  rfl
                                refine pure_ (i := 6) (N := some 92) (v := ?_) (a' := ?_) #[true, true, false, true, false, false, true, false, false, false, false, false, false, false] rfl rfl (any_of HT_.out (by kernel_rfl)) (fun _ _ _ h => h) (Or.inl ⟨by rfl, ?_⟩) ?_ ?_
                                rotate_left
                                · intro w'
                                  go_simp
                                  with_reducible rfl
                                rotate_left
                                · simp only [Act.put, List.setIfInBounds_toArray, List.set_cons_zero, List.set_cons_succ, i64_w, i32_w]
                                  rfl
                                refine pure_ (i := 8) (N := some 94) (v := ?_) (a' := ?_) #[true, true, false, true, false, false, true, false, true, false, false, false, false, false] rfl rfl (any_of HT_.out (by kernel_rfl)) (fun _ _ _ h => h) (Or.inl ⟨by rfl, ?_⟩) ?_ ?_
                                rotate_left
                                · intro w'
                                  go_simp
                                  with_reducible rfl
                                rotate_left
                                · simp only [Act.put, List.setIfInBounds_toArray, List.set_cons_zero, List.set_cons_succ, i64_w, i32_w]
                                  rfl
                                refine take_ (i := 2) (N := some 88) (v := ?_) (a' := ?_) #[true, true, true, true, false, false, true, false, true, false, false, false, false, false] rfl rfl (take_ofW HT_.out HW_.out (by kernel_rfl)) (fun _ _ _ h => h) (Or.inl ⟨by rfl, ?_⟩) hHeld ?_ ?_
                                rotate_left
                                · rintro w' ⟨s0, s1, s2⟩
                                  go_simp
                                  with_reducible rfl
                                rotate_left
                                · simp only [Act.put, List.setIfInBounds_toArray, List.set_cons_zero, List.set_cons_succ, i64_w, i32_w]
                                  rfl
                                refine pure_ (i := 4) (N := some 90) (v := ?_) (a' := ?_) #[true, true, true, true, true, false, true, false, true, false, false, false, false, false] rfl rfl (any_of HT_.out (by kernel_rfl)) (fun _ _ _ h => h) (Or.inl ⟨by rfl, ?_⟩) ?_ ?_
                                rotate_left
                                · intro w'
                                  go_simp
                                  with_reducible rfl
                                rotate_left
                                · simp only [Act.put, List.setIfInBounds_toArray, List.set_cons_zero, List.set_cons_succ, i64_w, i32_w]
                                  rfl
                                refine pure_ (i := 5) (N := some 91) (v := ?_) (a' := ?_) #[true, true, true, true, true, true, true, false, true, false, false, false, false, false] rfl rfl (any_of HT_.out (by kernel_rfl)) (fun _ _ _ h => h) (Or.inl ⟨by rfl, ?_⟩) ?_ ?_
                                rotate_left
                                · intro w'
                                  go_simp
                                  with_reducible rfl
                                rotate_left
                                · simp only [Act.put, List.setIfInBounds_toArray, List.set_cons_zero, List.set_cons_succ, i64_w, i32_w]
                                  rfl
                                refine take_ (i := 7) (N := some 93) (v := ?_) (a' := ?_) #[true, true, true, true, true, true, true, true, true, false, false, false, false, false] rfl rfl (take_ofW HT_.out HW_.out (by kernel_rfl)) (fun _ _ _ h => h) (Or.inl ⟨by rfl, ?_⟩) hHeld ?_ ?_
                                rotate_left
                                · rintro w' ⟨s0, s1, s2⟩
                                  go_simp
                                  with_reducible rfl
                                rotate_left
                                · simp only [Act.put, List.setIfInBounds_toArray, List.set_cons_zero, List.set_cons_succ, i64_w, i32_w]
                                  rfl
                                refine pure_ (i := 9) (N := some 95) (v := ?_) (a' := ?_) #[true, true, true, true, true, true, true, true, true, true, false, false, false, false] rfl rfl (any_of HT_.out (by kernel_rfl)) (fun _ _ _ h => h) (Or.inl ⟨by rfl, ?_⟩) ?_ ?_
                                rotate_left
                                · intro w'
                                  go_simp
                                  with_reducible rfl
                                rotate_left
                                · simp only [Act.put, List.setIfInBounds_toArray, List.set_cons_zero, List.set_cons_succ, i64_w, i32_w]
                                  rfl
                                refine pure_ (i := 10) (N := some 96) (v := ?_) (a' := ?_) #[true, true, true, true, true, true, true, true, true, true, true, false, false, false] rfl rfl (any_of HT_.out (by kernel_rfl)) (fun _ _ _ h => h) (Or.inl ⟨by rfl, ?_⟩) ?_ ?_
                                rotate_left
                                · intro w'
                                  go_simp
                                  with_reducible rfl
                                rotate_left
                                · simp only [Act.put, List.setIfInBounds_toArray, List.set_cons_zero, List.set_cons_succ, i64_w, i32_w]
                                  rfl
                                refine one_ (i := 11) (N := some 97) #[true, true, true, true, true, true, true, true, true, true, true, true, false, false] rfl rfl (one_of HT_.out (by kernel_rfl)) (by decide) (fun K hK => ?_)
                                refine Kd.R_lit_step k37 _ 37 ?hg (N := 97) ?hd (xs := ([(⟨0, ((rd_T37 t218 x30_2).f1).extract 0 ((ji41) : Int).toNat, 0⟩ : S37), (⟨0, ((rd_T37 t218 x30_2).f1).extract ((ji41) : Int).toNat ((rd_T37 t218 x30_2).f1).size, 0⟩ : S37)] : List (S37))) (inner := [.int .i64 0, .string (((rd_T37 t218 x30_2).f1).extract 0 ((ji41) : Int).toNat), .int .i64 0, .int .i64 0, .string (((rd_T37 t218 x30_2).f1).extract ((ji41) : Int).toNat ((rd_T37 t218 x30_2).f1).size), .int .i64 0]) (ok := fun _ => True) (okp := fun _ => True) ?hr ?hp (fun _ hk => hk) trivial (Below.refl _ _) (Nat.le_refl _) (by simp) ?_; (case hd => rfl); (case hg => rfl); (case hr => first | (go_simp; done) | (go_simp; rfl)); (case hp => exact (Reps.c3 (show Kd.M k37 _ _ _ (⟨0, ((rd_T37 t218 x30_2).f1).extract 0 ((ji41) : Int).toNat, 0⟩ : S37) [.int .i64 0, .string (((rd_T37 t218 x30_2).f1).extract 0 ((ji41) : Int).toNat), .int .i64 0] from (k37_mkM _ _ _ (⟨0, ((rd_T37 t218 x30_2).f1).extract 0 ((ji41) : Int).toNat, 0⟩ : S37) )) (Reps.c3 (show Kd.M k37 _ _ _ (⟨0, ((rd_T37 t218 x30_2).f1).extract ((ji41) : Int).toNat ((rd_T37 t218 x30_2).f1).size, 0⟩ : S37) [.int .i64 0, .string (((rd_T37 t218 x30_2).f1).extract ((ji41) : Int).toNat ((rd_T37 t218 x30_2).f1).size), .int .i64 0] from (k37_mkM _ _ _ (⟨0, ((rd_T37 t218 x30_2).f1).extract ((ji41) : Int).toNat ((rd_T37 t218 x30_2).f1).size, 0⟩ : S37) )) (Reps.none _ _))))
                                intro v241 w51 ho52 hb hg_ hnew_
                                clear hg_ hnew_
                                (first | rw [← Ny240.out] at ho52 | (simp only [Int.reduceToNat] at ho52; rw [← Ny240.out] at ho52))
                                have n0_ := Aside0.mk (Kd.R_elder' (by (with_reducible repeat (first | apply Kd.R_alloc | apply Kd.R_drewN | apply Kd.R_drew)); exact HO_5.out) (Kd.R_base ho52) hb)
                                have n1_ := Aside0.mk (Kd.R_elder' (by (with_reducible repeat (first | apply Kd.R_alloc | apply Kd.R_drewN | apply Kd.R_drew)); exact HO_6.out) (Kd.R_base ho52) hb)
                                have n2_ := Aside0.mk (Kd.R_elder' (by (with_reducible repeat (first | apply Kd.R_alloc | apply Kd.R_drewN | apply Kd.R_drew)); exact HO_28.out) (Kd.R_base ho52) hb)
                                have n3_ := Aside0.mk (Kd.R_lower (Kd.R_newB (Kd.R_new' (Kd.R_new' (Kd.R_new' ho52 (Kd.R_lt (by (with_reducible repeat (first | apply Kd.R_alloc | apply Kd.R_drewN | apply Kd.R_drew)); exact HO_5.out))) (Kd.R_lt (by (with_reducible repeat (first | apply Kd.R_alloc | apply Kd.R_drewN | apply Kd.R_drew)); exact HO_6.out))) (Kd.R_lt (by (with_reducible repeat (first | apply Kd.R_alloc | apply Kd.R_drewN | apply Kd.R_drew)); exact HO_28.out))) (g := gb227) (o := .cells #[.int .i64 ((rd_T37 t218 x30_2).f0), .string ((rd_T37 t218 x30_2).f1), .int .i64 ((rd_T37 t218 x30_2).f2)] 37 (0, 0)) (by (with_reducible repeat (first | refine blk_drewN ?_ _ | refine blk_drew ?_ | refine blk_alloc ?_ _)); exact BK227.out)) (below_size (by repeat (first | (with_reducible first | exact HB.out | apply below_alloc | apply pw_below_drewN | apply below_drew1 | refine below_set ?_ GE227.out) | exact HB.out))))
                                have n4_ := Aside0.mk (blk_below (g := gb227) (o := .cells #[.int .i64 ((rd_T37 t218 x30_2).f0), .string ((rd_T37 t218 x30_2).f1), .int .i64 ((rd_T37 t218 x30_2).f2)] 37 (0, 0)) (by (with_reducible repeat (first | refine blk_drewN ?_ _ | refine blk_drew ?_ | refine blk_alloc ?_ _)); exact BK227.out) hb)
                                have n5_ := Aside0.mk (below_step (by repeat (first | (with_reducible first | exact HB.out | apply below_alloc | apply pw_below_drewN | apply below_drew1 | refine below_set ?_ GE227.out) | exact HB.out)) hb)
                                clear HO_5
                                clear HO_6
                                clear HO_28
                                clear BK227
                                clear HB
                                have HO_5 := n0_
                                have HO_6 := n1_
                                have HO_28 := n2_
                                have HO242 := n3_
                                have BK227 := n4_
                                have HB := n5_
                                clear n0_ n1_ n2_ n3_ n4_ n5_
                                clear hb ho52
                                obtain ⟨Ao54, co54, eo54⟩ := Kd.R_slice HO242.out
                                (first | subst eo54 | (injection eo54 with f1_ f2_ f3_; have f4_ := f1_.symm; have f5_ := f3_.symm; clear f1_ f2_ f3_; subst f4_; subst f5_))
                                refine hK.out _ _ ⟨(blk_cell BK227.out 0).trans rfl, (blk_cell BK227.out 1).trans rfl, (blk_cell BK227.out 2).trans rfl⟩ (fun hHeld => ?_)
                                clear hK K
                                refine norm_ (a' := ?_) ?_ ?_
                                rotate_left
                                · show Act.put _ (some 97) _ = _
                                  simp only [Act.put, List.setIfInBounds_toArray, List.set_cons_zero, List.set_cons_succ, i64_w, i32_w]
                                  rfl
                                refine one_ (i := 12) (N := some 98) #[true, true, true, true, true, true, true, true, true, true, true, true, true, false] rfl rfl (one_of HT_.out (by kernel_rfl)) (by decide) (fun K hK => ?_)
                                refine Kd.R_append_rows_step k37 (w0 := w) w.heap.size (by rfl) (.tmp 86) (.tmp 97) 22 37 (.agg #[(.int .i64 0), (.string ⟨#[]⟩), (.int .i64 0)]) 32 rfl Try.underlying22 info37 rfl (by decide) (by omega) u6 x6_2 y240 _ _ _ (fun k_ => some k_ ≠ (.slice (some ad226) t218.length co20 : Value).ownBlock ∧ some k_ ≠ (.slice (some ad226) t218.length co20 : Value).ownBlock ∧ some k_ ≠ (.slice Ao54 y240.length co54 : Value).ownBlock ∧ k_ ≠ gb227) (fun _ => False) rfl rfl ?aO ?aR (fun _ _ h => h) (fun _ h => h.elim) ?aF ?aB ?aS ?aL ?_
                                (case aR => repeat (first | exact (Kd.R_reads' HO242.out).2.2 | (with_reducible refine Kd.C_alloc ?_ _) | (with_reducible refine Kd.C_drewN ?_ _) | (with_reducible refine Kd.C_drew ?_)))
                                (case aB => exact (by repeat (first | (with_reducible first | exact HB.out | apply below_alloc | apply pw_below_drewN | apply below_drew1 | refine below_set ?_ GE227.out) | exact HB.out)))
                                (case aF => exact (fun k_ hk => ⟨Kd.fresh' (Kd.R_lt (by (with_reducible repeat (first | apply Kd.R_alloc | apply Kd.R_drewN | apply Kd.R_drew)); exact HO_5.out)) k_ hk, Kd.fresh' (Kd.R_lt (by (with_reducible repeat (first | apply Kd.R_alloc | apply Kd.R_drewN | apply Kd.R_drew)); exact HO_28.out)) k_ hk, Kd.fresh' (Kd.R_lt (by (with_reducible repeat (first | apply Kd.R_alloc | apply Kd.R_drewN | apply Kd.R_drew)); exact HO242.out)) k_ hk, Kd.freshB (g := gb227) (o := .cells #[.int .i64 ((rd_T37 t218 x30_2).f0), .string ((rd_T37 t218 x30_2).f1), .int .i64 ((rd_T37 t218 x30_2).f2)] 37 (0, 0)) (by (with_reducible repeat (first | refine blk_drewN ?_ _ | refine blk_drew ?_ | refine blk_alloc ?_ _)); exact BK227.out) k_ hk⟩))
                                (case aO => exact (by (with_reducible repeat (first | apply Kd.R_alloc | apply Kd.R_drewN | apply Kd.R_drew)); exact Kd.R_mono HO_6.out (fun _ hk => ⟨hk.1.1, ⟨hk.1.2.1, ⟨hk.2, hk.1.2.2⟩⟩⟩)))
                                (case aS => exact (below_size (by repeat (first | (with_reducible first | exact HB.out | apply below_alloc | apply pw_below_drewN | apply below_drew1 | refine below_set ?_ GE227.out) | exact HB.out))))
                                (case aL => have := LMc46.out; omega)
                                intro v244 w53 ho hb hg hat
                                rw [← Ny243.out] at ho
                                have n0_ := Aside0.mk (Kd.R_after (ok := (fun k_ => some k_ ≠ (.slice Ao54 y240.length co54 : Value).ownBlock ∧ k_ ≠ gb227)) (by (with_reducible repeat (first | apply Kd.R_alloc | apply Kd.R_drewN | apply Kd.R_drew)); exact Kd.R_mono HO_5.out (fun _ hk => ⟨⟨hk.2, hk.1.2⟩, hk.1.1⟩)) hg hat)
                                have n1_ := Aside0.mk (Kd.R_after (ok := (fun k_ => some k_ ≠ (.slice Ao54 y240.length co54 : Value).ownBlock ∧ k_ ≠ gb227)) (by (with_reducible repeat (first | apply Kd.R_alloc | apply Kd.R_drewN | apply Kd.R_drew)); exact Kd.R_mono HO_28.out (fun _ hk => ⟨⟨hk.2, hk.1.2⟩, hk.1.1⟩)) hg hat)
                                have n2_ := Aside0.mk (blk_grown (g := gb227) (o := .cells #[.int .i64 ((rd_T37 t218 x30_2).f0), .string ((rd_T37 t218 x30_2).f1), .int .i64 ((rd_T37 t218 x30_2).f2)] 37 (0, 0)) (by (with_reducible repeat (first | refine blk_drewN ?_ _ | refine blk_drew ?_ | refine blk_alloc ?_ _)); exact BK227.out) hg (Kd.R_away HO_6.out (fun _ hk => hk.1.2.2)))
                                have n3_ := Aside0.mk (Kd.R_after (ok := (fun k_ => some k_ ≠ (.slice (some ad226) t218.length co20 : Value).ownBlock ∧ some k_ ≠ (.slice (some ad226) t218.length co20 : Value).ownBlock ∧ k_ ≠ gb227)) (by (with_reducible repeat (first | apply Kd.R_alloc | apply Kd.R_drewN | apply Kd.R_drew)); exact Kd.R_mono HO242.out (fun _ hk => ⟨⟨hk.1.1.1.2, ⟨hk.1.2, hk.2⟩⟩, hk.1.1.2⟩)) hg hat)
                                have n4_ := Aside0.mk (hb)
                                have n5_ := Aside0.mk (ho)
                                clear HO_5
                                clear HO_28
                                clear BK227
                                clear HO242
                                clear HB
                                clear HO_6
                                have HO_5 := n0_
                                have HO_28 := n1_
                                have BK227 := n2_
                                have HO242 := n3_
                                have HB := n4_
                                have HO245 := n5_
                                clear n0_ n1_ n2_ n3_ n4_ n5_
                                clear ho hb hg hat
                                refine hK.out _ _ ⟨(blk_cell BK227.out 0).trans rfl, (blk_cell BK227.out 1).trans rfl, (blk_cell BK227.out 2).trans rfl⟩ (fun hHeld => ?_)
                                clear hK K
                                refine norm_ (a' := ?_) ?_ ?_
                                rotate_left
                                · show Act.put _ (some 98) _ = _
                                  simp only [Act.put, List.setIfInBounds_toArray, List.set_cons_zero, List.set_cons_succ, i64_w, i32_w]
                                  rfl
                                refine pure_ (i := 13) (N := some 6) (v := ?_) (a' := ?_) #[true, true, true, true, true, true, true, true, true, true, true, true, true, true] rfl rfl (any_of HT_.out (by kernel_rfl)) (fun _ _ _ h => h) (Or.inl ⟨by rfl, ?_⟩) ?_ ?_
                                rotate_left
                                · intro w'
                                  go_simp
                                  with_reducible rfl
                                rotate_left
                                · simp only [Act.put, List.setIfInBounds_toArray, List.set_cons_zero, List.set_cons_succ, i64_w, i32_w]
                                  rfl
                                refine done_ (done_of HT_.out (by kernel_rfl)) ?_
                                try go_wp2
                                go_roundg k2
                                case measure => have := HJ5.out; have := HK2.out; omega
                                case rel => exact ⟨(y243), (wrap64 (x7_2 + (wrap64 (((rd_T37 t218 x30_2).f0) + ((rd_T37 t218 x30_2).f2))))), (wrap64 (x8_2 + (wrap64 (((rd_T37 t218 x30_2).f0) + (((rd_T37 t218 x30_2).f1).size : Int))))), (wrap64 (x30_2 + 1)), (by first | rfl | (simp; done) | (simp [*]; done)), (by first | rfl | (simp; done) | (simp [*]; done)), (by first | rfl | (simp; done) | (simp [*]; done)), H', ⟨by have := HJ5.out; have := HK2.out; omega⟩, ⟨by (with_reducible repeat (first | apply Kd.R_alloc | apply Kd.R_drewN | apply Kd.R_drew)); exact Kd.R_mono HO_5.out (fun _ hk => hk.2)⟩, ⟨by (with_reducible repeat (first | apply Kd.R_alloc | apply Kd.R_drewN | apply Kd.R_drew)); exact Kd.R_mono HO245.out (fun _ hk => ⟨hk.1, hk.2.1⟩)⟩, ⟨by (with_reducible repeat (first | apply Kd.R_alloc | apply Kd.R_drewN | apply Kd.R_drew)); exact Kd.R_mono HO_28.out (fun _ hk => hk.2)⟩, ⟨by repeat (first | (with_reducible first | exact HB.out | apply below_alloc | apply pw_below_drewN | apply below_drew1 | refine below_set ?_ GE227.out) | exact HB.out)⟩⟩
                              · rw [if_neg c46] at H
                                exact absurd H (by simp)
                            · rw [if_neg c43] at H
                              exact absurd H (by simp)
                          · rw [if_neg c42] at H
                            exact absurd H (by simp)
                        · rw [if_neg c40] at H
                          have c40b0 : decide ((wrap64 (Int.tmod (IntKind.u64.wrap (a1)) 7)) < (((rd_T37 t218 x30_2).f1).size : Int)) = false := decide_eq_false c40
                          clear c40
                          by_cases c55 : x6_2.length < 4398046511104
                          · rw [if_pos c55] at H
                            have LMc55 := Aside0.mk c55
                            clear c55
                            obtain ⟨y246, hy246⟩ : ∃ y_ : List (S37), y_ = (x6_2 ++ [(⟨(rd_T37 t218 x30_2).f0, (rd_T37 t218 x30_2).f1, (rd_T37 t218 x30_2).f2⟩ : S37)]) := ⟨_, rfl⟩
                            replace H : (variorumlaw06_EditNorms.l0 k2 a1 t218 y246 (wrap64 (x7_2 + (wrap64 (((rd_T37 t218 x30_2).f0) + ((rd_T37 t218 x30_2).f2))))) (wrap64 (x8_2 + (wrap64 (((rd_T37 t218 x30_2).f0) + (((rd_T37 t218 x30_2).f1).size : Int))))) t218 (t218.length : Int) (wrap64 (x30_2 + 1))) = some r := by first | (rw [hy246]; with_reducible exact H) | (have H2_ := (Option.bind_some _ _).symm.trans H; rw [hy246]; with_reducible exact H2_) | (have H2_ := (Option.bind_some _ _).symm.trans H; with_reducible exact H2_) | with_reducible exact H | (rw [hy246]; exact H) | exact H
                            have Ny246 := Aside0.mk hy246
                            clear hy246
                            have H' := Aside0.mk H
                            clear H
                            have p226 : 0 ≤ (x30_2 : Int) := of_decide_eq_true (by first | (with_reducible assumption) | assumption)
                            have q226 : x30_2 < (t218.length : Int) := of_decide_eq_true (by first | (with_reducible assumption) | assumption)
                            obtain ⟨ad226, e226, hx226_0, hx226_1, hx226_2⟩ := at_T37 (Kd.R_reads' HO_28.out).2.2 x30_2 p226 q226
                            cases e226
                            replace p226 := eq_true p226
                            replace q226 := eq_true q226
                            go_wp2_with (first | ((with_reducible refine gate_dst (N := 10) rfl ?_); refine box_event ?hg (N := 10) ?hd (cs := #[.int .i64 0, .string (⟨#[]⟩ : ByteArray), .int .i64 0]) (t := 37) ?hr ?_; (case hd => rfl); (case hg => rfl); (case hr => first | (go_simp; done) | (go_simp; rfl)); intro gb227 hg w56 hbox hb; have n0_ := Aside0.mk (Kd.R_below (Kd.R_elderB (by (with_reducible repeat (first | apply Kd.R_alloc | apply Kd.R_drewN | apply Kd.R_drew)); exact HO_5.out) gb227 (Nat.le_of_eq hg.symm)) hb); have n1_ := Aside0.mk (Kd.R_below (Kd.R_elderB (by (with_reducible repeat (first | apply Kd.R_alloc | apply Kd.R_drewN | apply Kd.R_drew)); exact HO_6.out) gb227 (Nat.le_of_eq hg.symm)) hb); have n2_ := Aside0.mk (Kd.R_below (Kd.R_elderB (by (with_reducible repeat (first | apply Kd.R_alloc | apply Kd.R_drewN | apply Kd.R_drew)); exact HO_28.out) gb227 (Nat.le_of_eq hg.symm)) hb); have n3_ := Aside0.mk (below_step (by repeat (first | (with_reducible first | exact HB.out | apply below_alloc | apply pw_below_drewN | apply below_drew1) | exact HB.out)) hb); have n4_ := Aside0.mk (hbox); have n5_ := Aside0.mk ((by rw [hg]; exact (below_size (by repeat (first | (with_reducible first | exact HB.out | apply below_alloc | apply pw_below_drewN | apply below_drew1) | exact HB.out))) : w.heap.size ≤ gb227)); have n6_ := Aside0.mk ((by rw [hg]; exact (below_size (by repeat (first | (with_reducible first | exact HB.out | apply below_alloc | apply pw_below_drewN | apply below_drew1) | exact HB.out))) : w.heap.size ≤ gb227)); clear HO_5; clear HO_6; clear HO_28; clear HB; have HO_5 := n0_; have HO_6 := n1_; have HO_28 := n2_; have HB := n3_; have BK227 := n4_; have GW227 := n5_; have GE227 := n6_; clear n0_ n1_ n2_ n3_ n4_ n5_ n6_; clear hb hbox hg; have hcz57_0 : w56.cell? ⟨gb227, 0, none⟩ = some (.int .i64 0) := (blk_cell BK227.out 0).trans rfl; have hcz57_1 : w56.cell? ⟨gb227, 1, none⟩ = some (.string (⟨#[]⟩ : ByteArray)) := (blk_cell BK227.out 1).trans rfl; have hcz57_2 : w56.cell? ⟨gb227, 2, none⟩ = some (.int .i64 0) := (blk_cell BK227.out 2).trans rfl; have hfz57_0 := blk_frozen BK227.out 0; have hfz57_1 := blk_frozen BK227.out 1; have hfz57_2 := blk_frozen BK227.out 2) | ((with_reducible refine gate_builtin (b := .append) (xs := #[.tmp 99, .tmp 101]) rfl ?_); at_builtin; refine Kd.R_append k37 (w0 := w) w.heap.size rfl (.tmp 99) (.tmp 101) 22 37 (.agg #[(.int .i64 0), (.string ⟨#[]⟩), (.int .i64 0)]) 32 rfl Try.underlying22 info37 rfl (by decide) (by omega) u6 x6_2 (⟨(rd_T37 t218 x30_2).f0, (rd_T37 t218 x30_2).f1, (rd_T37 t218 x30_2).f2⟩ : S37) [.int .i64 ((rd_T37 t218 x30_2).f0), .string ((rd_T37 t218 x30_2).f1), .int .i64 ((rd_T37 t218 x30_2).f2)] (fun k_ => some k_ ≠ (.slice (some ad226) t218.length co20 : Value).ownBlock ∧ some k_ ≠ (.slice (some ad226) t218.length co20 : Value).ownBlock ∧ k_ ≠ gb227) (fun _ => False) rfl (by first | (go_simp; done) | (go_simp; rfl)) ?aP (fun _ hk => hk.elim) ?aF ?aO ?aB ?aS ?aL ?_; (case aP => exact k37_mkM _ _ _ (⟨(rd_T37 t218 x30_2).f0, (rd_T37 t218 x30_2).f1, (rd_T37 t218 x30_2).f2⟩ : S37)); (case aB => exact (by repeat (first | (with_reducible first | exact HB.out | apply below_alloc | apply pw_below_drewN | apply below_drew1 | refine below_set ?_ GE227.out) | exact HB.out))); (case aF => exact (fun k_ hk => ⟨Kd.fresh' (Kd.R_lt (by (with_reducible repeat (first | apply Kd.R_alloc | apply Kd.R_drewN | apply Kd.R_drew)); exact (Kd.R_mono (Kd.R_far (p := ⟨gb227, 2, none⟩) (Kd.R_far (p := ⟨gb227, 1, none⟩) (Kd.R_far (p := ⟨gb227, 0, none⟩) (Kd.R_mono HO_5.out (fun k_ hk => (⟨hk, hk.2⟩ : _ ∧ k_ ≠ gb227))) (fun _ hk => hk.2) (.int .i64 ((rd_T37 t218 x30_2).f0))) (fun _ hk => hk.2) (.string ((rd_T37 t218 x30_2).f1))) (fun _ hk => hk.2) (.int .i64 ((rd_T37 t218 x30_2).f2))) (fun _ h_ => h_.1)))) k_ hk, Kd.fresh' (Kd.R_lt (by (with_reducible repeat (first | apply Kd.R_alloc | apply Kd.R_drewN | apply Kd.R_drew)); exact (Kd.R_mono (Kd.R_far (p := ⟨gb227, 2, none⟩) (Kd.R_far (p := ⟨gb227, 1, none⟩) (Kd.R_far (p := ⟨gb227, 0, none⟩) (Kd.R_mono HO_28.out (fun k_ hk => (⟨hk, hk.2⟩ : _ ∧ k_ ≠ gb227))) (fun _ hk => hk.2) (.int .i64 ((rd_T37 t218 x30_2).f0))) (fun _ hk => hk.2) (.string ((rd_T37 t218 x30_2).f1))) (fun _ hk => hk.2) (.int .i64 ((rd_T37 t218 x30_2).f2))) (fun _ h_ => h_.1)))) k_ hk, Kd.freshB (g := gb227) (o := .cells #[.int .i64 ((rd_T37 t218 x30_2).f0), .string ((rd_T37 t218 x30_2).f1), .int .i64 ((rd_T37 t218 x30_2).f2)] 37 (0, 0)) (by (with_reducible repeat (first | refine blk_drewN ?_ _ | refine blk_drew ?_ | refine blk_alloc ?_ _)); refine blk_put (cs := #[.int .i64 ((rd_T37 t218 x30_2).f0), .string ((rd_T37 t218 x30_2).f1), .int .i64 0]) ?_ 2 _ rfl; (with_reducible repeat (first | refine blk_drewN ?_ _ | refine blk_drew ?_ | refine blk_alloc ?_ _)); refine blk_put (cs := #[.int .i64 ((rd_T37 t218 x30_2).f0), .string (⟨#[]⟩ : ByteArray), .int .i64 0]) ?_ 1 _ rfl; (with_reducible repeat (first | refine blk_drewN ?_ _ | refine blk_drew ?_ | refine blk_alloc ?_ _)); refine blk_put (cs := #[.int .i64 0, .string (⟨#[]⟩ : ByteArray), .int .i64 0]) ?_ 0 _ rfl; (with_reducible repeat (first | refine blk_drewN ?_ _ | refine blk_drew ?_ | refine blk_alloc ?_ _)); exact BK227.out) k_ hk⟩)); (case aO => exact (by (with_reducible repeat (first | apply Kd.R_alloc | apply Kd.R_drewN | apply Kd.R_drew)); exact Kd.R_mono (Kd.R_far (p := ⟨gb227, 2, none⟩) (Kd.R_far (p := ⟨gb227, 1, none⟩) (Kd.R_far (p := ⟨gb227, 0, none⟩) (Kd.R_mono HO_6.out (fun k_ hk => (⟨hk, hk.2⟩ : _ ∧ k_ ≠ gb227))) (fun _ hk => hk.2) (.int .i64 ((rd_T37 t218 x30_2).f0))) (fun _ hk => hk.2) (.string ((rd_T37 t218 x30_2).f1))) (fun _ hk => hk.2) (.int .i64 ((rd_T37 t218 x30_2).f2))) (fun _ hk => ⟨hk.1.1.1, ⟨hk.1.1.2, hk.1.2⟩⟩))); (case aS => exact (below_size (by repeat (first | (with_reducible first | exact HB.out | apply below_alloc | apply pw_below_drewN | apply below_drew1 | refine below_set ?_ GE227.out) | exact HB.out)))); (case aL => have := LMc55.out; omega); intro v247 w58 ho hb hg hat; rw [← Ny246.out] at ho; have n0_ := Aside0.mk (Kd.R_after (ok := (fun k_ => k_ ≠ gb227)) (by (with_reducible repeat (first | apply Kd.R_alloc | apply Kd.R_drewN | apply Kd.R_drew)); exact Kd.R_mono (Kd.R_far (p := ⟨gb227, 2, none⟩) (Kd.R_far (p := ⟨gb227, 1, none⟩) (Kd.R_far (p := ⟨gb227, 0, none⟩) (Kd.R_mono HO_5.out (fun k_ hk => (⟨hk, hk.2⟩ : _ ∧ k_ ≠ gb227))) (fun _ hk => hk.2) (.int .i64 ((rd_T37 t218 x30_2).f0))) (fun _ hk => hk.2) (.string ((rd_T37 t218 x30_2).f1))) (fun _ hk => hk.2) (.int .i64 ((rd_T37 t218 x30_2).f2))) (fun _ hk => ⟨hk.1.2, hk.1.1⟩)) hg hat); have n1_ := Aside0.mk (Kd.R_after (ok := (fun k_ => k_ ≠ gb227)) (by (with_reducible repeat (first | apply Kd.R_alloc | apply Kd.R_drewN | apply Kd.R_drew)); exact Kd.R_mono (Kd.R_far (p := ⟨gb227, 2, none⟩) (Kd.R_far (p := ⟨gb227, 1, none⟩) (Kd.R_far (p := ⟨gb227, 0, none⟩) (Kd.R_mono HO_28.out (fun k_ hk => (⟨hk, hk.2⟩ : _ ∧ k_ ≠ gb227))) (fun _ hk => hk.2) (.int .i64 ((rd_T37 t218 x30_2).f0))) (fun _ hk => hk.2) (.string ((rd_T37 t218 x30_2).f1))) (fun _ hk => hk.2) (.int .i64 ((rd_T37 t218 x30_2).f2))) (fun _ hk => ⟨hk.1.2, hk.1.1⟩)) hg hat); have n2_ := Aside0.mk (blk_grown (g := gb227) (o := .cells #[.int .i64 ((rd_T37 t218 x30_2).f0), .string ((rd_T37 t218 x30_2).f1), .int .i64 ((rd_T37 t218 x30_2).f2)] 37 (0, 0)) (by (with_reducible repeat (first | refine blk_drewN ?_ _ | refine blk_drew ?_ | refine blk_alloc ?_ _)); refine blk_put (cs := #[.int .i64 ((rd_T37 t218 x30_2).f0), .string ((rd_T37 t218 x30_2).f1), .int .i64 0]) ?_ 2 _ rfl; (with_reducible repeat (first | refine blk_drewN ?_ _ | refine blk_drew ?_ | refine blk_alloc ?_ _)); refine blk_put (cs := #[.int .i64 ((rd_T37 t218 x30_2).f0), .string (⟨#[]⟩ : ByteArray), .int .i64 0]) ?_ 1 _ rfl; (with_reducible repeat (first | refine blk_drewN ?_ _ | refine blk_drew ?_ | refine blk_alloc ?_ _)); refine blk_put (cs := #[.int .i64 0, .string (⟨#[]⟩ : ByteArray), .int .i64 0]) ?_ 0 _ rfl; (with_reducible repeat (first | refine blk_drewN ?_ _ | refine blk_drew ?_ | refine blk_alloc ?_ _)); exact BK227.out) hg (Kd.R_away HO_6.out (fun _ hk => hk.2))); have n3_ := Aside0.mk (hb); have n4_ := Aside0.mk (ho); clear HO_5; clear HO_28; clear BK227; clear HB; clear HO_6; have HO_5 := n0_; have HO_28 := n1_; have BK227 := n2_; have HB := n3_; have HO248 := n4_; clear n0_ n1_ n2_ n3_ n4_; clear ho hb hg hat))
                            go_roundg k2
                            case measure => have := HJ5.out; have := HK2.out; omega
                            case rel => exact ⟨(y246), (wrap64 (x7_2 + (wrap64 (((rd_T37 t218 x30_2).f0) + ((rd_T37 t218 x30_2).f2))))), (wrap64 (x8_2 + (wrap64 (((rd_T37 t218 x30_2).f0) + (((rd_T37 t218 x30_2).f1).size : Int))))), (wrap64 (x30_2 + 1)), (by first | rfl | (simp; done) | (simp [*]; done)), (by first | rfl | (simp; done) | (simp [*]; done)), (by first | rfl | (simp; done) | (simp [*]; done)), H', ⟨by have := HJ5.out; have := HK2.out; omega⟩, ⟨by (with_reducible repeat (first | apply Kd.R_alloc | apply Kd.R_drewN | apply Kd.R_drew)); exact Kd.R_mono HO_5.out (fun _ hk => hk.2)⟩, ⟨by (with_reducible repeat (first | apply Kd.R_alloc | apply Kd.R_drewN | apply Kd.R_drew)); exact Kd.R_mono HO248.out (fun _ hk => ⟨hk.1, hk.2.1⟩)⟩, ⟨by (with_reducible repeat (first | apply Kd.R_alloc | apply Kd.R_drewN | apply Kd.R_drew)); exact Kd.R_mono HO_28.out (fun _ hk => hk.2)⟩, ⟨by repeat (first | (with_reducible first | exact HB.out | apply below_alloc | apply pw_below_drewN | apply below_drew1 | refine below_set ?_ GE227.out) | exact HB.out)⟩⟩
                          · rw [if_neg c55] at H
                            exact absurd H (by simp)
                  · rw [if_neg c23] at H
                    exact absurd H (by simp)
                · rw [if_neg c22] at H
                  exact absurd H (by simp)
              · rw [if_neg c21] at H
                have c21b0 : decide (x30_2 < (t218.length : Int)) = false := decide_eq_false c21
                clear c21
                replace H := Option.bind_eq_some_iff.mp H
                obtain ⟨t249, A590, H⟩ := H
                replace H : ((variorumref06_Same.f k2 t249 t218).bind fun t252 => (if t252 = true then ((edit_In.f k2 t218).bind fun t253 => (if t253 = x7_2 then ((edit_Out.f k2 t218).bind fun t254 => (if t254 = x8_2 then ((variorumlaw06_lives.f k2).bind fun t255 => (some t255)) else (some false))) else (some false))) else (some false))) = some r := H
                have A59 := Aside0.mk A590
                clear A590
                replace H := Option.bind_eq_some_iff.mp H
                obtain ⟨t252, A600, H⟩ := H
                replace H : (if t252 = true then ((edit_In.f k2 t218).bind fun t253 => (if t253 = x7_2 then ((edit_Out.f k2 t218).bind fun t254 => (if t254 = x8_2 then ((variorumlaw06_lives.f k2).bind fun t255 => (some t255)) else (some false))) else (some false))) else (some false)) = some r := H
                have A60 := Aside0.mk A600
                clear A600
                by_cases c61 : t252 = true
                · subst c61
                  have H1 : ((edit_In.f k2 t218).bind fun t253 => (if t253 = x7_2 then ((edit_Out.f k2 t218).bind fun t254 => (if t254 = x8_2 then ((variorumlaw06_lives.f k2).bind fun t255 => (some t255)) else (some false))) else (some false))) = some r := by rw [if_pos rfl] at H; exact H
                  clear H
                  have H := H1
                  clear H1
                  replace H := Option.bind_eq_some_iff.mp H
                  obtain ⟨t253, A620, H⟩ := H
                  replace H : (if t253 = x7_2 then ((edit_Out.f k2 t218).bind fun t254 => (if t254 = x8_2 then ((variorumlaw06_lives.f k2).bind fun t255 => (some t255)) else (some false))) else (some false)) = some r := H
                  have A62 := Aside0.mk A620
                  clear A620
                  by_cases c63 : t253 = x7_2
                  · rw [if_pos c63] at H
                    have c63b0 : (t253 == x7_2) = true := beq_iff_eq.mpr c63
                    have c63b1 : (t253 != x7_2) = false := bne_eq_false_iff_eq.mpr c63
                    clear c63
                    replace H := Option.bind_eq_some_iff.mp H
                    obtain ⟨t254, A640, H⟩ := H
                    replace H : (if t254 = x8_2 then ((variorumlaw06_lives.f k2).bind fun t255 => (some t255)) else (some false)) = some r := H
                    have A64 := Aside0.mk A640
                    clear A640
                    by_cases c65 : t254 = x8_2
                    · rw [if_pos c65] at H
                      have c65b0 : (t254 == x8_2) = true := beq_iff_eq.mpr c65
                      have c65b1 : (t254 != x8_2) = false := bne_eq_false_iff_eq.mpr c65
                      clear c65
                      replace H := Option.bind_eq_some_iff.mp H
                      obtain ⟨t255, A660, H⟩ := H
                      replace H : (some t255) = some r := H
                      have A66 := Aside0.mk A660
                      clear A660
                      obtain rfl := Option.some.inj H
                      obtain ⟨Ao67, co67, eo67⟩ := Kd.R_slice HO_6.out
                      subst eo67
                      go_wp2_with (first | ((with_reducible refine gate_callee (f := 23) rfl ?_); refine goesL_ (some 105) rfl rfl Try.func23 (by kernel_rfl) rfl #[.slice Ao67 x6_2.length co67] rfl (by (try simp only [List.map_toArray, List.map_cons, List.map_nil]); first | done | rfl | (simp only [List.length_drop, List.length_take]; rfl)) ?_; (with_reducible refine (edit_Norm.calls _ _ x6_2 t249 _ ?side1 ?side2 A59.out).mono ?_); (case side1 => repeat (first | exact (Kd.R_reads' HO_6.out).2.2 | (with_reducible refine Kd.C_alloc ?_ _) | (with_reducible refine Kd.C_drewN ?_ _) | (with_reducible refine Kd.C_drew ?_))); (case side2 => exact (Kd.R_reads' HO_6.out).2.1); rintro e w68 ⟨v250, rfl, ho0, hb⟩; refine ⟨_, rfl, ?_⟩; have n0_ := Aside0.mk (Kd.R_elder' (by (with_reducible repeat (first | apply Kd.R_alloc | apply Kd.R_drewN | apply Kd.R_drew)); exact HO_5.out) (Kd.R_base ho0) hb); have n1_ := Aside0.mk (Kd.R_elder' (by (with_reducible repeat (first | apply Kd.R_alloc | apply Kd.R_drewN | apply Kd.R_drew)); exact HO_6.out) (Kd.R_base ho0) hb); have n2_ := Aside0.mk (Kd.R_elder' (by (with_reducible repeat (first | apply Kd.R_alloc | apply Kd.R_drewN | apply Kd.R_drew)); exact HO_28.out) (Kd.R_base ho0) hb); have n3_ := Aside0.mk (Kd.R_lower (Kd.R_new' (Kd.R_new' (Kd.R_new' ho0 (Kd.R_lt (by (with_reducible repeat (first | apply Kd.R_alloc | apply Kd.R_drewN | apply Kd.R_drew)); exact HO_5.out))) (Kd.R_lt (by (with_reducible repeat (first | apply Kd.R_alloc | apply Kd.R_drewN | apply Kd.R_drew)); exact HO_6.out))) (Kd.R_lt (by (with_reducible repeat (first | apply Kd.R_alloc | apply Kd.R_drewN | apply Kd.R_drew)); exact HO_28.out))) (below_size (by repeat (first | (with_reducible first | exact HB.out | apply below_alloc | apply pw_below_drewN | apply below_drew1) | exact HB.out)))); have n4_ := Aside0.mk (below_step (by repeat (first | (with_reducible first | exact HB.out | apply below_alloc | apply pw_below_drewN | apply below_drew1) | exact HB.out)) hb); clear HO_5; clear HO_6; clear HO_28; clear HB; have HO_5 := n0_; have HO_6 := n1_; have HO_28 := n2_; have HO251 := n3_; have HB := n4_; clear n0_ n1_ n2_ n3_ n4_; (try clear hb); (try clear hb2); (try clear hk); (try clear hi); (try clear ho0); obtain ⟨Ao69, co69, eo69⟩ := Kd.R_slice HO251.out; subst eo69) | ((with_reducible refine gate_callee (f := 25) rfl ?_); refine goesL_ (some 107) rfl rfl Try.func25 (by kernel_rfl) rfl #[.slice Ao69 t249.length co69, .slice Ao20 t218.length co20] rfl (by (try simp only [List.map_toArray, List.map_cons, List.map_nil]); first | done | rfl | (simp only [List.length_drop, List.length_take]; rfl)) ?_; (with_reducible refine (variorumref06_Same.calls k2 _ _ t249 _ _ t218 true _ ?side1 ?side2 ?side3 ?side4 A60.out).mono ?_); (case side1 => repeat (first | exact (Kd.R_reads' HO251.out).2.2 | (with_reducible refine Kd.C_alloc ?_ _) | (with_reducible refine Kd.C_drewN ?_ _) | (with_reducible refine Kd.C_drew ?_))); (case side2 => exact (Kd.R_reads' HO251.out).2.1); (case side3 => repeat (first | exact (Kd.R_reads' HO_5.out).2.2 | (with_reducible refine Kd.C_alloc ?_ _) | (with_reducible refine Kd.C_drewN ?_ _) | (with_reducible refine Kd.C_drew ?_))); (case side4 => exact (Kd.R_reads' HO_5.out).2.1); rintro e w' ⟨rfl, ⟨nd, rfl⟩⟩; refine ⟨_, rfl, ?_⟩) | (go_at_call 26; (with_reducible refine (edit_In.calls k2 _ _ t218 t253 _ ?side1 ?side2 A62.out).mono ?_); (case side1 => repeat (first | exact (Kd.R_reads' HO_5.out).2.2 | (with_reducible refine Kd.C_alloc ?_ _) | (with_reducible refine Kd.C_drewN ?_ _) | (with_reducible refine Kd.C_drew ?_))); (case side2 => exact (Kd.R_reads' HO_5.out).2.1); rintro e w70 ⟨rfl, hb⟩; have n0_ := Aside0.mk (Kd.R_below (by (with_reducible repeat (first | apply Kd.R_alloc | apply Kd.R_drewN | apply Kd.R_drew)); exact HO_5.out) hb); have n1_ := Aside0.mk (Kd.R_below (by (with_reducible repeat (first | apply Kd.R_alloc | apply Kd.R_drewN | apply Kd.R_drew)); exact HO_6.out) hb); have n2_ := Aside0.mk (Kd.R_below (by (with_reducible repeat (first | apply Kd.R_alloc | apply Kd.R_drewN | apply Kd.R_drew)); exact HO_28.out) hb); have n3_ := Aside0.mk (Kd.R_below (by (with_reducible repeat (first | apply Kd.R_alloc | apply Kd.R_drewN | apply Kd.R_drew)); exact HO251.out) hb); have n4_ := Aside0.mk (below_step (by repeat (first | (with_reducible first | exact HB.out | apply below_alloc | apply pw_below_drewN | apply below_drew1) | exact HB.out)) hb); clear HO_5; clear HO_6; clear HO_28; clear HO251; clear HB; have HO_5 := n0_; have HO_6 := n1_; have HO_28 := n2_; have HO251 := n3_; have HB := n4_; clear n0_ n1_ n2_ n3_ n4_; (try clear hb); (try clear hb2); (try clear hk); (try clear hi)) | (go_at_call 27; (with_reducible refine (edit_Out.calls k2 _ _ t218 t254 _ ?side1 ?side2 A64.out).mono ?_); (case side1 => repeat (first | exact (Kd.R_reads' HO_5.out).2.2 | (with_reducible refine Kd.C_alloc ?_ _) | (with_reducible refine Kd.C_drewN ?_ _) | (with_reducible refine Kd.C_drew ?_))); (case side2 => exact (Kd.R_reads' HO_5.out).2.1); rintro e w71 ⟨rfl, hb⟩; have n0_ := Aside0.mk (Kd.R_below (by (with_reducible repeat (first | apply Kd.R_alloc | apply Kd.R_drewN | apply Kd.R_drew)); exact HO_5.out) hb); have n1_ := Aside0.mk (Kd.R_below (by (with_reducible repeat (first | apply Kd.R_alloc | apply Kd.R_drewN | apply Kd.R_drew)); exact HO_6.out) hb); have n2_ := Aside0.mk (Kd.R_below (by (with_reducible repeat (first | apply Kd.R_alloc | apply Kd.R_drewN | apply Kd.R_drew)); exact HO_28.out) hb); have n3_ := Aside0.mk (Kd.R_below (by (with_reducible repeat (first | apply Kd.R_alloc | apply Kd.R_drewN | apply Kd.R_drew)); exact HO251.out) hb); have n4_ := Aside0.mk (below_step (by repeat (first | (with_reducible first | exact HB.out | apply below_alloc | apply pw_below_drewN | apply below_drew1) | exact HB.out)) hb); clear HO_5; clear HO_6; clear HO_28; clear HO251; clear HB; have HO_5 := n0_; have HO_6 := n1_; have HO_28 := n2_; have HO251 := n3_; have HB := n4_; clear n0_ n1_ n2_ n3_ n4_; (try clear hb); (try clear hb2); (try clear hk); (try clear hi)) | (go_at_call 22; (with_reducible refine (variorumlaw06_lives.calls k2  t255 _ A66.out).mono ?_); rintro e w72 ⟨rfl, hb⟩; have n0_ := Aside0.mk (Kd.R_below (by (with_reducible repeat (first | apply Kd.R_alloc | apply Kd.R_drewN | apply Kd.R_drew)); exact HO_5.out) hb); have n1_ := Aside0.mk (Kd.R_below (by (with_reducible repeat (first | apply Kd.R_alloc | apply Kd.R_drewN | apply Kd.R_drew)); exact HO_6.out) hb); have n2_ := Aside0.mk (Kd.R_below (by (with_reducible repeat (first | apply Kd.R_alloc | apply Kd.R_drewN | apply Kd.R_drew)); exact HO_28.out) hb); have n3_ := Aside0.mk (Kd.R_below (by (with_reducible repeat (first | apply Kd.R_alloc | apply Kd.R_drewN | apply Kd.R_drew)); exact HO251.out) hb); have n4_ := Aside0.mk (below_step (by repeat (first | (with_reducible first | exact HB.out | apply below_alloc | apply pw_below_drewN | apply below_drew1) | exact HB.out)) hb); clear HO_5; clear HO_6; clear HO_28; clear HO251; clear HB; have HO_5 := n0_; have HO_6 := n1_; have HO_28 := n2_; have HO251 := n3_; have HB := n4_; clear n0_ n1_ n2_ n3_ n4_; (try clear hb); (try clear hb2); (try clear hk); (try clear hi)))
                      go_ret
                      exact ⟨by first | rfl | (simp [errW_none, errW_some] <;> rfl) | (simp [*, errW_none, errW_some] <;> rfl), by repeat (first | (with_reducible first | exact HB.out | apply below_alloc | apply pw_below_drewN | apply below_drew1) | exact HB.out)⟩
                    · rw [if_neg c65] at H
                      have c65b0 : (t254 == x8_2) = false := beq_eq_false_iff_ne.mpr c65
                      have c65b1 : (t254 != x8_2) = true := bne_iff_ne.mpr c65
                      obtain rfl := Option.some.inj H
                      obtain ⟨Ao73, co73, eo73⟩ := Kd.R_slice HO_6.out
                      subst eo73
                      go_wp2_with (first | ((with_reducible refine gate_callee (f := 23) rfl ?_); refine goesL_ (some 105) rfl rfl Try.func23 (by kernel_rfl) rfl #[.slice Ao73 x6_2.length co73] rfl (by (try simp only [List.map_toArray, List.map_cons, List.map_nil]); first | done | rfl | (simp only [List.length_drop, List.length_take]; rfl)) ?_; (with_reducible refine (edit_Norm.calls _ _ x6_2 t249 _ ?side1 ?side2 A59.out).mono ?_); (case side1 => repeat (first | exact (Kd.R_reads' HO_6.out).2.2 | (with_reducible refine Kd.C_alloc ?_ _) | (with_reducible refine Kd.C_drewN ?_ _) | (with_reducible refine Kd.C_drew ?_))); (case side2 => exact (Kd.R_reads' HO_6.out).2.1); rintro e w74 ⟨v250, rfl, ho0, hb⟩; refine ⟨_, rfl, ?_⟩; have n0_ := Aside0.mk (Kd.R_elder' (by (with_reducible repeat (first | apply Kd.R_alloc | apply Kd.R_drewN | apply Kd.R_drew)); exact HO_5.out) (Kd.R_base ho0) hb); have n1_ := Aside0.mk (Kd.R_elder' (by (with_reducible repeat (first | apply Kd.R_alloc | apply Kd.R_drewN | apply Kd.R_drew)); exact HO_6.out) (Kd.R_base ho0) hb); have n2_ := Aside0.mk (Kd.R_elder' (by (with_reducible repeat (first | apply Kd.R_alloc | apply Kd.R_drewN | apply Kd.R_drew)); exact HO_28.out) (Kd.R_base ho0) hb); have n3_ := Aside0.mk (Kd.R_lower (Kd.R_new' (Kd.R_new' (Kd.R_new' ho0 (Kd.R_lt (by (with_reducible repeat (first | apply Kd.R_alloc | apply Kd.R_drewN | apply Kd.R_drew)); exact HO_5.out))) (Kd.R_lt (by (with_reducible repeat (first | apply Kd.R_alloc | apply Kd.R_drewN | apply Kd.R_drew)); exact HO_6.out))) (Kd.R_lt (by (with_reducible repeat (first | apply Kd.R_alloc | apply Kd.R_drewN | apply Kd.R_drew)); exact HO_28.out))) (below_size (by repeat (first | (with_reducible first | exact HB.out | apply below_alloc | apply pw_below_drewN | apply below_drew1) | exact HB.out)))); have n4_ := Aside0.mk (below_step (by repeat (first | (with_reducible first | exact HB.out | apply below_alloc | apply pw_below_drewN | apply below_drew1) | exact HB.out)) hb); clear HO_5; clear HO_6; clear HO_28; clear HB; have HO_5 := n0_; have HO_6 := n1_; have HO_28 := n2_; have HO251 := n3_; have HB := n4_; clear n0_ n1_ n2_ n3_ n4_; (try clear hb); (try clear hb2); (try clear hk); (try clear hi); (try clear ho0); obtain ⟨Ao75, co75, eo75⟩ := Kd.R_slice HO251.out; subst eo75) | ((with_reducible refine gate_callee (f := 25) rfl ?_); refine goesL_ (some 107) rfl rfl Try.func25 (by kernel_rfl) rfl #[.slice Ao75 t249.length co75, .slice Ao20 t218.length co20] rfl (by (try simp only [List.map_toArray, List.map_cons, List.map_nil]); first | done | rfl | (simp only [List.length_drop, List.length_take]; rfl)) ?_; (with_reducible refine (variorumref06_Same.calls k2 _ _ t249 _ _ t218 true _ ?side1 ?side2 ?side3 ?side4 A60.out).mono ?_); (case side1 => repeat (first | exact (Kd.R_reads' HO251.out).2.2 | (with_reducible refine Kd.C_alloc ?_ _) | (with_reducible refine Kd.C_drewN ?_ _) | (with_reducible refine Kd.C_drew ?_))); (case side2 => exact (Kd.R_reads' HO251.out).2.1); (case side3 => repeat (first | exact (Kd.R_reads' HO_5.out).2.2 | (with_reducible refine Kd.C_alloc ?_ _) | (with_reducible refine Kd.C_drewN ?_ _) | (with_reducible refine Kd.C_drew ?_))); (case side4 => exact (Kd.R_reads' HO_5.out).2.1); rintro e w' ⟨rfl, ⟨nd, rfl⟩⟩; refine ⟨_, rfl, ?_⟩) | (go_at_call 26; (with_reducible refine (edit_In.calls k2 _ _ t218 t253 _ ?side1 ?side2 A62.out).mono ?_); (case side1 => repeat (first | exact (Kd.R_reads' HO_5.out).2.2 | (with_reducible refine Kd.C_alloc ?_ _) | (with_reducible refine Kd.C_drewN ?_ _) | (with_reducible refine Kd.C_drew ?_))); (case side2 => exact (Kd.R_reads' HO_5.out).2.1); rintro e w76 ⟨rfl, hb⟩; have n0_ := Aside0.mk (Kd.R_below (by (with_reducible repeat (first | apply Kd.R_alloc | apply Kd.R_drewN | apply Kd.R_drew)); exact HO_5.out) hb); have n1_ := Aside0.mk (Kd.R_below (by (with_reducible repeat (first | apply Kd.R_alloc | apply Kd.R_drewN | apply Kd.R_drew)); exact HO_6.out) hb); have n2_ := Aside0.mk (Kd.R_below (by (with_reducible repeat (first | apply Kd.R_alloc | apply Kd.R_drewN | apply Kd.R_drew)); exact HO_28.out) hb); have n3_ := Aside0.mk (Kd.R_below (by (with_reducible repeat (first | apply Kd.R_alloc | apply Kd.R_drewN | apply Kd.R_drew)); exact HO251.out) hb); have n4_ := Aside0.mk (below_step (by repeat (first | (with_reducible first | exact HB.out | apply below_alloc | apply pw_below_drewN | apply below_drew1) | exact HB.out)) hb); clear HO_5; clear HO_6; clear HO_28; clear HO251; clear HB; have HO_5 := n0_; have HO_6 := n1_; have HO_28 := n2_; have HO251 := n3_; have HB := n4_; clear n0_ n1_ n2_ n3_ n4_; (try clear hb); (try clear hb2); (try clear hk); (try clear hi)) | (go_at_call 27; (with_reducible refine (edit_Out.calls k2 _ _ t218 t254 _ ?side1 ?side2 A64.out).mono ?_); (case side1 => repeat (first | exact (Kd.R_reads' HO_5.out).2.2 | (with_reducible refine Kd.C_alloc ?_ _) | (with_reducible refine Kd.C_drewN ?_ _) | (with_reducible refine Kd.C_drew ?_))); (case side2 => exact (Kd.R_reads' HO_5.out).2.1); rintro e w77 ⟨rfl, hb⟩; have n0_ := Aside0.mk (Kd.R_below (by (with_reducible repeat (first | apply Kd.R_alloc | apply Kd.R_drewN | apply Kd.R_drew)); exact HO_5.out) hb); have n1_ := Aside0.mk (Kd.R_below (by (with_reducible repeat (first | apply Kd.R_alloc | apply Kd.R_drewN | apply Kd.R_drew)); exact HO_6.out) hb); have n2_ := Aside0.mk (Kd.R_below (by (with_reducible repeat (first | apply Kd.R_alloc | apply Kd.R_drewN | apply Kd.R_drew)); exact HO_28.out) hb); have n3_ := Aside0.mk (Kd.R_below (by (with_reducible repeat (first | apply Kd.R_alloc | apply Kd.R_drewN | apply Kd.R_drew)); exact HO251.out) hb); have n4_ := Aside0.mk (below_step (by repeat (first | (with_reducible first | exact HB.out | apply below_alloc | apply pw_below_drewN | apply below_drew1) | exact HB.out)) hb); clear HO_5; clear HO_6; clear HO_28; clear HO251; clear HB; have HO_5 := n0_; have HO_6 := n1_; have HO_28 := n2_; have HO251 := n3_; have HB := n4_; clear n0_ n1_ n2_ n3_ n4_; (try clear hb); (try clear hb2); (try clear hk); (try clear hi)))
                      go_ret
                      exact ⟨by first | rfl | (simp [errW_none, errW_some] <;> rfl) | (simp [*, errW_none, errW_some] <;> rfl), by repeat (first | (with_reducible first | exact HB.out | apply below_alloc | apply pw_below_drewN | apply below_drew1) | exact HB.out)⟩
                  · rw [if_neg c63] at H
                    have c63b0 : (t253 == x7_2) = false := beq_eq_false_iff_ne.mpr c63
                    have c63b1 : (t253 != x7_2) = true := bne_iff_ne.mpr c63
                    obtain rfl := Option.some.inj H
                    obtain ⟨Ao78, co78, eo78⟩ := Kd.R_slice HO_6.out
                    subst eo78
                    go_wp2_with (first | ((with_reducible refine gate_callee (f := 23) rfl ?_); refine goesL_ (some 105) rfl rfl Try.func23 (by kernel_rfl) rfl #[.slice Ao78 x6_2.length co78] rfl (by (try simp only [List.map_toArray, List.map_cons, List.map_nil]); first | done | rfl | (simp only [List.length_drop, List.length_take]; rfl)) ?_; (with_reducible refine (edit_Norm.calls _ _ x6_2 t249 _ ?side1 ?side2 A59.out).mono ?_); (case side1 => repeat (first | exact (Kd.R_reads' HO_6.out).2.2 | (with_reducible refine Kd.C_alloc ?_ _) | (with_reducible refine Kd.C_drewN ?_ _) | (with_reducible refine Kd.C_drew ?_))); (case side2 => exact (Kd.R_reads' HO_6.out).2.1); rintro e w79 ⟨v250, rfl, ho0, hb⟩; refine ⟨_, rfl, ?_⟩; have n0_ := Aside0.mk (Kd.R_elder' (by (with_reducible repeat (first | apply Kd.R_alloc | apply Kd.R_drewN | apply Kd.R_drew)); exact HO_5.out) (Kd.R_base ho0) hb); have n1_ := Aside0.mk (Kd.R_elder' (by (with_reducible repeat (first | apply Kd.R_alloc | apply Kd.R_drewN | apply Kd.R_drew)); exact HO_6.out) (Kd.R_base ho0) hb); have n2_ := Aside0.mk (Kd.R_elder' (by (with_reducible repeat (first | apply Kd.R_alloc | apply Kd.R_drewN | apply Kd.R_drew)); exact HO_28.out) (Kd.R_base ho0) hb); have n3_ := Aside0.mk (Kd.R_lower (Kd.R_new' (Kd.R_new' (Kd.R_new' ho0 (Kd.R_lt (by (with_reducible repeat (first | apply Kd.R_alloc | apply Kd.R_drewN | apply Kd.R_drew)); exact HO_5.out))) (Kd.R_lt (by (with_reducible repeat (first | apply Kd.R_alloc | apply Kd.R_drewN | apply Kd.R_drew)); exact HO_6.out))) (Kd.R_lt (by (with_reducible repeat (first | apply Kd.R_alloc | apply Kd.R_drewN | apply Kd.R_drew)); exact HO_28.out))) (below_size (by repeat (first | (with_reducible first | exact HB.out | apply below_alloc | apply pw_below_drewN | apply below_drew1) | exact HB.out)))); have n4_ := Aside0.mk (below_step (by repeat (first | (with_reducible first | exact HB.out | apply below_alloc | apply pw_below_drewN | apply below_drew1) | exact HB.out)) hb); clear HO_5; clear HO_6; clear HO_28; clear HB; have HO_5 := n0_; have HO_6 := n1_; have HO_28 := n2_; have HO251 := n3_; have HB := n4_; clear n0_ n1_ n2_ n3_ n4_; (try clear hb); (try clear hb2); (try clear hk); (try clear hi); (try clear ho0); obtain ⟨Ao80, co80, eo80⟩ := Kd.R_slice HO251.out; subst eo80) | ((with_reducible refine gate_callee (f := 25) rfl ?_); refine goesL_ (some 107) rfl rfl Try.func25 (by kernel_rfl) rfl #[.slice Ao80 t249.length co80, .slice Ao20 t218.length co20] rfl (by (try simp only [List.map_toArray, List.map_cons, List.map_nil]); first | done | rfl | (simp only [List.length_drop, List.length_take]; rfl)) ?_; (with_reducible refine (variorumref06_Same.calls k2 _ _ t249 _ _ t218 true _ ?side1 ?side2 ?side3 ?side4 A60.out).mono ?_); (case side1 => repeat (first | exact (Kd.R_reads' HO251.out).2.2 | (with_reducible refine Kd.C_alloc ?_ _) | (with_reducible refine Kd.C_drewN ?_ _) | (with_reducible refine Kd.C_drew ?_))); (case side2 => exact (Kd.R_reads' HO251.out).2.1); (case side3 => repeat (first | exact (Kd.R_reads' HO_5.out).2.2 | (with_reducible refine Kd.C_alloc ?_ _) | (with_reducible refine Kd.C_drewN ?_ _) | (with_reducible refine Kd.C_drew ?_))); (case side4 => exact (Kd.R_reads' HO_5.out).2.1); rintro e w' ⟨rfl, ⟨nd, rfl⟩⟩; refine ⟨_, rfl, ?_⟩) | (go_at_call 26; (with_reducible refine (edit_In.calls k2 _ _ t218 t253 _ ?side1 ?side2 A62.out).mono ?_); (case side1 => repeat (first | exact (Kd.R_reads' HO_5.out).2.2 | (with_reducible refine Kd.C_alloc ?_ _) | (with_reducible refine Kd.C_drewN ?_ _) | (with_reducible refine Kd.C_drew ?_))); (case side2 => exact (Kd.R_reads' HO_5.out).2.1); rintro e w81 ⟨rfl, hb⟩; have n0_ := Aside0.mk (Kd.R_below (by (with_reducible repeat (first | apply Kd.R_alloc | apply Kd.R_drewN | apply Kd.R_drew)); exact HO_5.out) hb); have n1_ := Aside0.mk (Kd.R_below (by (with_reducible repeat (first | apply Kd.R_alloc | apply Kd.R_drewN | apply Kd.R_drew)); exact HO_6.out) hb); have n2_ := Aside0.mk (Kd.R_below (by (with_reducible repeat (first | apply Kd.R_alloc | apply Kd.R_drewN | apply Kd.R_drew)); exact HO_28.out) hb); have n3_ := Aside0.mk (Kd.R_below (by (with_reducible repeat (first | apply Kd.R_alloc | apply Kd.R_drewN | apply Kd.R_drew)); exact HO251.out) hb); have n4_ := Aside0.mk (below_step (by repeat (first | (with_reducible first | exact HB.out | apply below_alloc | apply pw_below_drewN | apply below_drew1) | exact HB.out)) hb); clear HO_5; clear HO_6; clear HO_28; clear HO251; clear HB; have HO_5 := n0_; have HO_6 := n1_; have HO_28 := n2_; have HO251 := n3_; have HB := n4_; clear n0_ n1_ n2_ n3_ n4_; (try clear hb); (try clear hb2); (try clear hk); (try clear hi)))
                    go_ret
                    exact ⟨by first | rfl | (simp [errW_none, errW_some] <;> rfl) | (simp [*, errW_none, errW_some] <;> rfl), by repeat (first | (with_reducible first | exact HB.out | apply below_alloc | apply pw_below_drewN | apply below_drew1) | exact HB.out)⟩
                · replace c61 := Bool.eq_false_iff.mpr c61
                  subst c61
                  have H1 : (some false) = some r := by rw [if_neg (show ¬ (false = true) by decide)] at H; exact H
                  clear H
                  have H := H1
                  clear H1
                  obtain rfl := Option.some.inj H
                  obtain ⟨Ao82, co82, eo82⟩ := Kd.R_slice HO_6.out
                  subst eo82
                  go_wp2_with (first | ((with_reducible refine gate_callee (f := 23) rfl ?_); refine goesL_ (some 105) rfl rfl Try.func23 (by kernel_rfl) rfl #[.slice Ao82 x6_2.length co82] rfl (by (try simp only [List.map_toArray, List.map_cons, List.map_nil]); first | done | rfl | (simp only [List.length_drop, List.length_take]; rfl)) ?_; (with_reducible refine (edit_Norm.calls _ _ x6_2 t249 _ ?side1 ?side2 A59.out).mono ?_); (case side1 => repeat (first | exact (Kd.R_reads' HO_6.out).2.2 | (with_reducible refine Kd.C_alloc ?_ _) | (with_reducible refine Kd.C_drewN ?_ _) | (with_reducible refine Kd.C_drew ?_))); (case side2 => exact (Kd.R_reads' HO_6.out).2.1); rintro e w83 ⟨v250, rfl, ho0, hb⟩; refine ⟨_, rfl, ?_⟩; have n0_ := Aside0.mk (Kd.R_elder' (by (with_reducible repeat (first | apply Kd.R_alloc | apply Kd.R_drewN | apply Kd.R_drew)); exact HO_5.out) (Kd.R_base ho0) hb); have n1_ := Aside0.mk (Kd.R_elder' (by (with_reducible repeat (first | apply Kd.R_alloc | apply Kd.R_drewN | apply Kd.R_drew)); exact HO_6.out) (Kd.R_base ho0) hb); have n2_ := Aside0.mk (Kd.R_elder' (by (with_reducible repeat (first | apply Kd.R_alloc | apply Kd.R_drewN | apply Kd.R_drew)); exact HO_28.out) (Kd.R_base ho0) hb); have n3_ := Aside0.mk (Kd.R_lower (Kd.R_new' (Kd.R_new' (Kd.R_new' ho0 (Kd.R_lt (by (with_reducible repeat (first | apply Kd.R_alloc | apply Kd.R_drewN | apply Kd.R_drew)); exact HO_5.out))) (Kd.R_lt (by (with_reducible repeat (first | apply Kd.R_alloc | apply Kd.R_drewN | apply Kd.R_drew)); exact HO_6.out))) (Kd.R_lt (by (with_reducible repeat (first | apply Kd.R_alloc | apply Kd.R_drewN | apply Kd.R_drew)); exact HO_28.out))) (below_size (by repeat (first | (with_reducible first | exact HB.out | apply below_alloc | apply pw_below_drewN | apply below_drew1) | exact HB.out)))); have n4_ := Aside0.mk (below_step (by repeat (first | (with_reducible first | exact HB.out | apply below_alloc | apply pw_below_drewN | apply below_drew1) | exact HB.out)) hb); clear HO_5; clear HO_6; clear HO_28; clear HB; have HO_5 := n0_; have HO_6 := n1_; have HO_28 := n2_; have HO251 := n3_; have HB := n4_; clear n0_ n1_ n2_ n3_ n4_; (try clear hb); (try clear hb2); (try clear hk); (try clear hi); (try clear ho0); obtain ⟨Ao84, co84, eo84⟩ := Kd.R_slice HO251.out; subst eo84) | ((with_reducible refine gate_callee (f := 25) rfl ?_); refine goesL_ (some 107) rfl rfl Try.func25 (by kernel_rfl) rfl #[.slice Ao84 t249.length co84, .slice Ao20 t218.length co20] rfl (by (try simp only [List.map_toArray, List.map_cons, List.map_nil]); first | done | rfl | (simp only [List.length_drop, List.length_take]; rfl)) ?_; (with_reducible refine (variorumref06_Same.calls k2 _ _ t249 _ _ t218 false _ ?side1 ?side2 ?side3 ?side4 A60.out).mono ?_); (case side1 => repeat (first | exact (Kd.R_reads' HO251.out).2.2 | (with_reducible refine Kd.C_alloc ?_ _) | (with_reducible refine Kd.C_drewN ?_ _) | (with_reducible refine Kd.C_drew ?_))); (case side2 => exact (Kd.R_reads' HO251.out).2.1); (case side3 => repeat (first | exact (Kd.R_reads' HO_5.out).2.2 | (with_reducible refine Kd.C_alloc ?_ _) | (with_reducible refine Kd.C_drewN ?_ _) | (with_reducible refine Kd.C_drew ?_))); (case side4 => exact (Kd.R_reads' HO_5.out).2.1); rintro e w' ⟨rfl, ⟨nd, rfl⟩⟩; refine ⟨_, rfl, ?_⟩))
                  go_ret
                  exact ⟨by first | rfl | (simp [errW_none, errW_some] <;> rfl) | (simp [*, errW_none, errW_some] <;> rfl), by repeat (first | (with_reducible first | exact HB.out | apply below_alloc | apply pw_below_drewN | apply below_drew1) | exact HB.out)⟩
  · replace c4 := Bool.eq_false_iff.mpr c4
    subst c4
    have H1 : ((variorumlaw06_lives.f k).bind fun t217 => (some t217)) = some r := by rw [if_neg (show ¬ (false = true) by decide)] at H; exact H
    clear H
    have H := H1
    clear H1
    replace H := Option.bind_eq_some_iff.mp H
    obtain ⟨t217, A850, H⟩ := H
    replace H : (some t217) = some r := H
    have A85 := Aside0.mk A850
    clear A850
    obtain rfl := Option.some.inj H
    go_enter Try.func5, Try.ntmps5
    go_wp2_with (first | ((with_reducible refine gate_callee (f := 21) rfl ?_); refine goesL_ (some 13) rfl rfl Try.func21 (by kernel_rfl) rfl #[.slice A0 l0.length c0] rfl (by (try simp only [List.map_toArray, List.map_cons, List.map_nil]); first | done | rfl | (simp only [List.length_drop, List.length_take]; rfl)) ?_; (with_reducible refine (variorumlaw06_Light.calls k _ _ l0 false _ ?side1 ?side2 A3.out).mono ?_); (case side1 => repeat (first | exact HR0.out | (with_reducible refine Kd.C_alloc ?_ _) | (with_reducible refine Kd.C_drewN ?_ _) | (with_reducible refine Kd.C_drew ?_))); (case side2 => exact HC0.out); rintro e w86 ⟨rfl, hb⟩; refine ⟨_, rfl, ?_⟩; have n0_ := Aside0.mk (below_step (by repeat (first | (with_reducible first | exact HB.out | apply below_alloc | apply pw_below_drewN | apply below_drew1) | exact HB.out)) hb); clear HB; have HB := n0_; clear n0_; (try clear hb); (try clear hb2); (try clear hk); (try clear hi)) | ((with_reducible refine gate_callee (f := 22) rfl ?_); refine goesL_ (some 15) rfl rfl Try.func22 (by kernel_rfl) rfl #[] rfl (by (try simp only [List.map_toArray, List.map_cons, List.map_nil]); first | done | rfl | (simp only [List.length_drop, List.length_take]; rfl)) ?_; (with_reducible refine (variorumlaw06_lives.calls k  t217 _ A85.out).mono ?_); rintro e w87 ⟨rfl, hb⟩; refine ⟨_, rfl, ?_⟩; have n0_ := Aside0.mk (below_step (by repeat (first | (with_reducible first | exact HB.out | apply below_alloc | apply pw_below_drewN | apply below_drew1) | exact HB.out)) hb); clear HB; have HB := n0_; clear n0_; (try clear hb); (try clear hb2); (try clear hk); (try clear hi)))
    go_ret
    exact ⟨by first | rfl | (simp [errW_none, errW_some] <;> rfl) | (simp [*, errW_none, errW_some] <;> rfl), by repeat (first | (with_reducible first | exact HB.out | apply below_alloc | apply pw_below_drewN | apply below_drew1) | exact HB.out)⟩

end Go.Proofs.Ythocalfgeaclgaa.P
end
-- MERGED YthocalfgeaclgaaEditNormsL
section
/- The plain law of EditNorms, over the printed function. -/
namespace Go.Proofs.Ythocalfgeaclgaa.EditNormsL
open Go.RowKit Go.Proofs.Ythocalfgeaclgaa.P Go.Proofs.YthocalfgeaclgaaW.PrintWords Go.Proofs.YthocalfgeaclgaaW.PrintLast Go.Proofs.YthocalfgeaclgaaW.PrintMore Go.Proofs.Ythocalfgeaclgaa.EditL Go.Proofs.Ythocalfgeaclgaa.EditK Go.Proofs.Ythocalfgeaclgaa.EditF Go.Proofs.Ythocalfgeaclgaa.EditG Go.Proofs.Ythocalfgeaclgaa.EditH Go.Proofs.Ythocalfgeaclgaa.EditMk
set_option linter.unusedSimpArgs false
set_option linter.unusedVariables false

theorem light_l (l : List Rn) (hl : l.length ≤ 140737488351232) : ∀ (suf pre : List Rn) (k : Nat), l = pre ++ suf → suf.length < k → ∃ b, variorumlaw06_Light.l0 k l (l.length : Int) (pre.length : Int) = some b ∧ (b = true → ∀ r ∈ suf, r.f1.size ≤ 200) := by
  intro suf
  induction suf with
  | nil =>
    intro pre k hfe hk
    obtain ⟨k, rfl⟩ : ∃ m, k = m + 1 := ⟨k - 1, by omega⟩
    have : l.length = pre.length := by rw [hfe]; simp
    simp only [variorumlaw06_Light.l0]
    rw [if_neg (by omega)]
    exact ⟨true, rfl, fun _ r hr => by cases hr⟩
  | cons r suf ih =>
    intro pre k hfe hk
    obtain ⟨k, rfl⟩ : ∃ m, k = m + 1 := ⟨k - 1, by omega⟩
    obtain ⟨hl2, hn, hlt⟩ := snoc hfe
    obtain ⟨b, hb, hb2⟩ := ih (pre ++ [r]) k hl2 (by simp at hk; omega)
    rw [hn] at hb
    simp only [variorumlaw06_Light.l0]
    rw [if_pos hlt, if_pos (by omega), if_pos hlt, rd_at hfe, w64 (x := (pre.length : Int) + 1) (by omega) (by omega), hb]
    by_cases h : (r.f1.size : Int) > 200
    · rw [if_pos h]; exact ⟨false, rfl, fun h => by cases h⟩
    · rw [if_neg h]
      refine ⟨b, rfl, fun e x hx => ?_⟩
      rcases List.mem_cons.1 hx with rfl | hx
      · omega
      · exact hb2 e x hx
theorem light_f (l : List Rn) (k : Nat) (hk : 100 < k) : ∃ b, variorumlaw06_Light.f k l = some b ∧ (b = true → l.length ≤ 100 ∧ ∀ r ∈ l, r.f1.size ≤ 200) := by
  unfold variorumlaw06_Light.f
  by_cases h : (l.length : Int) > 100
  · rw [if_pos h]; exact ⟨false, rfl, fun h => by cases h⟩
  · rw [if_neg h]
    obtain ⟨b, h1, h2⟩ := light_l l (by omega) l [] k rfl (by omega)
    exact ⟨b, h1, fun e => ⟨by omega, h2 e⟩⟩
/-- A run, parted. -/
def part (K : Nat) (r : Rn) : List Rn :=
  if r.f0 > (K : Int) then [⟨K, E, 0⟩, ⟨r.f0 - K, E, 0⟩] else if r.f2 > (K : Int) then [⟨0, E, K⟩, ⟨0, E, r.f2 - K⟩] else if (r.f1.size : Int) > K then [⟨0, r.f1.extract 0 K, 0⟩, ⟨0, r.f1.extract K r.f1.size, 0⟩] else [r]
def parted (K : Nat) (l : List Rn) : List Rn := l.flatMap (part K)
theorem extract_two (s : ByteArray) (k : Nat) (h : k ≤ s.size) : s.extract 0 k ++ s.extract k s.size = s ∧ (s.extract 0 k).size = k ∧ (s.extract k s.size).size = s.size - k := by
  refine ⟨?_, by rw [ByteArray.size_extract]; omega, by rw [ByteArray.size_extract]; omega⟩
  apply ByteArray.ext
  rw [ByteArray.data_append, ByteArray.data_extract, ByteArray.data_extract, Array.extract_append_extract]
  rw [show min 0 k = 0 by omega, show max k s.size = s.size by omega]
  exact Array.extract_size
theorem part_plain {r : Rn} (h : knd r ≠ 0) (K : Nat) : (∀ x ∈ part K r, plain x) ∧ inL (part K r) = inL [r] ∧ outL (part K r) = outL [r] ∧ (part K r).length ≤ 2 := by
  have hp := knd_pos h
  unfold part
  rcases knd_three h with c | c | c
  · obtain ⟨e, e0, e1, e2⟩ := run_eq c
    by_cases h1 : r.f0 > (K : Int)
    · rw [if_pos h1]
      refine ⟨fun x hx => ?_, by simp [inL, e2]; omega, by simp [outL, E_size, e1]; omega, by simp⟩
      simp only [List.mem_cons, List.not_mem_nil, or_false] at hx
      rcases hx with rfl | rfl
      · exact plain_keep (by omega)
      · exact plain_keep (by omega)
    · rw [if_neg h1, if_neg (by omega), if_neg (by rw [e1, E_size]; omega)]
      exact ⟨fun x hx => by rw [List.mem_singleton.1 hx]; exact .inl h, rfl, rfl, by simp⟩
  · obtain ⟨e, e0, e1, e2⟩ := run_eq2 c
    rw [if_neg (by omega), if_neg (by omega)]
    by_cases h1 : (r.f1.size : Int) > K
    · rw [if_pos h1]
      obtain ⟨t1, t2, t3⟩ := extract_two r.f1 K (by omega)
      refine ⟨fun x hx => ?_, by simp [inL, e0, e2], by simp only [outL, t2, t3, e0]; omega, by simp⟩
      simp only [List.mem_cons, List.not_mem_nil, or_false] at hx
      rcases hx with rfl | rfl <;> exact plain_add _
    · rw [if_neg h1]
      exact ⟨fun x hx => by rw [List.mem_singleton.1 hx]; exact .inl h, rfl, rfl, by simp⟩
  · obtain ⟨e, e0, e1, e2⟩ := run_eq3 c
    rw [if_neg (by omega)]
    by_cases h1 : r.f2 > (K : Int)
    · rw [if_pos h1]
      refine ⟨fun x hx => ?_, by simp [inL, e0]; omega, by simp [outL, E_size, e0, e1], by simp⟩
      simp only [List.mem_cons, List.not_mem_nil, or_false] at hx
      rcases hx with rfl | rfl
      · exact plain_drop (by omega)
      · exact plain_drop (by omega)
    · rw [if_neg h1, if_neg (by rw [e1, E_size]; omega)]
      exact ⟨fun x hx => by rw [List.mem_singleton.1 hx]; exact .inl h, rfl, rfl, by simp⟩
theorem fine_two {x y : Rn} (hy : knd y ≠ 0) : fine [x, y] = if knd x ≠ 0 then [x, y] else [y] := by
  rw [fine_cons, fine_cons, if_pos hy]; rfl
theorem jn_part {r : Rn} (h : knd r ≠ 0) (K : Nat) (X : List Rn) (k : Int) (a : ByteArray) (d : Int) : jn (fine (part K r) ++ X) k a d = jn (r :: X) k a d := by
  have one : jn (fine [r] ++ X) k a d = jn (r :: X) k a d := by rw [fine_cons, if_pos h]; rfl
  unfold part
  rcases knd_three h with c | c | c
  · obtain ⟨e, e0, e1, e2⟩ := run_eq c
    by_cases h1 : r.f0 > (K : Int)
    · rw [if_pos h1, fine_two (by rw [knd_keep (by omega)]; decide)]
      by_cases hK : K = 0
      · subst hK
        rw [if_neg (by decide)]
        conv => rhs; rw [e]
        simp
      · have k1 := knd_keep (k := (K : Int)) (by omega)
        have k2 := knd_keep (k := r.f0 - K) (by omega)
        rw [if_pos (by rw [k1]; decide)]
        show jn (⟨K, E, 0⟩ :: ⟨r.f0 - K, E, 0⟩ :: X) k a d = _
        by_cases hc : a.size ≠ 0 ∨ 0 < d
        · rw [jn_flush k1 hc, jn_flush c hc, jn_on (fun h => h.2.elim (fun h => h rfl) (fun h => absurd h (Int.lt_irrefl 0)))]
          show fl k a d ++ jn X (K + (r.f0 - K)) (E ++ E) (0 + 0) = _
          rw [e1, e2, E_add, show (K : Int) + (r.f0 - K) = r.f0 by omega]; rfl
        · have ha : a = E := eq_E (by omega)
          rw [jn_on (fun h => hc h.2), jn_on (fun h => hc h.2)]
          show jn (_ :: X) (k + K) (a ++ E) (d + 0) = jn X (k + r.f0) (a ++ r.f1) (d + r.f2)
          rw [jn_on (fun h => hc (by rw [add_E, Int.add_zero] at h; exact h.2))]
          show jn X (k + K + (r.f0 - K)) (a ++ E ++ E) (d + 0 + 0) = _
          rw [e1, e2, add_E, add_E, show k + (K : Int) + (r.f0 - K) = k + r.f0 by omega, Int.add_zero]
    · rw [if_neg h1, if_neg (by omega), if_neg (by rw [e1, E_size]; omega)]; exact one
  · obtain ⟨e, e0, e1, e2⟩ := run_eq2 c
    rw [if_neg (by omega), if_neg (by omega)]
    by_cases h1 : (r.f1.size : Int) > K
    · rw [if_pos h1]
      obtain ⟨t1, t2, t3⟩ := extract_two r.f1 K (by omega)
      rw [fine_two (by rw [knd_add (by rw [t3]; omega)]; decide), jn_on (fun h => by rw [c] at h; exact absurd h.1 (by decide)), e0, e2, Int.add_zero, Int.add_zero]
      have k2 := knd_add (a := r.f1.extract K r.f1.size) (by rw [t3]; omega)
      by_cases hK : K = 0
      · have h0 : r.f1.extract 0 K = E := eq_E (by rw [t2]; exact hK)
        rw [if_neg (by rw [h0]; decide)]
        show jn (⟨0, r.f1.extract K r.f1.size, 0⟩ :: X) k a d = _
        rw [jn_on (fun h => by rw [k2] at h; exact absurd h.1 (by decide))]
        show jn X (k + 0) (a ++ r.f1.extract K r.f1.size) (d + 0) = _
        rw [h0, E_add] at t1
        rw [t1]; simp only [Int.add_zero]
      · have k1 := knd_add (a := r.f1.extract 0 K) (by rw [t2]; exact hK)
        rw [if_pos (by rw [k1]; decide)]
        show jn (⟨0, r.f1.extract 0 K, 0⟩ :: ⟨0, r.f1.extract K r.f1.size, 0⟩ :: X) k a d = _
        rw [jn_on (fun h => by rw [k1] at h; exact absurd h.1 (by decide)), jn_on (fun h => by rw [k2] at h; exact absurd h.1 (by decide))]
        show jn X (k + 0 + 0) (a ++ r.f1.extract 0 K ++ r.f1.extract K r.f1.size) (d + 0 + 0) = _
        rw [ByteArray.append_assoc, t1]; simp only [Int.add_zero]
    · rw [if_neg h1]; exact one
  · obtain ⟨e, e0, e1, e2⟩ := run_eq3 c
    rw [if_neg (by omega)]
    by_cases h1 : r.f2 > (K : Int)
    · rw [if_pos h1, fine_two (by rw [knd_drop (by omega)]; decide), jn_on (fun h => by rw [c] at h; exact absurd h.1 (by decide)), e0, e1, Int.add_zero, add_E]
      have k2 := knd_drop (d := r.f2 - K) (by omega)
      by_cases hK : K = 0
      · subst hK
        rw [if_neg (by decide)]
        show jn (⟨0, E, r.f2 - (0 : Nat)⟩ :: X) k a d = _
        rw [jn_on (fun h => by rw [k2] at h; exact absurd h.1 (by decide))]
        show jn X (k + 0) (a ++ E) (d + (r.f2 - (0 : Nat))) = _
        rw [add_E, Int.add_zero]; simp
      · have k1 := knd_drop (d := (K : Int)) (by omega)
        rw [if_pos (by rw [k1]; decide)]
        show jn (⟨0, E, K⟩ :: ⟨0, E, r.f2 - K⟩ :: X) k a d = _
        rw [jn_on (fun h => by rw [k1] at h; exact absurd h.1 (by decide)), jn_on (fun h => by rw [k2] at h; exact absurd h.1 (by decide))]
        show jn X (k + 0 + 0) (a ++ E ++ E) (d + K + (r.f2 - K)) = _
        rw [add_E, add_E, Int.add_zero, Int.add_zero, show d + (K : Int) + (r.f2 - K) = d + r.f2 by omega]
    · rw [if_neg h1, if_neg (by rw [e1, E_size]; omega)]; exact one
theorem jn_parted (K : Nat) : ∀ (l : List Rn), (∀ r ∈ l, knd r ≠ 0) → ∀ (k : Int) (a : ByteArray) (d : Int), jn (fine (parted K l)) k a d = jn l k a d := by
  intro l
  induction l with
  | nil => intro _ k a d; rfl
  | cons r l ih =>
    intro h k a d
    have h2 : ∀ x ∈ l, knd x ≠ 0 := fun x hx => h x (List.mem_cons_of_mem _ hx)
    have e : parted K (r :: l) = part K r ++ parted K l := rfl
    rw [e, fine_append, jn_part (h r List.mem_cons_self)]
    by_cases c : knd r = 1 ∧ (a.size ≠ 0 ∨ 0 < d)
    · rw [jn_flush c.1 c.2, jn_flush c.1 c.2, ih h2]
    · rw [jn_on c, jn_on c, ih h2]
theorem parted_sums (K : Nat) : ∀ (l : List Rn), (∀ r ∈ l, knd r ≠ 0) → (∀ x ∈ parted K l, plain x) ∧ inL (parted K l) = inL l ∧ outL (parted K l) = outL l ∧ (parted K l).length ≤ 2 * l.length := by
  intro l
  induction l with
  | nil => intro _; exact ⟨(fun x hx => by cases hx), rfl, rfl, by simp [parted]⟩
  | cons r l ih =>
    intro h
    obtain ⟨i1, i2, i3, i4⟩ := ih fun x hx => h x (List.mem_cons_of_mem _ hx)
    obtain ⟨p1, p2, p3, p4⟩ := part_plain (h r List.mem_cons_self) K
    have e : parted K (r :: l) = part K r ++ parted K l := rfl
    rw [e]
    refine ⟨fun x hx => ?_, ?_, ?_, ?_⟩
    · rcases List.mem_append.1 hx with hx | hx
      · exact p1 x hx
      · exact i1 x hx
    · rw [inL_append, p2, i2]; simp [inL]
    · rw [outL_append, p3, i3]; simp [outL]
    · rw [List.length_append, List.length_cons]; omega
theorem norm_parted {n : List Rn} (h : good n = true) (K : Nat) : norm (parted K n) = n := by
  obtain ⟨h1, h2, h3, h4⟩ := good_ok h
  obtain ⟨s1, s2, s3, _⟩ := parted_sums K n h4
  have f1 := sums_fine s1
  have f2 := (fits_iff h4 0 0 (by decide) (by decide)).1 h3
  have f3 := (fits_iff (fine_ok (parted K n)) 0 0 (by decide) (by decide)).2 (by omega)
  have e : out (parted K n) = n := by
    unfold out
    rw [jn_parted K n h4]
    have := out_self h1
    unfold out at this
    rw [fine_self h4] at this
    exact this
  unfold norm
  rw [if_pos f3, e, if_pos h]
set_option maxHeartbeats 1000000 in
theorem loop_f (at_ : Int) (K : Nat) (hK : wrap64 (Int.tmod (IntKind.u64.wrap at_) 7) = (K : Int)) (hK6 : K ≤ 6) (n : List Rn) (hn : n.length ≤ 1000) :
    ∀ (suf pre : List Rn) (k : Nat) (acc : List Rn) (i o : Int), n = pre ++ suf → suf.length + 5000 ≤ k → (∀ r ∈ suf, knd r ≠ 0) → 0 ≤ i → 0 ≤ o → i + inL suf ≤ 16777216 → o + outL suf ≤ 16777216 → acc.length + 2 * suf.length ≤ 1000000 →
    (∀ k', 5000 ≤ k' → variorumlaw06_EditNorms.l0 k' at_ n (acc ++ parted K suf) (i + inL suf) (o + outL suf) n (n.length : Int) (n.length : Int) = some true) →
    variorumlaw06_EditNorms.l0 k at_ n acc i o n (n.length : Int) (pre.length : Int) = some true := by
  intro suf
  induction suf with
  | nil =>
    intro pre k acc i o hfe hk _ _ _ _ _ _ hend
    have hpl : n.length = pre.length := by rw [hfe]; simp
    have := hend k (by simp at hk; omega)
    rw [show parted K [] = [] from rfl, List.append_nil, show inL [] = 0 from rfl, show outL [] = 0 from rfl, Int.add_zero, Int.add_zero] at this
    rw [← hpl]
    exact this
  | cons r suf ih =>
    intro pre k acc i o hfe hk hok hi0 ho0 hi ho hacc hend
    obtain ⟨k, rfl⟩ : ∃ m, k = m + 1 := ⟨k - 1, by omega⟩
    obtain ⟨hl2, hnn, hlt⟩ := snoc hfe
    have hne := hok r List.mem_cons_self
    have hsuf : ∀ x ∈ suf, knd x ≠ 0 := fun x hx => hok x (List.mem_cons_of_mem _ hx)
    have hp := knd_pos hne
    have hs := inL_nonneg hsuf
    have hpt := part_plain hne K
    simp only [inL, outL] at hi ho
    simp only [List.length_cons] at hk hacc
    have next := ih (pre ++ [r]) k (acc ++ part K r) (i + (r.f0 + r.f2)) (o + (r.f0 + (r.f1.size : Int))) hl2 (by omega) hsuf (by omega) (by omega) (by omega) (by omega) (by rw [List.length_append]; omega) (fun k' hk' => by
      have := hend k' hk'
      rw [show parted K (r :: suf) = part K r ++ parted K suf from rfl] at this
      simp only [inL, outL] at this
      rw [List.append_assoc, show i + (r.f0 + r.f2) + inL suf = i + (r.f0 + r.f2 + inL suf) by omega, show o + (r.f0 + (r.f1.size : Int)) + outL suf = o + (r.f0 + (r.f1.size : Int) + outL suf) by omega]
      exact this)
    rw [hnn] at next
    simp only [variorumlaw06_EditNorms.l0]
    rw [if_pos hlt, if_pos (by omega), if_pos hlt, rd_at hfe, hK, w64 (x := r.f0 + r.f2) (by omega) (by omega), w64 (x := i + (r.f0 + r.f2)) (by omega) (by omega), w64 (x := r.f0 + (r.f1.size : Int)) (by omega) (by omega), w64 (x := o + (r.f0 + (r.f1.size : Int))) (by omega) (by omega), w64 (x := (pre.length : Int) + 1) (by omega) (by omega)]
    unfold part at next hpt
    by_cases h1 : r.f0 > (K : Int)
    · rw [if_pos h1] at next ⊢
      rw [Option.bind_some, if_pos (by simp; omega), w64 (x := r.f0 - (K : Int)) (by omega) (by omega)]
      exact next
    · rw [if_neg h1] at next ⊢
      by_cases h2 : r.f2 > (K : Int)
      · rw [if_pos h2] at next ⊢
        rw [Option.bind_some, if_pos (by simp; omega), w64 (x := r.f2 - (K : Int)) (by omega) (by omega)]
        exact next
      · rw [if_neg h2] at next ⊢
        by_cases h3 : (r.f1.size : Int) > (K : Int)
        · rw [if_pos h3] at next ⊢
          rw [if_pos (by omega), if_pos (by omega), Option.bind_some, if_pos (by simp; omega), Int.toNat_natCast]
          exact next
        · rw [if_neg h3] at next ⊢
          rw [if_pos (by omega)]
          exact next
theorem k_of (at_ : Int) : ∃ K : Nat, wrap64 (Int.tmod (IntKind.u64.wrap at_) 7) = (K : Int) ∧ K ≤ 6 := by
  obtain ⟨u, hu⟩ : ∃ u, u = IntKind.u64.wrap at_ := ⟨_, rfl⟩
  have h0 : 0 ≤ u := by rw [hu, IntKind.wrap_u64]; omega
  rw [← hu]
  have h1 : u.tmod 7 = u % 7 := Int.tmod_eq_emod_of_nonneg h0
  rw [h1]
  refine ⟨(u % 7).toNat, ?_, by omega⟩
  rw [w64 (by omega) (by omega)]
  omega
theorem editNorms_f (l : List Rn) (at_ : Int) : ∃ k, variorumlaw06_EditNorms.f k l at_ = some true := by
  refine ⟨80000, ?_⟩
  have hlv : ∀ k, 40 ≤ k → ((variorumlaw06_lives.f k).bind fun t => some t) = some true := fun k hk => by rw [lives_f k hk]; rfl
  unfold variorumlaw06_EditNorms.f
  obtain ⟨b, h1, h2⟩ := light_f l 80000 (by decide)
  rw [h1, Option.bind_some]
  cases b with
  | false => rw [if_neg Bool.false_ne_true]; exact hlv _ (by decide)
  | true =>
    obtain ⟨hl1, _⟩ := h2 rfl
    rw [if_pos rfl, norm_f (by omega), Option.bind_some]
    have hg := norm_good l
    have hlen : (norm l).length ≤ 1000 := by
      unfold norm
      have := out_len l
      (repeat' split) <;> first | omega | simp
    obtain ⟨n, hn⟩ : ∃ n, n = norm l := ⟨_, rfl⟩
    rw [← hn] at hg hlen ⊢
    obtain ⟨g1, g2, g3, g4⟩ := good_ok hg
    have gs := (fits_iff g4 0 0 (by decide) (by decide)).1 g3
    rw [good_f (by omega) _ (by omega), hg, Option.bind_some, if_pos rfl, norm_f (by omega), Option.bind_some, norm_self hg, same_eq n (by omega) _ (by omega), Option.bind_some]
    obtain ⟨K, hK, hK6⟩ := k_of at_
    rw [show (80000 : Nat) = 79999 + 1 from rfl]
    simp only [variorumlaw06_EditNorms.j0]
    rw [if_neg (by simp)]
    have ps := parted_sums K n g4
    refine loop_f at_ K hK hK6 n hlen n [] 79999 [] 0 0 rfl (by omega) g4 (by decide) (by decide) (by omega) (by omega) (by simp; omega) ?_
    intro k hk
    obtain ⟨k, rfl⟩ : ∃ m, k = m + 1 := ⟨k - 1, by omega⟩
    simp only [variorumlaw06_EditNorms.l0]
    rw [if_neg (by omega), List.nil_append, norm_f (by omega), Option.bind_some, norm_parted hg, same_eq n (by omega) _ (by omega), Option.bind_some, if_pos rfl, in_f (by omega) _ (by omega), Option.bind_some, hg, if_pos rfl, if_pos (by omega), out_f (by omega) _ (by omega), Option.bind_some, hg, if_pos rfl, if_pos (by omega)]
    exact hlv _ (by omega)
/-- The row: any runs, any number. -/
def mk (x : Int × ByteArray × Int) : Rn := ⟨x.1, x.2.1, x.2.2⟩
theorem row (A : Option Addr) (c : Nat) (x : List (Int × ByteArray × Int)) (a : Int) (w : World) (h : Kd.C (Kd.pair (Kd.int .i64) (Kd.pair Kd.string (Kd.int .i64))) w A x.length x) (hc : x.length ≤ c)
    (hok : x.length ≤ maxLen ∧ ∀ y ∈ x, (fun x : Int × ByteArray × Int => (Lit.int .i64 x.1).wf = true ∧ x.2.1.size ≤ maxLen ∧ (Lit.int .i64 x.2.2).wf = true) y) (ha : (Lit.int .i64 a).wf = true) :
    Calls Try.prog 5 #[.slice A x.length c, .int .i64 a] w fun e w' => e = .returned (.bool true) ∧ Below w.heap.size w w' := by
  have hC : Kd.C k37 w A x.length (x.map mk) := Maps1.C_map (d := Kd.pair (Kd.int .i64) (Kd.pair Kd.string (Kd.int .i64))) (d' := k37) rfl mk (fun x cs hx => hx) h
  obtain ⟨k, hk⟩ := editNorms_f (x.map mk) a
  have := variorumlaw06_EditNorms.calls k A c (x.map mk) a true w (by rw [List.length_map]; exact hC) (by rw [List.length_map]; exact hc) hk
  rw [List.length_map] at this
  exact this
end Go.Proofs.Ythocalfgeaclgaa.EditNormsL
end
-- MERGED YthocalfgeaclgaaOpens
section
/- Arguments of any shape, opened: what a datum's cells read as, by the kind of its type. -/
namespace Go.Proofs.Ythocalfgeaclgaa.Opens
open Go.ChangeShapes Go.WideShapes Go.Deep Go.RowKit Go.Proofs.YthocalfgeaclgaaW.PrintWords

/-- What is read as a datum of type t has cells of the kind d, and what they say is right. -/
def Opens {α : Type} (P : Program) (t : TypeId) (d : Kd α) (ok : α → Prop) : Prop :=
  P.cellsOf t = d.sz ∧ ∀ (H : Type) (enc : TypeId × Value → H) (w : World) (base : Nat) (sp : Nat → Bool) (held : Bool) (fuel : Nat) (cs : List Value) (x : DataW H × List MemPlace),
    DataW.trod enc P w base sp held fuel t cs = some x → ∃ a : α, d.K w a cs ∧ ok a
theorem list_of {α : Type} (Q : Nat → α → Prop) : ∀ len : Nat, (∀ i, i < len → ∃ x, Q i x) → ∃ l : List α, l.length = len ∧ ∀ i x, l[i]? = some x → Q i x
  | 0, _ => ⟨[], rfl, fun i x hx => by simp at hx⟩
  | k + 1, each => by
    obtain ⟨l, hl, hf⟩ := list_of Q k (fun i hi => each i (by omega))
    obtain ⟨x, h1⟩ := each k (by omega)
    refine ⟨l ++ [x], by simp [hl], fun i y hy => ?_⟩
    by_cases hik : i < l.length
    · rw [List.getElem?_append_left hik] at hy
      exact hf i y hy
    · rw [List.getElem?_append_right (by omega)] at hy
      have hi0 : i - l.length = 0 := by
        rcases Nat.eq_zero_or_pos (i - l.length) with h | h
        · exact h
        · rw [List.getElem?_eq_none (by simp; omega)] at hy; cases hy
      rw [hi0] at hy
      obtain rfl : x = y := by simpa using hy
      obtain rfl : i = k := by omega
      exact h1
section
variable {P : Program} {t e : TypeId} {α β γ δ : Type}
theorem int_ {k : IntKind} (ht : P.underlying t = some (.int k)) (hc : P.cellsOf t = 1) : Opens P t (Kd.int k) (fun n => (Lit.int k n).wf = true) :=
  ⟨hc, fun _ _ _ _ _ _ _ _ _ h => by
    obtain ⟨n, rfl, _, hw⟩ := DataW.trod_int ht h
    exact ⟨n, rfl, hw⟩⟩
theorem string_ (ht : P.underlying t = some .string) (hc : P.cellsOf t = 1) : Opens P t Kd.string (fun s => s.size ≤ maxLen) :=
  ⟨hc, fun _ _ _ _ _ _ _ _ _ h => by
    obtain ⟨n, rfl, _, hw⟩ := DataW.trod_string ht h
    exact ⟨n, rfl, hw⟩⟩
theorem bool_ (ht : P.underlying t = some .bool) (hc : P.cellsOf t = 1) : Opens P t Kd.bool (fun _ => True) :=
  ⟨hc, fun _ _ _ _ _ _ _ _ _ h => by
    obtain ⟨n, rfl, _⟩ := DataW.trod_bool ht h
    exact ⟨n, rfl, trivial⟩⟩
theorem slice_ {d : Kd α} {ok : α → Prop} (ht : P.underlying t = some (.slice e)) (hc : P.cellsOf t = 1) (he : Opens P e d ok) : Opens P t (Kd.slice e d) (fun l => l.length ≤ maxLen ∧ ∀ x ∈ l, ok x) := by
  refine ⟨hc, fun H enc w base sp held fuel cs x h => ?_⟩
  rcases open_slice ht h with ⟨rfl, _⟩ | ⟨a, len, cap, m, n, D, Pl, rfl, hb, hl, hm, hmm, _, hi⟩
  · refine ⟨[], ⟨none, 0, rfl, Nat.le_refl _, rfl, Nat.zero_le _, fun h => absurd h (by simp)⟩, Nat.zero_le _, fun _ h => by cases h⟩
  · have hlm : len ≤ m := by rw [hmm]; split <;> omega
    have each : ∀ i, i < len → ∃ (x : α) (cs' : List Value), w.cells? base (a.add (i * P.cellsOf e)) (P.cellsOf e) = some cs' ∧ d.K w x cs' ∧ ok x := by
      intro i hlt
      obtain ⟨cs', h1, h2⟩ := hi i (by omega)
      obtain ⟨x, h3, h4⟩ := he.2 H enc w base sp held n cs' _ h2
      exact ⟨x, cs', h1, h3, h4⟩
    have hex := list_of (fun i x => ∃ cs' : List Value, w.cells? base (a.add (i * P.cellsOf e)) (P.cellsOf e) = some cs' ∧ d.K w x cs' ∧ ok x) len each
    obtain ⟨l, hll, hf⟩ := hex
    subst hll
    refine ⟨l, ⟨some a, cap, rfl, hl, rfl, ?_, fun _ => ⟨a, rfl, fun j p hj => ?_⟩⟩, by omega, fun x hx => ?_⟩
    · unfold maxLen at hm; omega
    · obtain ⟨cs', h1, h2, _⟩ := hf j p hj
      obtain ⟨_, h3, h4⟩ := World.cells?_some h1
      refine ⟨cs', d.K_len h2, h2, fun i u hu => ?_⟩
      have hil : i < P.cellsOf e := by
        have := (List.getElem?_eq_some_iff.1 hu).1
        omega
      rw [← Go.Deep.add_add, ← he.1, h4 i hil, hu]
    · obtain ⟨i, hi⟩ := List.getElem?_of_mem hx
      obtain ⟨_, _, _, h⟩ := hf i x hi
      exact h
theorem struct2_ {d0 : Kd α} {d1 : Kd β} {ok0 : α → Prop} {ok1 : β → Prop} {f0 f1 : Field} (ht : P.underlying t = some (.struct #[f0, f1])) (hc : P.cellsOf t = d0.sz + d1.sz) (h0 : Opens P f0.type d0 ok0) (h1 : Opens P f1.type d1 ok1) (o0 : f0.offset = 0) (o1 : f1.offset = d0.sz) :
    Opens P t (Kd.pair d0 d1) (fun x => ok0 x.1 ∧ ok1 x.2) := by
  refine ⟨hc, fun H enc w base sp held fuel cs x h => ?_⟩
  obtain ⟨ys, n, _, _, hl, hyl, hf⟩ := DataW.trod_struct ht h
  have g0 := hf 0 f0 rfl
  have g1 := hf 1 f1 rfl
  simp only [List.size_toArray, List.length_cons, List.length_nil] at hyl
  rw [List.getElem?_eq_getElem (by omega)] at g0 g1
  obtain ⟨a, ka, oa⟩ := h0.2 _ _ _ _ _ _ _ _ _ g0
  obtain ⟨b, kb, ob⟩ := h1.2 _ _ _ _ _ _ _ _ _ g1
  refine ⟨(a, b), ⟨_, _, ?_, ka, kb⟩, oa, ob⟩
  rw [o0, o1, h0.1, h1.1, List.drop_zero]
  rw [hc] at hl
  have e1 : (cs.drop d0.sz).take d1.sz = cs.drop d0.sz := List.take_of_length_le (by rw [List.length_drop]; omega)
  rw [e1, List.take_append_drop]
theorem struct3_ {d0 : Kd α} {d1 : Kd β} {d2 : Kd γ} {ok0 : α → Prop} {ok1 : β → Prop} {ok2 : γ → Prop} {f0 f1 f2 : Field} (ht : P.underlying t = some (.struct #[f0, f1, f2])) (hc : P.cellsOf t = d0.sz + (d1.sz + d2.sz)) (h0 : Opens P f0.type d0 ok0) (h1 : Opens P f1.type d1 ok1) (h2 : Opens P f2.type d2 ok2)
    (o0 : f0.offset = 0) (o1 : f1.offset = d0.sz) (o2 : f2.offset = d0.sz + d1.sz) : Opens P t (Kd.pair d0 (Kd.pair d1 d2)) (fun x => ok0 x.1 ∧ ok1 x.2.1 ∧ ok2 x.2.2) := by
  refine ⟨hc, fun H enc w base sp held fuel cs x h => ?_⟩
  obtain ⟨ys, n, _, _, hl, hyl, hf⟩ := DataW.trod_struct ht h
  have g0 := hf 0 f0 rfl
  have g1 := hf 1 f1 rfl
  have g2 := hf 2 f2 rfl
  simp only [List.size_toArray, List.length_cons, List.length_nil] at hyl
  rw [List.getElem?_eq_getElem (by omega)] at g0 g1 g2
  obtain ⟨a, ka, oa⟩ := h0.2 _ _ _ _ _ _ _ _ _ g0
  obtain ⟨b, kb, ob⟩ := h1.2 _ _ _ _ _ _ _ _ _ g1
  obtain ⟨c, kc, oc⟩ := h2.2 _ _ _ _ _ _ _ _ _ g2
  refine ⟨(a, b, c), ⟨_, _, ?_, ka, _, _, rfl, kb, kc⟩, oa, ob, oc⟩
  rw [o0, o1, o2, h0.1, h1.1, h2.1, List.drop_zero]
  rw [hc] at hl
  have e1 : (cs.drop (d0.sz + d1.sz)).take d2.sz = cs.drop (d0.sz + d1.sz) := List.take_of_length_le (by rw [List.length_drop]; omega)
  rw [e1, ← List.drop_drop, List.take_append_drop, List.take_append_drop]
theorem struct4_ {d0 : Kd α} {d1 : Kd β} {d2 : Kd γ} {d3 : Kd δ} {ok0 : α → Prop} {ok1 : β → Prop} {ok2 : γ → Prop} {ok3 : δ → Prop} {f0 f1 f2 f3 : Field} (ht : P.underlying t = some (.struct #[f0, f1, f2, f3])) (hc : P.cellsOf t = d0.sz + (d1.sz + (d2.sz + d3.sz)))
    (h0 : Opens P f0.type d0 ok0) (h1 : Opens P f1.type d1 ok1) (h2 : Opens P f2.type d2 ok2) (h3 : Opens P f3.type d3 ok3) (o0 : f0.offset = 0) (o1 : f1.offset = d0.sz) (o2 : f2.offset = d0.sz + d1.sz) (o3 : f3.offset = d0.sz + d1.sz + d2.sz) :
    Opens P t (Kd.pair d0 (Kd.pair d1 (Kd.pair d2 d3))) (fun x => ok0 x.1 ∧ ok1 x.2.1 ∧ ok2 x.2.2.1 ∧ ok3 x.2.2.2) := by
  refine ⟨hc, fun H enc w base sp held fuel cs x h => ?_⟩
  obtain ⟨ys, n, _, _, hl, hyl, hf⟩ := DataW.trod_struct ht h
  have g0 := hf 0 f0 rfl
  have g1 := hf 1 f1 rfl
  have g2 := hf 2 f2 rfl
  have g3 := hf 3 f3 rfl
  simp only [List.size_toArray, List.length_cons, List.length_nil] at hyl
  rw [List.getElem?_eq_getElem (by omega)] at g0 g1 g2 g3
  obtain ⟨a, ka, oa⟩ := h0.2 _ _ _ _ _ _ _ _ _ g0
  obtain ⟨b, kb, ob⟩ := h1.2 _ _ _ _ _ _ _ _ _ g1
  obtain ⟨c, kc, oc⟩ := h2.2 _ _ _ _ _ _ _ _ _ g2
  obtain ⟨q, kq, oq⟩ := h3.2 _ _ _ _ _ _ _ _ _ g3
  refine ⟨(a, b, c, q), ⟨_, _, ?_, ka, _, _, rfl, kb, _, _, rfl, kc, kq⟩, oa, ob, oc, oq⟩
  rw [o0, o1, o2, o3, h0.1, h1.1, h2.1, h3.1, List.drop_zero]
  rw [hc] at hl
  have e1 : (cs.drop (d0.sz + d1.sz + d2.sz)).take d3.sz = cs.drop (d0.sz + d1.sz + d2.sz) := List.take_of_length_le (by rw [List.length_drop]; omega)
  rw [e1, ← List.drop_drop (i := d2.sz), List.take_append_drop, ← List.drop_drop, List.take_append_drop, List.take_append_drop]
/-- A parameter of such a type. -/
theorem arg_ {d : Kd α} {ok : α → Prop} (ho : Opens P t d ok) {H : Type} {enc : TypeId × Value → H} {w : World} {base : Nat} {sp : Nat → Bool} {held : Bool} {v : Value} {x : DataW H} {ps : List MemPlace} (h : DataW.Trod enc P w base sp held t v x ps) : ∃ a : α, d.K w a v.cells.toList ∧ ok a := by
  obtain ⟨fuel, hf⟩ := h
  exact ho.2 _ _ _ _ _ _ _ _ _ hf
end
theorem slice_shape {α : Type} {e : Nat} {d : Kd α} {w : World} {a : Option Addr} {n c : Nat} {l : List α} (h : (Kd.slice e d).K w l (Value.slice a n c).cells.toList) : n = l.length ∧ l.length ≤ c ∧ Kd.C d w a l.length l := by
  obtain ⟨A, c', e1, hc, hC⟩ := h
  simp only [Value.cells, List.cons.injEq, Value.slice.injEq] at e1
  obtain ⟨⟨rfl, rfl, rfl⟩, _⟩ := e1
  exact ⟨rfl, hc, hC⟩
end Go.Proofs.Ythocalfgeaclgaa.Opens
end
-- MERGED YthocalfgeaclgaaLawEditNorms
section
/- The edit of an edit's runs is it; so is that of its runs, parted anywhere; the edit of any runs has as many bytes, ahead and behind, as the right ones have: for every runs and every number; no condition. -/
namespace Go.Proofs.Ythocalfgeaclgaa.editNorms
open Go.ChangeShapes Go.WideShapes Go.ChangeAt Go.RowKit Go.Proofs.YthocalfgeaclgaaW.PrintWords
open Go.ChangeMaps (open_string shut_string)
set_option linter.unusedVariables false
theorem own : ownKnob Try.prog.godebug = none := by kernel_rfl
theorem laidOut : laidOutB Try.prog = true := by kernel_rfl
theorem o3 : Opens.Opens Try.prog 3 (Kd.int .i64) (fun n => (Lit.int .i64 n).wf = true) := Opens.int_ (t := 3) Try.underlying3 (by kernel_rfl)
theorem o9 : Opens.Opens Try.prog 9 Kd.string (fun s => s.size ≤ maxLen) := Opens.string_ (t := 9) Try.underlying9 (by kernel_rfl)
theorem o37 : Opens.Opens Try.prog 37 (Kd.pair (Kd.int .i64) (Kd.pair Kd.string (Kd.int .i64))) (fun x => (fun n => (Lit.int .i64 n).wf = true) x.1 ∧ (fun s => s.size ≤ maxLen) x.2.1 ∧ (fun n => (Lit.int .i64 n).wf = true) x.2.2) := Opens.struct3_ (t := 37) Try.underlying37 (by kernel_rfl) o3 o9 o3 rfl rfl rfl
theorem o22 : Opens.Opens Try.prog 22 (Kd.slice 37 (Kd.pair (Kd.int .i64) (Kd.pair Kd.string (Kd.int .i64)))) (fun l => l.length ≤ maxLen ∧ ∀ x ∈ l, (fun x => (fun n => (Lit.int .i64 n).wf = true) x.1 ∧ (fun s => s.size ≤ maxLen) x.2.1 ∧ (fun n => (Lit.int .i64 n).wf = true) x.2.2) x) := Opens.slice_ (t := 22) (e := 37) Try.underlying22 (by kernel_rfl) o37
set_option maxRecDepth 100000 in
theorem lifted (os : Os) (started : os.Started) (H : Type) (enc : TypeId × Value → H) :
    ReturnsInHanded {} Try.checked os 5 .any (Rows.editNormsSpec.pre6 enc Try.prog Try.f5 Rows.editNormsRow.domain false) (Rows.editNormsSpec.post enc Try.prog Try.f5 false true false false) := by
  refine returnsInHanded_of_change_sized (C := Try.checked) own started (by kernel_rfl) Try.func5
    (ChangeSpec.witness6 (enc := enc) (C := Try.checked) false ⟨#[], #[(.slice none 0 0), (.int .i64 0)], []⟩ 8 (by kernel_rfl) (by kernel_rfl) (by kernel_rfl) (by kernel_rfl)) ?_
  intro W base args ds gs before hval0 hW hcnd hsz0 _
  have hsz : (DataW.weightsEach Try.prog (Try.f5.params.toList ++ Rows.editNormsSpec.plain.varTypes Try.prog) (ds ++ gs)).all (· ≤ reachBytes) = true := hsz0
  have hval : ∀ (j : Nat) t v, Try.f5.params[j]? = some t → args[j]? = some v → Value.okWide Try.prog W .any base t v := hval0
  have hW' := hW
  obtain ⟨p, q, hA0, hV, rfl, hfz, hnd⟩ := hW
  have hA : DataW.TrodAll enc Try.prog W 0 (fun _ => true) true Try.f5.params.toList args.toList ds p := hA0
  rw [Try.params5] at hA hval hsz
  obtain ⟨v0, vs0, d0, ds0, p0, q0, hargs, rfl, rfl, h0, r0⟩ := trodAll_cons hA
  obtain ⟨v1, vs1, d1, ds1, p1, q1, rfl, rfl, rfl, h1, r1⟩ := trodAll_cons r0
  obtain ⟨rfl, rfl, rfl⟩ := trodAll_nil r1
  obtain rfl : args = #[v0, v1] := by cases args; simp_all
  obtain ⟨rfl, rfl⟩ := trodVars_none hV
  obtain ⟨a0, len0, cap0, rfl⟩ := okWide_slice Try.underlying22 (hval 0 22 v0 rfl rfl)
  have k0 := h0
  have lt0 : ∀ x ∈ p0, x.block < W.heap.size := by obtain ⟨m, hm⟩ := k0; exact DataW.trod_lt m _ _ _ hm
  obtain ⟨x0, hK0, ok0⟩ := Opens.arg_ o22 h0
  obtain ⟨rfl, hc0, hC0⟩ := Opens.slice_shape hK0
  obtain ⟨a1, rfl, rfl, rfl, w1⟩ := open_int Try.underlying3 (hval 1 3 v1 rfl rfl) h1
  clear hA0 hval0 hsz0 hsz
  refine (EditNormsL.row a0 cap0 x0 a1 W hC0 hc0 ok0 w1).mono fun e W' ⟨he, bel⟩ => ?_
  subst he
  exact ⟨_, rfl, _, _, _, [], _, [], hW', trodAll_mk1 (shut_bool Try.underlying4 _), (trodAll_cons_mk (Below.trod laidOut (by kernel_rfl) (of_decide_eq_true (by kernel_rfl)) k0 bel lt0) (trodAll_cons_mk (shut_int Try.underlying3 w1) trodAll_mk0)), rfl, bel.frame _, fun h => by cases h⟩
theorem over : Rows.editNormsRow.holds Try.pinned (OpenSpec.ofChange Rows.editNormsSpec) :=
  OpenClaim.holds_of_wide 5 Try.f5 rfl rfl rfl rfl rfl rfl rfl ⟨rfl, rfl, rfl, rfl, rfl⟩ rfl rfl rfl rfl rfl (by kernel_rfl) Try.func5 (by kernel_rfl)
    (of_decide_eq_true (by kernel_rfl)) (by unfold Func.isWrapper; first | (rw [if_pos (by decide +kernel)]; kernel_rfl) | (rw [if_neg (by decide +kernel)]; exact ⟨rfl, rfl⟩))
    (fun os started H enc _ => lifted os started H enc)
theorem proved : Rows.EditNormsSaid := over
#print axioms proved
end Go.Proofs.Ythocalfgeaclgaa.editNorms
namespace Go.Proofs.Ythocalfgeaclgaa
/-- The row, under a short name, for the claim. -/
theorem editNorms_holds : Rows.EditNormsSaid := editNorms.proved
end Go.Proofs.Ythocalfgeaclgaa
end

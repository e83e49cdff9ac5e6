import Derived.Test.YthocalfgeaclgaaRows
import Derived.Test.YthocalfgeaclgaaZA
import Derived.Test.YthocalfgeaclgaaZB
import Derived.Test.YthocalfgeaclgaaZC
import Derived.WalkKit
import Derived.ProofKit
import Derived.OpenShut
import Derived.ShutString
import Derived.ChangeOld
import Derived.Below
import Derived.SizedLaws
-- MERGED YthocalfgeaclgaaPvariorumlaw06EditMakes
section
-- Written by wip/myprint.py of this session, over the kit's print.py: a Lean function for each Go function, and the proof that the code comes to it.
namespace Go.Proofs.Ythocalfgeaclgaa.P
open Go.RowKit Go.Proofs.YthocalfgeaclgaaW.PrintWords Go.Proofs.YthocalfgeaclgaaW.PrintLast Go.Proofs.YthocalfgeaclgaaW.PrintMore
attribute [local go_sem] max2_int min2_int max_two min_two max_three min_three max_four min_four   -- for this text's walks alone
set_option linter.unusedVariables false
set_option linter.unusedSimpArgs false

/-! ### variorumlaw06_EditMakes: function 7 -/
def variorumlaw06_EditMakes.j0 : Nat → Int → List (S37) → Int → List (S37) → Int → List (S37) → Int → List (S37) → Int → Bool → Option (Bool)
  | 0, _, _, _, _, _, _, _, _, _, _ => none
  | k + 1, x0, x9, x10, x11, x12, x13, x14, x15, x16, x93 => if x93 = true then (some false) else ((variorumref06_Same.f k x9 x11).bind fun t361 => (if t361 = true then (if x10 = x12 then ((variorumref06_Same.f k x13 x15).bind fun t362 => (if t362 = true then (if x14 = x16 then ((edit_Nothing.f x0).bind fun t363 => ((variorumref06_Nothing.f x0).bind fun t366 => ((variorumref06_Same.f k t363 t366).bind fun t369 => (if t369 = true then ((variorumlaw06_lives.f k).bind fun t370 => (some t370)) else (some false))))) else (some false)) else (some false))) else (some false)) else (some false)))
def variorumlaw06_EditMakes.f (k : Nat) (a0 : Int) (a1 : Int) (a2 : Int) (a3 : ByteArray) : Option (Bool) := if (a3.size : Int) > 2000 then ((variorumlaw06_lives.f k).bind fun t335 => (some t335)) else ((edit_Insert.f k a0 a1 a3).bind fun bt336 => ((variorumref06_Insert.f k a0 a1 a3).bind fun bt340 => ((edit_Delete.f k a0 a1 a2).bind fun bt344 => ((variorumref06_Delete.f k a0 a1 a2).bind fun bt348 => (if bt336.2 = 0 then ((edit_Good.f k bt336.1).bind fun t352 => (if t352 = true then ((edit_In.f k bt336.1).bind fun t353 => (if t353 = a0 then ((edit_Out.f k bt336.1).bind fun t354 => (if t354 = (wrap64 (a0 + (a3.size : Int))) then (if bt344.2 = 0 then ((edit_Good.f k bt344.1).bind fun t355 => (if t355 = true then ((edit_In.f k bt344.1).bind fun t356 => (if t356 = a0 then ((edit_Out.f k bt344.1).bind fun t357 => (variorumlaw06_EditMakes.j0 k a0 bt336.1 bt336.2 bt340.1 bt340.2 bt344.1 bt344.2 bt348.1 bt348.2 (t357 != (wrap64 (a0 - a2))))) else (variorumlaw06_EditMakes.j0 k a0 bt336.1 bt336.2 bt340.1 bt340.2 bt344.1 bt344.2 bt348.1 bt348.2 true))) else (variorumlaw06_EditMakes.j0 k a0 bt336.1 bt336.2 bt340.1 bt340.2 bt344.1 bt344.2 bt348.1 bt348.2 true))) else (variorumlaw06_EditMakes.j0 k a0 bt336.1 bt336.2 bt340.1 bt340.2 bt344.1 bt344.2 bt348.1 bt348.2 false)) else (variorumlaw06_EditMakes.j0 k a0 bt336.1 bt336.2 bt340.1 bt340.2 bt344.1 bt344.2 bt348.1 bt348.2 true))) else (variorumlaw06_EditMakes.j0 k a0 bt336.1 bt336.2 bt340.1 bt340.2 bt344.1 bt344.2 bt348.1 bt348.2 true))) else (variorumlaw06_EditMakes.j0 k a0 bt336.1 bt336.2 bt340.1 bt340.2 bt344.1 bt344.2 bt348.1 bt348.2 true))) else (if bt344.2 = 0 then ((edit_Good.f k bt344.1).bind fun t358 => (if t358 = true then ((edit_In.f k bt344.1).bind fun t359 => (if t359 = a0 then ((edit_Out.f k bt344.1).bind fun t360 => (variorumlaw06_EditMakes.j0 k a0 bt336.1 bt336.2 bt340.1 bt340.2 bt344.1 bt344.2 bt348.1 bt348.2 (t360 != (wrap64 (a0 - a2))))) else (variorumlaw06_EditMakes.j0 k a0 bt336.1 bt336.2 bt340.1 bt340.2 bt344.1 bt344.2 bt348.1 bt348.2 true))) else (variorumlaw06_EditMakes.j0 k a0 bt336.1 bt336.2 bt340.1 bt340.2 bt344.1 bt344.2 bt348.1 bt348.2 true))) else (variorumlaw06_EditMakes.j0 k a0 bt336.1 bt336.2 bt340.1 bt340.2 bt344.1 bt344.2 bt348.1 bt348.2 false)))))))
theorem variorumlaw06_EditMakes.mono_l : ∀ k, (∀ y0 y1 y2 y3 y4 y5 y6 y7 y8 y9, LeO (variorumlaw06_EditMakes.j0 k y0 y1 y2 y3 y4 y5 y6 y7 y8 y9) (variorumlaw06_EditMakes.j0 (k + 1) y0 y1 y2 y3 y4 y5 y6 y7 y8 y9))
  | 0 => fun _ _ _ _ _ _ _ _ _ _ r h => by simp [variorumlaw06_EditMakes.j0] at h
  | k + 1 => by
    have ih0 := variorumlaw06_EditMakes.mono_l k
    · intro y0 y1 y2 y3 y4 y5 y6 y7 y8 y9
      unfold variorumlaw06_EditMakes.j0
      repeat' first
      | (with_reducible exact ih0 _ _ _ _ _ _ _ _ _ _)
      | (with_reducible exact edit_Delete.mono _ _ _ _)
      | (with_reducible exact edit_Good.mono _ _)
      | (with_reducible exact edit_In.mono _ _)
      | (with_reducible exact edit_Insert.mono _ _ _ _)
      | (with_reducible exact edit_Out.mono _ _)
      | (with_reducible exact variorumlaw06_lives.mono _)
      | (with_reducible exact variorumref06_Delete.mono _ _ _ _)
      | (with_reducible exact variorumref06_Insert.mono _ _ _ _)
      | (with_reducible exact variorumref06_Same.mono _ _ _)
      | (with_reducible exact LeO.refl _)
      | (with_reducible exact LeO.none _)
      | (with_reducible refine LeO.ite ?_ ?_)
      | (with_reducible refine LeO.bind ?_ (fun _ => ?_))
      | exact ih0 _ _ _ _ _ _ _ _ _ _
      | exact edit_Delete.mono _ _ _ _
      | exact edit_Good.mono _ _
      | exact edit_In.mono _ _
      | exact edit_Insert.mono _ _ _ _
      | exact edit_Out.mono _ _
      | exact variorumlaw06_lives.mono _
      | exact variorumref06_Delete.mono _ _ _ _
      | exact variorumref06_Insert.mono _ _ _ _
      | exact variorumref06_Same.mono _ _ _
      | exact LeO.none _
      | refine LeO.ite ?_ ?_
      | refine LeO.bind ?_ (fun _ => ?_)
theorem variorumlaw06_EditMakes.mono : ∀ a0 a1 a2 a3 k, LeO (variorumlaw06_EditMakes.f k a0 a1 a2 a3) (variorumlaw06_EditMakes.f (k + 1) a0 a1 a2 a3) := by
  intro a0 a1 a2 a3 k
  have ih0 := variorumlaw06_EditMakes.mono_l k
  unfold variorumlaw06_EditMakes.f
  repeat' first
      | (with_reducible exact ih0 _ _ _ _ _ _ _ _ _ _)
      | (with_reducible exact edit_Delete.mono _ _ _ _)
      | (with_reducible exact edit_Good.mono _ _)
      | (with_reducible exact edit_In.mono _ _)
      | (with_reducible exact edit_Insert.mono _ _ _ _)
      | (with_reducible exact edit_Out.mono _ _)
      | (with_reducible exact variorumlaw06_lives.mono _)
      | (with_reducible exact variorumref06_Delete.mono _ _ _ _)
      | (with_reducible exact variorumref06_Insert.mono _ _ _ _)
      | (with_reducible exact variorumref06_Same.mono _ _ _)
      | (with_reducible exact LeO.refl _)
      | (with_reducible exact LeO.none _)
      | (with_reducible refine LeO.ite ?_ ?_)
      | (with_reducible refine LeO.bind ?_ (fun _ => ?_))
      | exact ih0 _ _ _ _ _ _ _ _ _ _
      | exact edit_Delete.mono _ _ _ _
      | exact edit_Good.mono _ _
      | exact edit_In.mono _ _
      | exact edit_Insert.mono _ _ _ _
      | exact edit_Out.mono _ _
      | exact variorumlaw06_lives.mono _
      | exact variorumref06_Delete.mono _ _ _ _
      | exact variorumref06_Insert.mono _ _ _ _
      | exact variorumref06_Same.mono _ _ _
      | exact LeO.none _
      | refine LeO.ite ?_ ?_
      | refine LeO.bind ?_ (fun _ => ?_)
set_option maxHeartbeats 8000000 in
set_option maxRecDepth 100000 in
theorem variorumlaw06_EditMakes.calls (k : Nat) (a0 : Int) (a1 : Int) (a2 : Int) (a3 : ByteArray) (r : Bool) (w : World) (h : variorumlaw06_EditMakes.f k a0 a1 a2 a3 = some r) :
    Calls Try.prog 7 #[.int .i64 a0, .int .i64 a1, .int .i64 a2, .string a3] w fun e w' => e = .returned (.bool r) ∧ Below w.heap.size w w' := by
  have HB := Aside0.mk (Below.refl w.heap.size w)
  have H : (if (a3.size : Int) > 2000 then ((variorumlaw06_lives.f k).bind fun t335 => (some t335)) else ((edit_Insert.f k a0 a1 a3).bind fun bt336 => ((variorumref06_Insert.f k a0 a1 a3).bind fun bt340 => ((edit_Delete.f k a0 a1 a2).bind fun bt344 => ((variorumref06_Delete.f k a0 a1 a2).bind fun bt348 => (if bt336.2 = 0 then ((edit_Good.f k bt336.1).bind fun t352 => (if t352 = true then ((edit_In.f k bt336.1).bind fun t353 => (if t353 = a0 then ((edit_Out.f k bt336.1).bind fun t354 => (if t354 = (wrap64 (a0 + (a3.size : Int))) then (if bt344.2 = 0 then ((edit_Good.f k bt344.1).bind fun t355 => (if t355 = true then ((edit_In.f k bt344.1).bind fun t356 => (if t356 = a0 then ((edit_Out.f k bt344.1).bind fun t357 => (variorumlaw06_EditMakes.j0 k a0 bt336.1 bt336.2 bt340.1 bt340.2 bt344.1 bt344.2 bt348.1 bt348.2 (t357 != (wrap64 (a0 - a2))))) else (variorumlaw06_EditMakes.j0 k a0 bt336.1 bt336.2 bt340.1 bt340.2 bt344.1 bt344.2 bt348.1 bt348.2 true))) else (variorumlaw06_EditMakes.j0 k a0 bt336.1 bt336.2 bt340.1 bt340.2 bt344.1 bt344.2 bt348.1 bt348.2 true))) else (variorumlaw06_EditMakes.j0 k a0 bt336.1 bt336.2 bt340.1 bt340.2 bt344.1 bt344.2 bt348.1 bt348.2 false)) else (variorumlaw06_EditMakes.j0 k a0 bt336.1 bt336.2 bt340.1 bt340.2 bt344.1 bt344.2 bt348.1 bt348.2 true))) else (variorumlaw06_EditMakes.j0 k a0 bt336.1 bt336.2 bt340.1 bt340.2 bt344.1 bt344.2 bt348.1 bt348.2 true))) else (variorumlaw06_EditMakes.j0 k a0 bt336.1 bt336.2 bt340.1 bt340.2 bt344.1 bt344.2 bt348.1 bt348.2 true))) else (if bt344.2 = 0 then ((edit_Good.f k bt344.1).bind fun t358 => (if t358 = true then ((edit_In.f k bt344.1).bind fun t359 => (if t359 = a0 then ((edit_Out.f k bt344.1).bind fun t360 => (variorumlaw06_EditMakes.j0 k a0 bt336.1 bt336.2 bt340.1 bt340.2 bt344.1 bt344.2 bt348.1 bt348.2 (t360 != (wrap64 (a0 - a2))))) else (variorumlaw06_EditMakes.j0 k a0 bt336.1 bt336.2 bt340.1 bt340.2 bt344.1 bt344.2 bt348.1 bt348.2 true))) else (variorumlaw06_EditMakes.j0 k a0 bt336.1 bt336.2 bt340.1 bt340.2 bt344.1 bt344.2 bt348.1 bt348.2 true))) else (variorumlaw06_EditMakes.j0 k a0 bt336.1 bt336.2 bt340.1 bt340.2 bt344.1 bt344.2 bt348.1 bt348.2 false)))))))) = some r := h
  clear h
  by_cases c5 : (a3.size : Int) > 2000
  · rw [if_pos c5] at H
    have c5b0 : decide (2000 < (a3.size : Int)) = true := decide_eq_true c5
    have c5b1 : decide (2000 < a3.size) = true := decide_eq_true (by omega)
    clear c5
    replace H := Option.bind_eq_some_iff.mp H
    obtain ⟨t335, A60, H⟩ := H
    replace H : (some t335) = some r := H
    have A6 := Aside0.mk A60
    clear A60
    obtain rfl := Option.some.inj H
    go_enter Try.func7, Try.ntmps7
    go_wp2_with (first | ((with_reducible refine gate_callee (f := 22) rfl ?_); refine goesL_ (some 20) rfl rfl Try.func22 (by kernel_rfl) rfl #[] rfl (by (try simp only [List.map_toArray, List.map_cons, List.map_nil]); first | done | rfl | (simp only [List.length_drop, List.length_take]; rfl)) ?_; (with_reducible refine (variorumlaw06_lives.calls k  t335 _ A6.out).mono ?_); rintro e w7 ⟨rfl, hb⟩; refine ⟨_, rfl, ?_⟩; have n0_ := Aside0.mk (below_step (by repeat (first | (with_reducible first | exact HB.out | apply below_alloc | apply pw_below_drewN | apply below_drew1) | exact HB.out)) hb); clear HB; have HB := n0_; clear n0_; (try clear hb); (try clear hb2); (try clear hk); (try clear hi)))
    go_ret
    exact ⟨by first | rfl | (simp [errW_none, errW_some] <;> rfl) | (simp [*, errW_none, errW_some] <;> rfl), by repeat (first | (with_reducible first | exact HB.out | apply below_alloc | apply pw_below_drewN | apply below_drew1) | exact HB.out)⟩
  · rw [if_neg c5] at H
    have c5b0 : decide (2000 < (a3.size : Int)) = false := decide_eq_false c5
    have c5b1 : decide (2000 < a3.size) = false := decide_eq_false (by omega)
    clear c5
    replace H := Option.bind_eq_some_iff.mp H
    obtain ⟨⟨t336, t337⟩, A80, H⟩ := H
    replace H : ((variorumref06_Insert.f k a0 a1 a3).bind fun bt340 => ((edit_Delete.f k a0 a1 a2).bind fun bt344 => ((variorumref06_Delete.f k a0 a1 a2).bind fun bt348 => (if t337 = 0 then ((edit_Good.f k t336).bind fun t352 => (if t352 = true then ((edit_In.f k t336).bind fun t353 => (if t353 = a0 then ((edit_Out.f k t336).bind fun t354 => (if t354 = (wrap64 (a0 + (a3.size : Int))) then (if bt344.2 = 0 then ((edit_Good.f k bt344.1).bind fun t355 => (if t355 = true then ((edit_In.f k bt344.1).bind fun t356 => (if t356 = a0 then ((edit_Out.f k bt344.1).bind fun t357 => (variorumlaw06_EditMakes.j0 k a0 t336 t337 bt340.1 bt340.2 bt344.1 bt344.2 bt348.1 bt348.2 (t357 != (wrap64 (a0 - a2))))) else (variorumlaw06_EditMakes.j0 k a0 t336 t337 bt340.1 bt340.2 bt344.1 bt344.2 bt348.1 bt348.2 true))) else (variorumlaw06_EditMakes.j0 k a0 t336 t337 bt340.1 bt340.2 bt344.1 bt344.2 bt348.1 bt348.2 true))) else (variorumlaw06_EditMakes.j0 k a0 t336 t337 bt340.1 bt340.2 bt344.1 bt344.2 bt348.1 bt348.2 false)) else (variorumlaw06_EditMakes.j0 k a0 t336 t337 bt340.1 bt340.2 bt344.1 bt344.2 bt348.1 bt348.2 true))) else (variorumlaw06_EditMakes.j0 k a0 t336 t337 bt340.1 bt340.2 bt344.1 bt344.2 bt348.1 bt348.2 true))) else (variorumlaw06_EditMakes.j0 k a0 t336 t337 bt340.1 bt340.2 bt344.1 bt344.2 bt348.1 bt348.2 true))) else (if bt344.2 = 0 then ((edit_Good.f k bt344.1).bind fun t358 => (if t358 = true then ((edit_In.f k bt344.1).bind fun t359 => (if t359 = a0 then ((edit_Out.f k bt344.1).bind fun t360 => (variorumlaw06_EditMakes.j0 k a0 t336 t337 bt340.1 bt340.2 bt344.1 bt344.2 bt348.1 bt348.2 (t360 != (wrap64 (a0 - a2))))) else (variorumlaw06_EditMakes.j0 k a0 t336 t337 bt340.1 bt340.2 bt344.1 bt344.2 bt348.1 bt348.2 true))) else (variorumlaw06_EditMakes.j0 k a0 t336 t337 bt340.1 bt340.2 bt344.1 bt344.2 bt348.1 bt348.2 true))) else (variorumlaw06_EditMakes.j0 k a0 t336 t337 bt340.1 bt340.2 bt344.1 bt344.2 bt348.1 bt348.2 false)))))) = some r := H
    have A8 := Aside0.mk A80
    clear A80
    replace H := Option.bind_eq_some_iff.mp H
    obtain ⟨⟨t340, t341⟩, A90, H⟩ := H
    replace H : ((edit_Delete.f k a0 a1 a2).bind fun bt344 => ((variorumref06_Delete.f k a0 a1 a2).bind fun bt348 => (if t337 = 0 then ((edit_Good.f k t336).bind fun t352 => (if t352 = true then ((edit_In.f k t336).bind fun t353 => (if t353 = a0 then ((edit_Out.f k t336).bind fun t354 => (if t354 = (wrap64 (a0 + (a3.size : Int))) then (if bt344.2 = 0 then ((edit_Good.f k bt344.1).bind fun t355 => (if t355 = true then ((edit_In.f k bt344.1).bind fun t356 => (if t356 = a0 then ((edit_Out.f k bt344.1).bind fun t357 => (variorumlaw06_EditMakes.j0 k a0 t336 t337 t340 t341 bt344.1 bt344.2 bt348.1 bt348.2 (t357 != (wrap64 (a0 - a2))))) else (variorumlaw06_EditMakes.j0 k a0 t336 t337 t340 t341 bt344.1 bt344.2 bt348.1 bt348.2 true))) else (variorumlaw06_EditMakes.j0 k a0 t336 t337 t340 t341 bt344.1 bt344.2 bt348.1 bt348.2 true))) else (variorumlaw06_EditMakes.j0 k a0 t336 t337 t340 t341 bt344.1 bt344.2 bt348.1 bt348.2 false)) else (variorumlaw06_EditMakes.j0 k a0 t336 t337 t340 t341 bt344.1 bt344.2 bt348.1 bt348.2 true))) else (variorumlaw06_EditMakes.j0 k a0 t336 t337 t340 t341 bt344.1 bt344.2 bt348.1 bt348.2 true))) else (variorumlaw06_EditMakes.j0 k a0 t336 t337 t340 t341 bt344.1 bt344.2 bt348.1 bt348.2 true))) else (if bt344.2 = 0 then ((edit_Good.f k bt344.1).bind fun t358 => (if t358 = true then ((edit_In.f k bt344.1).bind fun t359 => (if t359 = a0 then ((edit_Out.f k bt344.1).bind fun t360 => (variorumlaw06_EditMakes.j0 k a0 t336 t337 t340 t341 bt344.1 bt344.2 bt348.1 bt348.2 (t360 != (wrap64 (a0 - a2))))) else (variorumlaw06_EditMakes.j0 k a0 t336 t337 t340 t341 bt344.1 bt344.2 bt348.1 bt348.2 true))) else (variorumlaw06_EditMakes.j0 k a0 t336 t337 t340 t341 bt344.1 bt344.2 bt348.1 bt348.2 true))) else (variorumlaw06_EditMakes.j0 k a0 t336 t337 t340 t341 bt344.1 bt344.2 bt348.1 bt348.2 false))))) = some r := H
    have A9 := Aside0.mk A90
    clear A90
    replace H := Option.bind_eq_some_iff.mp H
    obtain ⟨⟨t344, t345⟩, A100, H⟩ := H
    replace H : ((variorumref06_Delete.f k a0 a1 a2).bind fun bt348 => (if t337 = 0 then ((edit_Good.f k t336).bind fun t352 => (if t352 = true then ((edit_In.f k t336).bind fun t353 => (if t353 = a0 then ((edit_Out.f k t336).bind fun t354 => (if t354 = (wrap64 (a0 + (a3.size : Int))) then (if t345 = 0 then ((edit_Good.f k t344).bind fun t355 => (if t355 = true then ((edit_In.f k t344).bind fun t356 => (if t356 = a0 then ((edit_Out.f k t344).bind fun t357 => (variorumlaw06_EditMakes.j0 k a0 t336 t337 t340 t341 t344 t345 bt348.1 bt348.2 (t357 != (wrap64 (a0 - a2))))) else (variorumlaw06_EditMakes.j0 k a0 t336 t337 t340 t341 t344 t345 bt348.1 bt348.2 true))) else (variorumlaw06_EditMakes.j0 k a0 t336 t337 t340 t341 t344 t345 bt348.1 bt348.2 true))) else (variorumlaw06_EditMakes.j0 k a0 t336 t337 t340 t341 t344 t345 bt348.1 bt348.2 false)) else (variorumlaw06_EditMakes.j0 k a0 t336 t337 t340 t341 t344 t345 bt348.1 bt348.2 true))) else (variorumlaw06_EditMakes.j0 k a0 t336 t337 t340 t341 t344 t345 bt348.1 bt348.2 true))) else (variorumlaw06_EditMakes.j0 k a0 t336 t337 t340 t341 t344 t345 bt348.1 bt348.2 true))) else (if t345 = 0 then ((edit_Good.f k t344).bind fun t358 => (if t358 = true then ((edit_In.f k t344).bind fun t359 => (if t359 = a0 then ((edit_Out.f k t344).bind fun t360 => (variorumlaw06_EditMakes.j0 k a0 t336 t337 t340 t341 t344 t345 bt348.1 bt348.2 (t360 != (wrap64 (a0 - a2))))) else (variorumlaw06_EditMakes.j0 k a0 t336 t337 t340 t341 t344 t345 bt348.1 bt348.2 true))) else (variorumlaw06_EditMakes.j0 k a0 t336 t337 t340 t341 t344 t345 bt348.1 bt348.2 true))) else (variorumlaw06_EditMakes.j0 k a0 t336 t337 t340 t341 t344 t345 bt348.1 bt348.2 false)))) = some r := H
    have A10 := Aside0.mk A100
    clear A100
    replace H := Option.bind_eq_some_iff.mp H
    obtain ⟨⟨t348, t349⟩, A110, H⟩ := H
    replace H : (if t337 = 0 then ((edit_Good.f k t336).bind fun t352 => (if t352 = true then ((edit_In.f k t336).bind fun t353 => (if t353 = a0 then ((edit_Out.f k t336).bind fun t354 => (if t354 = (wrap64 (a0 + (a3.size : Int))) then (if t345 = 0 then ((edit_Good.f k t344).bind fun t355 => (if t355 = true then ((edit_In.f k t344).bind fun t356 => (if t356 = a0 then ((edit_Out.f k t344).bind fun t357 => (variorumlaw06_EditMakes.j0 k a0 t336 t337 t340 t341 t344 t345 t348 t349 (t357 != (wrap64 (a0 - a2))))) else (variorumlaw06_EditMakes.j0 k a0 t336 t337 t340 t341 t344 t345 t348 t349 true))) else (variorumlaw06_EditMakes.j0 k a0 t336 t337 t340 t341 t344 t345 t348 t349 true))) else (variorumlaw06_EditMakes.j0 k a0 t336 t337 t340 t341 t344 t345 t348 t349 false)) else (variorumlaw06_EditMakes.j0 k a0 t336 t337 t340 t341 t344 t345 t348 t349 true))) else (variorumlaw06_EditMakes.j0 k a0 t336 t337 t340 t341 t344 t345 t348 t349 true))) else (variorumlaw06_EditMakes.j0 k a0 t336 t337 t340 t341 t344 t345 t348 t349 true))) else (if t345 = 0 then ((edit_Good.f k t344).bind fun t358 => (if t358 = true then ((edit_In.f k t344).bind fun t359 => (if t359 = a0 then ((edit_Out.f k t344).bind fun t360 => (variorumlaw06_EditMakes.j0 k a0 t336 t337 t340 t341 t344 t345 t348 t349 (t360 != (wrap64 (a0 - a2))))) else (variorumlaw06_EditMakes.j0 k a0 t336 t337 t340 t341 t344 t345 t348 t349 true))) else (variorumlaw06_EditMakes.j0 k a0 t336 t337 t340 t341 t344 t345 t348 t349 true))) else (variorumlaw06_EditMakes.j0 k a0 t336 t337 t340 t341 t344 t345 t348 t349 false))) = some r := H
    have A11 := Aside0.mk A110
    clear A110
    have HC12 := Aside0.mk H
    clear H
    go_enter Try.func7, Try.ntmps7
    go_upto_region 7 with (first | ((with_reducible refine gate_callee (f := 32) rfl ?_); refine goesL_ (some 25) rfl rfl Try.func32 (by kernel_rfl) rfl #[.int .i64 a0, .int .i64 a1, .string a3] rfl (by (try simp only [List.map_toArray, List.map_cons, List.map_nil]); first | done | rfl | (simp only [List.length_drop, List.length_take]; rfl)) ?_; (with_reducible refine (edit_Insert.calls k a0 a1 a3 t336 t337 _ A8.out).mono ?_); rintro e w13 ⟨v338, rfl, ho0, hb⟩; refine ⟨_, rfl, ?_⟩; have n0_ := Aside0.mk (Kd.R_lower ho0 (below_size (by repeat (first | (with_reducible first | exact HB.out | apply below_alloc | apply pw_below_drewN | apply below_drew1) | exact HB.out)))); have n1_ := Aside0.mk (below_step (by repeat (first | (with_reducible first | exact HB.out | apply below_alloc | apply pw_below_drewN | apply below_drew1) | exact HB.out)) hb); clear HB; have HO339 := n0_; have HB := n1_; clear n0_ n1_; (try clear hb); (try clear hb2); (try clear hk); (try clear hi); (try clear ho0)) | ((with_reducible refine gate_callee (f := 33) rfl ?_); refine goesL_ (some 32) rfl rfl Try.func33 (by kernel_rfl) rfl #[.int .i64 a0, .int .i64 a1, .string a3] rfl (by (try simp only [List.map_toArray, List.map_cons, List.map_nil]); first | done | rfl | (simp only [List.length_drop, List.length_take]; rfl)) ?_; (with_reducible refine (variorumref06_Insert.calls k a0 a1 a3 t340 t341 _ A9.out).mono ?_); rintro e w14 ⟨v342, rfl, ho0, hb⟩; refine ⟨_, rfl, ?_⟩; have n0_ := Aside0.mk (Kd.R_elder' (by (with_reducible repeat (first | apply Kd.R_alloc | apply Kd.R_drewN | apply Kd.R_drew)); exact HO339.out) (Kd.R_base ho0) hb); have n1_ := Aside0.mk (Kd.R_lower (Kd.R_new' ho0 (Kd.R_lt (by (with_reducible repeat (first | apply Kd.R_alloc | apply Kd.R_drewN | apply Kd.R_drew)); exact HO339.out))) (below_size (by repeat (first | (with_reducible first | exact HB.out | apply below_alloc | apply pw_below_drewN | apply below_drew1) | exact HB.out)))); have n2_ := Aside0.mk (below_step (by repeat (first | (with_reducible first | exact HB.out | apply below_alloc | apply pw_below_drewN | apply below_drew1) | exact HB.out)) hb); clear HO339; clear HB; have HO339 := n0_; have HO343 := n1_; have HB := n2_; clear n0_ n1_ n2_; (try clear hb); (try clear hb2); (try clear hk); (try clear hi); (try clear ho0)) | ((with_reducible refine gate_callee (f := 34) rfl ?_); refine goesL_ (some 39) rfl rfl Try.func34 (by kernel_rfl) rfl #[.int .i64 a0, .int .i64 a1, .int .i64 a2] rfl (by (try simp only [List.map_toArray, List.map_cons, List.map_nil]); first | done | rfl | (simp only [List.length_drop, List.length_take]; rfl)) ?_; (with_reducible refine (edit_Delete.calls k a0 a1 a2 t344 t345 _ A10.out).mono ?_); rintro e w15 ⟨v346, rfl, ho0, hb⟩; refine ⟨_, rfl, ?_⟩; have n0_ := Aside0.mk (Kd.R_elder' (by (with_reducible repeat (first | apply Kd.R_alloc | apply Kd.R_drewN | apply Kd.R_drew)); exact HO339.out) (Kd.R_base ho0) hb); have n1_ := Aside0.mk (Kd.R_elder' (by (with_reducible repeat (first | apply Kd.R_alloc | apply Kd.R_drewN | apply Kd.R_drew)); exact HO343.out) (Kd.R_base ho0) hb); have n2_ := Aside0.mk (Kd.R_lower (Kd.R_new' (Kd.R_new' ho0 (Kd.R_lt (by (with_reducible repeat (first | apply Kd.R_alloc | apply Kd.R_drewN | apply Kd.R_drew)); exact HO339.out))) (Kd.R_lt (by (with_reducible repeat (first | apply Kd.R_alloc | apply Kd.R_drewN | apply Kd.R_drew)); exact HO343.out))) (below_size (by repeat (first | (with_reducible first | exact HB.out | apply below_alloc | apply pw_below_drewN | apply below_drew1) | exact HB.out)))); have n3_ := Aside0.mk (below_step (by repeat (first | (with_reducible first | exact HB.out | apply below_alloc | apply pw_below_drewN | apply below_drew1) | exact HB.out)) hb); clear HO339; clear HO343; clear HB; have HO339 := n0_; have HO343 := n1_; have HO347 := n2_; have HB := n3_; clear n0_ n1_ n2_ n3_; (try clear hb); (try clear hb2); (try clear hk); (try clear hi); (try clear ho0)) | ((with_reducible refine gate_callee (f := 35) rfl ?_); refine goesL_ (some 46) rfl rfl Try.func35 (by kernel_rfl) rfl #[.int .i64 a0, .int .i64 a1, .int .i64 a2] rfl (by (try simp only [List.map_toArray, List.map_cons, List.map_nil]); first | done | rfl | (simp only [List.length_drop, List.length_take]; rfl)) ?_; (with_reducible refine (variorumref06_Delete.calls k a0 a1 a2 t348 t349 _ A11.out).mono ?_); rintro e w16 ⟨v350, rfl, ho0, hb⟩; refine ⟨_, rfl, ?_⟩; have n0_ := Aside0.mk (Kd.R_elder' (by (with_reducible repeat (first | apply Kd.R_alloc | apply Kd.R_drewN | apply Kd.R_drew)); exact HO339.out) (Kd.R_base ho0) hb); have n1_ := Aside0.mk (Kd.R_elder' (by (with_reducible repeat (first | apply Kd.R_alloc | apply Kd.R_drewN | apply Kd.R_drew)); exact HO343.out) (Kd.R_base ho0) hb); have n2_ := Aside0.mk (Kd.R_elder' (by (with_reducible repeat (first | apply Kd.R_alloc | apply Kd.R_drewN | apply Kd.R_drew)); exact HO347.out) (Kd.R_base ho0) hb); have n3_ := Aside0.mk (Kd.R_lower (Kd.R_new' (Kd.R_new' (Kd.R_new' ho0 (Kd.R_lt (by (with_reducible repeat (first | apply Kd.R_alloc | apply Kd.R_drewN | apply Kd.R_drew)); exact HO339.out))) (Kd.R_lt (by (with_reducible repeat (first | apply Kd.R_alloc | apply Kd.R_drewN | apply Kd.R_drew)); exact HO343.out))) (Kd.R_lt (by (with_reducible repeat (first | apply Kd.R_alloc | apply Kd.R_drewN | apply Kd.R_drew)); exact HO347.out))) (below_size (by repeat (first | (with_reducible first | exact HB.out | apply below_alloc | apply pw_below_drewN | apply below_drew1) | exact HB.out)))); have n4_ := Aside0.mk (below_step (by repeat (first | (with_reducible first | exact HB.out | apply below_alloc | apply pw_below_drewN | apply below_drew1) | exact HB.out)) hb); clear HO339; clear HO343; clear HO347; clear HB; have HO339 := n0_; have HO343 := n1_; have HO347 := n2_; have HO351 := n3_; have HB := n4_; clear n0_ n1_ n2_ n3_ n4_; (try clear hb); (try clear hb2); (try clear hk); (try clear hi); (try clear ho0)))
    (try simp only [Act.put, List.setIfInBounds_toArray, List.set_cons_zero, List.set_cons_succ])
    go_cut [93] (fun v93 wc => ∃ (kq : Nat) (x93_11 : Bool), v93 = .bool x93_11 ∧ Aside0 (variorumlaw06_EditMakes.j0 kq a0 t336 t337 t340 t341 t344 t345 t348 t349 x93_11 = some r) ∧ Aside0 (kq ≤ k) ∧ Aside0 (Kd.R k37 37 wc w.heap.size (fun k_ => some k_ ≠ (v342 : Value).ownBlock ∧ some k_ ≠ (v346 : Value).ownBlock ∧ some k_ ≠ (v350 : Value).ownBlock) v338 t336) ∧ Aside0 (Kd.R k37 37 wc w.heap.size (fun k_ => some k_ ≠ (v338 : Value).ownBlock ∧ some k_ ≠ (v346 : Value).ownBlock ∧ some k_ ≠ (v350 : Value).ownBlock) v342 t340) ∧ Aside0 (Kd.R k37 37 wc w.heap.size (fun k_ => some k_ ≠ (v338 : Value).ownBlock ∧ some k_ ≠ (v342 : Value).ownBlock ∧ some k_ ≠ (v350 : Value).ownBlock) v346 t344) ∧ Aside0 (Kd.R k37 37 wc w.heap.size (fun k_ => some k_ ≠ (v338 : Value).ownBlock ∧ some k_ ≠ (v342 : Value).ownBlock ∧ some k_ ≠ (v346 : Value).ownBlock) v350 t348) ∧ Aside0 (Below w.heap.size w wc))
    case first =>
      have H := HC12.out
      clear HC12
      by_cases c17 : t337 = 0
      · rw [if_pos c17] at H
        have c17b0 : (t337 == 0) = true := beq_iff_eq.mpr c17
        have c17b1 : (t337 != 0) = false := bne_eq_false_iff_eq.mpr c17
        clear c17
        (first | rw [c17b0] | (simp only [i64_w, i32_w]; rw [c17b0]) | skip)
        replace H := Option.bind_eq_some_iff.mp H
        obtain ⟨t352, A180, H⟩ := H
        replace H : (if t352 = true then ((edit_In.f k t336).bind fun t353 => (if t353 = a0 then ((edit_Out.f k t336).bind fun t354 => (if t354 = (wrap64 (a0 + (a3.size : Int))) then (if t345 = 0 then ((edit_Good.f k t344).bind fun t355 => (if t355 = true then ((edit_In.f k t344).bind fun t356 => (if t356 = a0 then ((edit_Out.f k t344).bind fun t357 => (variorumlaw06_EditMakes.j0 k a0 t336 t337 t340 t341 t344 t345 t348 t349 (t357 != (wrap64 (a0 - a2))))) else (variorumlaw06_EditMakes.j0 k a0 t336 t337 t340 t341 t344 t345 t348 t349 true))) else (variorumlaw06_EditMakes.j0 k a0 t336 t337 t340 t341 t344 t345 t348 t349 true))) else (variorumlaw06_EditMakes.j0 k a0 t336 t337 t340 t341 t344 t345 t348 t349 false)) else (variorumlaw06_EditMakes.j0 k a0 t336 t337 t340 t341 t344 t345 t348 t349 true))) else (variorumlaw06_EditMakes.j0 k a0 t336 t337 t340 t341 t344 t345 t348 t349 true))) else (variorumlaw06_EditMakes.j0 k a0 t336 t337 t340 t341 t344 t345 t348 t349 true)) = some r := H
        have A18 := Aside0.mk A180
        clear A180
        by_cases c19 : t352 = true
        · subst c19
          have H1 : ((edit_In.f k t336).bind fun t353 => (if t353 = a0 then ((edit_Out.f k t336).bind fun t354 => (if t354 = (wrap64 (a0 + (a3.size : Int))) then (if t345 = 0 then ((edit_Good.f k t344).bind fun t355 => (if t355 = true then ((edit_In.f k t344).bind fun t356 => (if t356 = a0 then ((edit_Out.f k t344).bind fun t357 => (variorumlaw06_EditMakes.j0 k a0 t336 t337 t340 t341 t344 t345 t348 t349 (t357 != (wrap64 (a0 - a2))))) else (variorumlaw06_EditMakes.j0 k a0 t336 t337 t340 t341 t344 t345 t348 t349 true))) else (variorumlaw06_EditMakes.j0 k a0 t336 t337 t340 t341 t344 t345 t348 t349 true))) else (variorumlaw06_EditMakes.j0 k a0 t336 t337 t340 t341 t344 t345 t348 t349 false)) else (variorumlaw06_EditMakes.j0 k a0 t336 t337 t340 t341 t344 t345 t348 t349 true))) else (variorumlaw06_EditMakes.j0 k a0 t336 t337 t340 t341 t344 t345 t348 t349 true))) = some r := by rw [if_pos rfl] at H; exact H
          clear H
          have H := H1
          clear H1
          replace H := Option.bind_eq_some_iff.mp H
          obtain ⟨t353, A200, H⟩ := H
          replace H : (if t353 = a0 then ((edit_Out.f k t336).bind fun t354 => (if t354 = (wrap64 (a0 + (a3.size : Int))) then (if t345 = 0 then ((edit_Good.f k t344).bind fun t355 => (if t355 = true then ((edit_In.f k t344).bind fun t356 => (if t356 = a0 then ((edit_Out.f k t344).bind fun t357 => (variorumlaw06_EditMakes.j0 k a0 t336 t337 t340 t341 t344 t345 t348 t349 (t357 != (wrap64 (a0 - a2))))) else (variorumlaw06_EditMakes.j0 k a0 t336 t337 t340 t341 t344 t345 t348 t349 true))) else (variorumlaw06_EditMakes.j0 k a0 t336 t337 t340 t341 t344 t345 t348 t349 true))) else (variorumlaw06_EditMakes.j0 k a0 t336 t337 t340 t341 t344 t345 t348 t349 false)) else (variorumlaw06_EditMakes.j0 k a0 t336 t337 t340 t341 t344 t345 t348 t349 true))) else (variorumlaw06_EditMakes.j0 k a0 t336 t337 t340 t341 t344 t345 t348 t349 true)) = some r := H
          have A20 := Aside0.mk A200
          clear A200
          by_cases c21 : t353 = a0
          · rw [if_pos c21] at H
            have c21b0 : (t353 == a0) = true := beq_iff_eq.mpr c21
            have c21b1 : (t353 != a0) = false := bne_eq_false_iff_eq.mpr c21
            clear c21
            replace H := Option.bind_eq_some_iff.mp H
            obtain ⟨t354, A220, H⟩ := H
            replace H : (if t354 = (wrap64 (a0 + (a3.size : Int))) then (if t345 = 0 then ((edit_Good.f k t344).bind fun t355 => (if t355 = true then ((edit_In.f k t344).bind fun t356 => (if t356 = a0 then ((edit_Out.f k t344).bind fun t357 => (variorumlaw06_EditMakes.j0 k a0 t336 t337 t340 t341 t344 t345 t348 t349 (t357 != (wrap64 (a0 - a2))))) else (variorumlaw06_EditMakes.j0 k a0 t336 t337 t340 t341 t344 t345 t348 t349 true))) else (variorumlaw06_EditMakes.j0 k a0 t336 t337 t340 t341 t344 t345 t348 t349 true))) else (variorumlaw06_EditMakes.j0 k a0 t336 t337 t340 t341 t344 t345 t348 t349 false)) else (variorumlaw06_EditMakes.j0 k a0 t336 t337 t340 t341 t344 t345 t348 t349 true)) = some r := H
            have A22 := Aside0.mk A220
            clear A220
            by_cases c23 : t354 = (wrap64 (a0 + (a3.size : Int)))
            · rw [if_pos c23] at H
              have c23b0 : (t354 == (wrap64 (a0 + (a3.size : Int)))) = true := beq_iff_eq.mpr c23
              have c23b1 : (t354 != (wrap64 (a0 + (a3.size : Int)))) = false := bne_eq_false_iff_eq.mpr c23
              clear c23
              by_cases c24 : t345 = 0
              · rw [if_pos c24] at H
                have c24b0 : (t345 == 0) = true := beq_iff_eq.mpr c24
                have c24b1 : (t345 != 0) = false := bne_eq_false_iff_eq.mpr c24
                clear c24
                replace H := Option.bind_eq_some_iff.mp H
                obtain ⟨t355, A250, H⟩ := H
                replace H : (if t355 = true then ((edit_In.f k t344).bind fun t356 => (if t356 = a0 then ((edit_Out.f k t344).bind fun t357 => (variorumlaw06_EditMakes.j0 k a0 t336 t337 t340 t341 t344 t345 t348 t349 (t357 != (wrap64 (a0 - a2))))) else (variorumlaw06_EditMakes.j0 k a0 t336 t337 t340 t341 t344 t345 t348 t349 true))) else (variorumlaw06_EditMakes.j0 k a0 t336 t337 t340 t341 t344 t345 t348 t349 true)) = some r := H
                have A25 := Aside0.mk A250
                clear A250
                by_cases c26 : t355 = true
                · subst c26
                  have H1 : ((edit_In.f k t344).bind fun t356 => (if t356 = a0 then ((edit_Out.f k t344).bind fun t357 => (variorumlaw06_EditMakes.j0 k a0 t336 t337 t340 t341 t344 t345 t348 t349 (t357 != (wrap64 (a0 - a2))))) else (variorumlaw06_EditMakes.j0 k a0 t336 t337 t340 t341 t344 t345 t348 t349 true))) = some r := by rw [if_pos rfl] at H; exact H
                  clear H
                  have H := H1
                  clear H1
                  replace H := Option.bind_eq_some_iff.mp H
                  obtain ⟨t356, A270, H⟩ := H
                  replace H : (if t356 = a0 then ((edit_Out.f k t344).bind fun t357 => (variorumlaw06_EditMakes.j0 k a0 t336 t337 t340 t341 t344 t345 t348 t349 (t357 != (wrap64 (a0 - a2))))) else (variorumlaw06_EditMakes.j0 k a0 t336 t337 t340 t341 t344 t345 t348 t349 true)) = some r := H
                  have A27 := Aside0.mk A270
                  clear A270
                  by_cases c28 : t356 = a0
                  · rw [if_pos c28] at H
                    have c28b0 : (t356 == a0) = true := beq_iff_eq.mpr c28
                    have c28b1 : (t356 != a0) = false := bne_eq_false_iff_eq.mpr c28
                    clear c28
                    replace H := Option.bind_eq_some_iff.mp H
                    obtain ⟨t357, A290, H⟩ := H
                    replace H : (variorumlaw06_EditMakes.j0 k a0 t336 t337 t340 t341 t344 t345 t348 t349 (t357 != (wrap64 (a0 - a2)))) = some r := H
                    have A29 := Aside0.mk A290
                    clear A290
                    have H' := Aside0.mk H
                    clear H
                    obtain ⟨Ao30, co30, eo30⟩ := Kd.R_slice HO339.out
                    subst eo30
                    go_wp2_with (first | (go_at_call 24; (with_reducible refine (edit_Good.calls k _ _ t336 true _ ?side1 ?side2 A18.out).mono ?_); (case side1 => repeat (first | exact (Kd.R_reads' HO339.out).2.2 | (with_reducible refine Kd.C_alloc ?_ _) | (with_reducible refine Kd.C_drewN ?_ _) | (with_reducible refine Kd.C_drew ?_))); (case side2 => exact (Kd.R_reads' HO339.out).2.1); rintro e w31 ⟨rfl, hb⟩; have n0_ := Aside0.mk (Kd.R_below (by (with_reducible repeat (first | apply Kd.R_alloc | apply Kd.R_drewN | apply Kd.R_drew)); exact HO339.out) hb); have n1_ := Aside0.mk (Kd.R_below (by (with_reducible repeat (first | apply Kd.R_alloc | apply Kd.R_drewN | apply Kd.R_drew)); exact HO343.out) hb); have n2_ := Aside0.mk (Kd.R_below (by (with_reducible repeat (first | apply Kd.R_alloc | apply Kd.R_drewN | apply Kd.R_drew)); exact HO347.out) hb); have n3_ := Aside0.mk (Kd.R_below (by (with_reducible repeat (first | apply Kd.R_alloc | apply Kd.R_drewN | apply Kd.R_drew)); exact HO351.out) hb); have n4_ := Aside0.mk (below_step (by repeat (first | (with_reducible first | exact HB.out | apply below_alloc | apply pw_below_drewN | apply below_drew1) | exact HB.out)) hb); clear HO339; clear HO343; clear HO347; clear HO351; clear HB; have HO339 := n0_; have HO343 := n1_; have HO347 := n2_; have HO351 := n3_; have HB := n4_; clear n0_ n1_ n2_ n3_ n4_; (try clear hb); (try clear hb2); (try clear hk); (try clear hi)) | (go_at_call 26; (with_reducible refine (edit_In.calls k _ _ t336 t353 _ ?side1 ?side2 A20.out).mono ?_); (case side1 => repeat (first | exact (Kd.R_reads' HO339.out).2.2 | (with_reducible refine Kd.C_alloc ?_ _) | (with_reducible refine Kd.C_drewN ?_ _) | (with_reducible refine Kd.C_drew ?_))); (case side2 => exact (Kd.R_reads' HO339.out).2.1); rintro e w32 ⟨rfl, hb⟩; have n0_ := Aside0.mk (Kd.R_below (by (with_reducible repeat (first | apply Kd.R_alloc | apply Kd.R_drewN | apply Kd.R_drew)); exact HO339.out) hb); have n1_ := Aside0.mk (Kd.R_below (by (with_reducible repeat (first | apply Kd.R_alloc | apply Kd.R_drewN | apply Kd.R_drew)); exact HO343.out) hb); have n2_ := Aside0.mk (Kd.R_below (by (with_reducible repeat (first | apply Kd.R_alloc | apply Kd.R_drewN | apply Kd.R_drew)); exact HO347.out) hb); have n3_ := Aside0.mk (Kd.R_below (by (with_reducible repeat (first | apply Kd.R_alloc | apply Kd.R_drewN | apply Kd.R_drew)); exact HO351.out) hb); have n4_ := Aside0.mk (below_step (by repeat (first | (with_reducible first | exact HB.out | apply below_alloc | apply pw_below_drewN | apply below_drew1) | exact HB.out)) hb); clear HO339; clear HO343; clear HO347; clear HO351; clear HB; have HO339 := n0_; have HO343 := n1_; have HO347 := n2_; have HO351 := n3_; have HB := n4_; clear n0_ n1_ n2_ n3_ n4_; (try clear hb); (try clear hb2); (try clear hk); (try clear hi)) | (go_at_call 27; (with_reducible refine (edit_Out.calls k _ _ t336 t354 _ ?side1 ?side2 A22.out).mono ?_); (case side1 => repeat (first | exact (Kd.R_reads' HO339.out).2.2 | (with_reducible refine Kd.C_alloc ?_ _) | (with_reducible refine Kd.C_drewN ?_ _) | (with_reducible refine Kd.C_drew ?_))); (case side2 => exact (Kd.R_reads' HO339.out).2.1); rintro e w33 ⟨rfl, hb⟩; have n0_ := Aside0.mk (Kd.R_below (by (with_reducible repeat (first | apply Kd.R_alloc | apply Kd.R_drewN | apply Kd.R_drew)); exact HO339.out) hb); have n1_ := Aside0.mk (Kd.R_below (by (with_reducible repeat (first | apply Kd.R_alloc | apply Kd.R_drewN | apply Kd.R_drew)); exact HO343.out) hb); have n2_ := Aside0.mk (Kd.R_below (by (with_reducible repeat (first | apply Kd.R_alloc | apply Kd.R_drewN | apply Kd.R_drew)); exact HO347.out) hb); have n3_ := Aside0.mk (Kd.R_below (by (with_reducible repeat (first | apply Kd.R_alloc | apply Kd.R_drewN | apply Kd.R_drew)); exact HO351.out) hb); have n4_ := Aside0.mk (below_step (by repeat (first | (with_reducible first | exact HB.out | apply below_alloc | apply pw_below_drewN | apply below_drew1) | exact HB.out)) hb); clear HO339; clear HO343; clear HO347; clear HO351; clear HB; have HO339 := n0_; have HO343 := n1_; have HO347 := n2_; have HO351 := n3_; have HB := n4_; clear n0_ n1_ n2_ n3_ n4_; (try clear hb); (try clear hb2); (try clear hk); (try clear hi); obtain ⟨Ao34, co34, eo34⟩ := Kd.R_slice HO347.out; subst eo34) | (go_at_call 24; (with_reducible refine (edit_Good.calls k _ _ t344 true _ ?side1 ?side2 A25.out).mono ?_); (case side1 => repeat (first | exact (Kd.R_reads' HO347.out).2.2 | (with_reducible refine Kd.C_alloc ?_ _) | (with_reducible refine Kd.C_drewN ?_ _) | (with_reducible refine Kd.C_drew ?_))); (case side2 => exact (Kd.R_reads' HO347.out).2.1); rintro e w35 ⟨rfl, hb⟩; have n0_ := Aside0.mk (Kd.R_below (by (with_reducible repeat (first | apply Kd.R_alloc | apply Kd.R_drewN | apply Kd.R_drew)); exact HO339.out) hb); have n1_ := Aside0.mk (Kd.R_below (by (with_reducible repeat (first | apply Kd.R_alloc | apply Kd.R_drewN | apply Kd.R_drew)); exact HO343.out) hb); have n2_ := Aside0.mk (Kd.R_below (by (with_reducible repeat (first | apply Kd.R_alloc | apply Kd.R_drewN | apply Kd.R_drew)); exact HO347.out) hb); have n3_ := Aside0.mk (Kd.R_below (by (with_reducible repeat (first | apply Kd.R_alloc | apply Kd.R_drewN | apply Kd.R_drew)); exact HO351.out) hb); have n4_ := Aside0.mk (below_step (by repeat (first | (with_reducible first | exact HB.out | apply below_alloc | apply pw_below_drewN | apply below_drew1) | exact HB.out)) hb); clear HO339; clear HO343; clear HO347; clear HO351; clear HB; have HO339 := n0_; have HO343 := n1_; have HO347 := n2_; have HO351 := n3_; have HB := n4_; clear n0_ n1_ n2_ n3_ n4_; (try clear hb); (try clear hb2); (try clear hk); (try clear hi)) | (go_at_call 26; (with_reducible refine (edit_In.calls k _ _ t344 t356 _ ?side1 ?side2 A27.out).mono ?_); (case side1 => repeat (first | exact (Kd.R_reads' HO347.out).2.2 | (with_reducible refine Kd.C_alloc ?_ _) | (with_reducible refine Kd.C_drewN ?_ _) | (with_reducible refine Kd.C_drew ?_))); (case side2 => exact (Kd.R_reads' HO347.out).2.1); rintro e w36 ⟨rfl, hb⟩; have n0_ := Aside0.mk (Kd.R_below (by (with_reducible repeat (first | apply Kd.R_alloc | apply Kd.R_drewN | apply Kd.R_drew)); exact HO339.out) hb); have n1_ := Aside0.mk (Kd.R_below (by (with_reducible repeat (first | apply Kd.R_alloc | apply Kd.R_drewN | apply Kd.R_drew)); exact HO343.out) hb); have n2_ := Aside0.mk (Kd.R_below (by (with_reducible repeat (first | apply Kd.R_alloc | apply Kd.R_drewN | apply Kd.R_drew)); exact HO347.out) hb); have n3_ := Aside0.mk (Kd.R_below (by (with_reducible repeat (first | apply Kd.R_alloc | apply Kd.R_drewN | apply Kd.R_drew)); exact HO351.out) hb); have n4_ := Aside0.mk (below_step (by repeat (first | (with_reducible first | exact HB.out | apply below_alloc | apply pw_below_drewN | apply below_drew1) | exact HB.out)) hb); clear HO339; clear HO343; clear HO347; clear HO351; clear HB; have HO339 := n0_; have HO343 := n1_; have HO347 := n2_; have HO351 := n3_; have HB := n4_; clear n0_ n1_ n2_ n3_ n4_; (try clear hb); (try clear hb2); (try clear hk); (try clear hi)) | (go_at_call 27; (with_reducible refine (edit_Out.calls k _ _ t344 t357 _ ?side1 ?side2 A29.out).mono ?_); (case side1 => repeat (first | exact (Kd.R_reads' HO347.out).2.2 | (with_reducible refine Kd.C_alloc ?_ _) | (with_reducible refine Kd.C_drewN ?_ _) | (with_reducible refine Kd.C_drew ?_))); (case side2 => exact (Kd.R_reads' HO347.out).2.1); rintro e w37 ⟨rfl, hb⟩; have n0_ := Aside0.mk (Kd.R_below (by (with_reducible repeat (first | apply Kd.R_alloc | apply Kd.R_drewN | apply Kd.R_drew)); exact HO339.out) hb); have n1_ := Aside0.mk (Kd.R_below (by (with_reducible repeat (first | apply Kd.R_alloc | apply Kd.R_drewN | apply Kd.R_drew)); exact HO343.out) hb); have n2_ := Aside0.mk (Kd.R_below (by (with_reducible repeat (first | apply Kd.R_alloc | apply Kd.R_drewN | apply Kd.R_drew)); exact HO347.out) hb); have n3_ := Aside0.mk (Kd.R_below (by (with_reducible repeat (first | apply Kd.R_alloc | apply Kd.R_drewN | apply Kd.R_drew)); exact HO351.out) hb); have n4_ := Aside0.mk (below_step (by repeat (first | (with_reducible first | exact HB.out | apply below_alloc | apply pw_below_drewN | apply below_drew1) | exact HB.out)) hb); clear HO339; clear HO343; clear HO347; clear HO351; clear HB; have HO339 := n0_; have HO343 := n1_; have HO347 := n2_; have HO351 := n3_; have HB := n4_; clear n0_ n1_ n2_ n3_ n4_; (try clear hb); (try clear hb2); (try clear hk); (try clear hi)))
                    go_meet
                    case rel => exact ⟨_, ((t357 != (wrap64 (a0 - a2)))), (by first | rfl | (simp; done) | (simp [*]; done)), H', ⟨by first | omega | exact Nat.le_refl _⟩, ⟨by (with_reducible repeat (first | apply Kd.R_alloc | apply Kd.R_drewN | apply Kd.R_drew)); exact Kd.R_mono HO339.out (fun _ hk => ⟨hk.1.1.2, ⟨hk.1.2, hk.2⟩⟩)⟩, ⟨by (with_reducible repeat (first | apply Kd.R_alloc | apply Kd.R_drewN | apply Kd.R_drew)); exact Kd.R_mono HO343.out (fun _ hk => ⟨hk.1.1.2, ⟨hk.1.2, hk.2⟩⟩)⟩, ⟨by (with_reducible repeat (first | apply Kd.R_alloc | apply Kd.R_drewN | apply Kd.R_drew)); exact Kd.R_mono HO347.out (fun _ hk => ⟨hk.1.1.2, ⟨hk.1.2, hk.2⟩⟩)⟩, ⟨by (with_reducible repeat (first | apply Kd.R_alloc | apply Kd.R_drewN | apply Kd.R_drew)); exact Kd.R_mono HO351.out (fun _ hk => ⟨hk.1.1.2, ⟨hk.1.2, hk.2⟩⟩)⟩, ⟨by repeat (first | (with_reducible first | exact HB.out | apply below_alloc | apply pw_below_drewN | apply below_drew1) | exact HB.out)⟩⟩
                  · rw [if_neg c28] at H
                    have c28b0 : (t356 == a0) = false := beq_eq_false_iff_ne.mpr c28
                    have c28b1 : (t356 != a0) = true := bne_iff_ne.mpr c28
                    have H' := Aside0.mk H
                    clear H
                    obtain ⟨Ao38, co38, eo38⟩ := Kd.R_slice HO339.out
                    subst eo38
                    go_wp2_with (first | (go_at_call 24; (with_reducible refine (edit_Good.calls k _ _ t336 true _ ?side1 ?side2 A18.out).mono ?_); (case side1 => repeat (first | exact (Kd.R_reads' HO339.out).2.2 | (with_reducible refine Kd.C_alloc ?_ _) | (with_reducible refine Kd.C_drewN ?_ _) | (with_reducible refine Kd.C_drew ?_))); (case side2 => exact (Kd.R_reads' HO339.out).2.1); rintro e w39 ⟨rfl, hb⟩; have n0_ := Aside0.mk (Kd.R_below (by (with_reducible repeat (first | apply Kd.R_alloc | apply Kd.R_drewN | apply Kd.R_drew)); exact HO339.out) hb); have n1_ := Aside0.mk (Kd.R_below (by (with_reducible repeat (first | apply Kd.R_alloc | apply Kd.R_drewN | apply Kd.R_drew)); exact HO343.out) hb); have n2_ := Aside0.mk (Kd.R_below (by (with_reducible repeat (first | apply Kd.R_alloc | apply Kd.R_drewN | apply Kd.R_drew)); exact HO347.out) hb); have n3_ := Aside0.mk (Kd.R_below (by (with_reducible repeat (first | apply Kd.R_alloc | apply Kd.R_drewN | apply Kd.R_drew)); exact HO351.out) hb); have n4_ := Aside0.mk (below_step (by repeat (first | (with_reducible first | exact HB.out | apply below_alloc | apply pw_below_drewN | apply below_drew1) | exact HB.out)) hb); clear HO339; clear HO343; clear HO347; clear HO351; clear HB; have HO339 := n0_; have HO343 := n1_; have HO347 := n2_; have HO351 := n3_; have HB := n4_; clear n0_ n1_ n2_ n3_ n4_; (try clear hb); (try clear hb2); (try clear hk); (try clear hi)) | (go_at_call 26; (with_reducible refine (edit_In.calls k _ _ t336 t353 _ ?side1 ?side2 A20.out).mono ?_); (case side1 => repeat (first | exact (Kd.R_reads' HO339.out).2.2 | (with_reducible refine Kd.C_alloc ?_ _) | (with_reducible refine Kd.C_drewN ?_ _) | (with_reducible refine Kd.C_drew ?_))); (case side2 => exact (Kd.R_reads' HO339.out).2.1); rintro e w40 ⟨rfl, hb⟩; have n0_ := Aside0.mk (Kd.R_below (by (with_reducible repeat (first | apply Kd.R_alloc | apply Kd.R_drewN | apply Kd.R_drew)); exact HO339.out) hb); have n1_ := Aside0.mk (Kd.R_below (by (with_reducible repeat (first | apply Kd.R_alloc | apply Kd.R_drewN | apply Kd.R_drew)); exact HO343.out) hb); have n2_ := Aside0.mk (Kd.R_below (by (with_reducible repeat (first | apply Kd.R_alloc | apply Kd.R_drewN | apply Kd.R_drew)); exact HO347.out) hb); have n3_ := Aside0.mk (Kd.R_below (by (with_reducible repeat (first | apply Kd.R_alloc | apply Kd.R_drewN | apply Kd.R_drew)); exact HO351.out) hb); have n4_ := Aside0.mk (below_step (by repeat (first | (with_reducible first | exact HB.out | apply below_alloc | apply pw_below_drewN | apply below_drew1) | exact HB.out)) hb); clear HO339; clear HO343; clear HO347; clear HO351; clear HB; have HO339 := n0_; have HO343 := n1_; have HO347 := n2_; have HO351 := n3_; have HB := n4_; clear n0_ n1_ n2_ n3_ n4_; (try clear hb); (try clear hb2); (try clear hk); (try clear hi)) | (go_at_call 27; (with_reducible refine (edit_Out.calls k _ _ t336 t354 _ ?side1 ?side2 A22.out).mono ?_); (case side1 => repeat (first | exact (Kd.R_reads' HO339.out).2.2 | (with_reducible refine Kd.C_alloc ?_ _) | (with_reducible refine Kd.C_drewN ?_ _) | (with_reducible refine Kd.C_drew ?_))); (case side2 => exact (Kd.R_reads' HO339.out).2.1); rintro e w41 ⟨rfl, hb⟩; have n0_ := Aside0.mk (Kd.R_below (by (with_reducible repeat (first | apply Kd.R_alloc | apply Kd.R_drewN | apply Kd.R_drew)); exact HO339.out) hb); have n1_ := Aside0.mk (Kd.R_below (by (with_reducible repeat (first | apply Kd.R_alloc | apply Kd.R_drewN | apply Kd.R_drew)); exact HO343.out) hb); have n2_ := Aside0.mk (Kd.R_below (by (with_reducible repeat (first | apply Kd.R_alloc | apply Kd.R_drewN | apply Kd.R_drew)); exact HO347.out) hb); have n3_ := Aside0.mk (Kd.R_below (by (with_reducible repeat (first | apply Kd.R_alloc | apply Kd.R_drewN | apply Kd.R_drew)); exact HO351.out) hb); have n4_ := Aside0.mk (below_step (by repeat (first | (with_reducible first | exact HB.out | apply below_alloc | apply pw_below_drewN | apply below_drew1) | exact HB.out)) hb); clear HO339; clear HO343; clear HO347; clear HO351; clear HB; have HO339 := n0_; have HO343 := n1_; have HO347 := n2_; have HO351 := n3_; have HB := n4_; clear n0_ n1_ n2_ n3_ n4_; (try clear hb); (try clear hb2); (try clear hk); (try clear hi); obtain ⟨Ao42, co42, eo42⟩ := Kd.R_slice HO347.out; subst eo42) | (go_at_call 24; (with_reducible refine (edit_Good.calls k _ _ t344 true _ ?side1 ?side2 A25.out).mono ?_); (case side1 => repeat (first | exact (Kd.R_reads' HO347.out).2.2 | (with_reducible refine Kd.C_alloc ?_ _) | (with_reducible refine Kd.C_drewN ?_ _) | (with_reducible refine Kd.C_drew ?_))); (case side2 => exact (Kd.R_reads' HO347.out).2.1); rintro e w43 ⟨rfl, hb⟩; have n0_ := Aside0.mk (Kd.R_below (by (with_reducible repeat (first | apply Kd.R_alloc | apply Kd.R_drewN | apply Kd.R_drew)); exact HO339.out) hb); have n1_ := Aside0.mk (Kd.R_below (by (with_reducible repeat (first | apply Kd.R_alloc | apply Kd.R_drewN | apply Kd.R_drew)); exact HO343.out) hb); have n2_ := Aside0.mk (Kd.R_below (by (with_reducible repeat (first | apply Kd.R_alloc | apply Kd.R_drewN | apply Kd.R_drew)); exact HO347.out) hb); have n3_ := Aside0.mk (Kd.R_below (by (with_reducible repeat (first | apply Kd.R_alloc | apply Kd.R_drewN | apply Kd.R_drew)); exact HO351.out) hb); have n4_ := Aside0.mk (below_step (by repeat (first | (with_reducible first | exact HB.out | apply below_alloc | apply pw_below_drewN | apply below_drew1) | exact HB.out)) hb); clear HO339; clear HO343; clear HO347; clear HO351; clear HB; have HO339 := n0_; have HO343 := n1_; have HO347 := n2_; have HO351 := n3_; have HB := n4_; clear n0_ n1_ n2_ n3_ n4_; (try clear hb); (try clear hb2); (try clear hk); (try clear hi)) | (go_at_call 26; (with_reducible refine (edit_In.calls k _ _ t344 t356 _ ?side1 ?side2 A27.out).mono ?_); (case side1 => repeat (first | exact (Kd.R_reads' HO347.out).2.2 | (with_reducible refine Kd.C_alloc ?_ _) | (with_reducible refine Kd.C_drewN ?_ _) | (with_reducible refine Kd.C_drew ?_))); (case side2 => exact (Kd.R_reads' HO347.out).2.1); rintro e w44 ⟨rfl, hb⟩; have n0_ := Aside0.mk (Kd.R_below (by (with_reducible repeat (first | apply Kd.R_alloc | apply Kd.R_drewN | apply Kd.R_drew)); exact HO339.out) hb); have n1_ := Aside0.mk (Kd.R_below (by (with_reducible repeat (first | apply Kd.R_alloc | apply Kd.R_drewN | apply Kd.R_drew)); exact HO343.out) hb); have n2_ := Aside0.mk (Kd.R_below (by (with_reducible repeat (first | apply Kd.R_alloc | apply Kd.R_drewN | apply Kd.R_drew)); exact HO347.out) hb); have n3_ := Aside0.mk (Kd.R_below (by (with_reducible repeat (first | apply Kd.R_alloc | apply Kd.R_drewN | apply Kd.R_drew)); exact HO351.out) hb); have n4_ := Aside0.mk (below_step (by repeat (first | (with_reducible first | exact HB.out | apply below_alloc | apply pw_below_drewN | apply below_drew1) | exact HB.out)) hb); clear HO339; clear HO343; clear HO347; clear HO351; clear HB; have HO339 := n0_; have HO343 := n1_; have HO347 := n2_; have HO351 := n3_; have HB := n4_; clear n0_ n1_ n2_ n3_ n4_; (try clear hb); (try clear hb2); (try clear hk); (try clear hi)))
                    go_meet
                    case rel => exact ⟨_, (true), (by first | rfl | (simp; done) | (simp [*]; done)), H', ⟨by first | omega | exact Nat.le_refl _⟩, ⟨by (with_reducible repeat (first | apply Kd.R_alloc | apply Kd.R_drewN | apply Kd.R_drew)); exact Kd.R_mono HO339.out (fun _ hk => ⟨hk.1.1.2, ⟨hk.1.2, hk.2⟩⟩)⟩, ⟨by (with_reducible repeat (first | apply Kd.R_alloc | apply Kd.R_drewN | apply Kd.R_drew)); exact Kd.R_mono HO343.out (fun _ hk => ⟨hk.1.1.2, ⟨hk.1.2, hk.2⟩⟩)⟩, ⟨by (with_reducible repeat (first | apply Kd.R_alloc | apply Kd.R_drewN | apply Kd.R_drew)); exact Kd.R_mono HO347.out (fun _ hk => ⟨hk.1.1.2, ⟨hk.1.2, hk.2⟩⟩)⟩, ⟨by (with_reducible repeat (first | apply Kd.R_alloc | apply Kd.R_drewN | apply Kd.R_drew)); exact Kd.R_mono HO351.out (fun _ hk => ⟨hk.1.1.2, ⟨hk.1.2, hk.2⟩⟩)⟩, ⟨by repeat (first | (with_reducible first | exact HB.out | apply below_alloc | apply pw_below_drewN | apply below_drew1) | exact HB.out)⟩⟩
                · replace c26 := Bool.eq_false_iff.mpr c26
                  subst c26
                  have H1 : (variorumlaw06_EditMakes.j0 k a0 t336 t337 t340 t341 t344 t345 t348 t349 true) = some r := by rw [if_neg (show ¬ (false = true) by decide)] at H; exact H
                  clear H
                  have H := H1
                  clear H1
                  have H' := Aside0.mk H
                  clear H
                  obtain ⟨Ao45, co45, eo45⟩ := Kd.R_slice HO339.out
                  subst eo45
                  go_wp2_with (first | (go_at_call 24; (with_reducible refine (edit_Good.calls k _ _ t336 true _ ?side1 ?side2 A18.out).mono ?_); (case side1 => repeat (first | exact (Kd.R_reads' HO339.out).2.2 | (with_reducible refine Kd.C_alloc ?_ _) | (with_reducible refine Kd.C_drewN ?_ _) | (with_reducible refine Kd.C_drew ?_))); (case side2 => exact (Kd.R_reads' HO339.out).2.1); rintro e w46 ⟨rfl, hb⟩; have n0_ := Aside0.mk (Kd.R_below (by (with_reducible repeat (first | apply Kd.R_alloc | apply Kd.R_drewN | apply Kd.R_drew)); exact HO339.out) hb); have n1_ := Aside0.mk (Kd.R_below (by (with_reducible repeat (first | apply Kd.R_alloc | apply Kd.R_drewN | apply Kd.R_drew)); exact HO343.out) hb); have n2_ := Aside0.mk (Kd.R_below (by (with_reducible repeat (first | apply Kd.R_alloc | apply Kd.R_drewN | apply Kd.R_drew)); exact HO347.out) hb); have n3_ := Aside0.mk (Kd.R_below (by (with_reducible repeat (first | apply Kd.R_alloc | apply Kd.R_drewN | apply Kd.R_drew)); exact HO351.out) hb); have n4_ := Aside0.mk (below_step (by repeat (first | (with_reducible first | exact HB.out | apply below_alloc | apply pw_below_drewN | apply below_drew1) | exact HB.out)) hb); clear HO339; clear HO343; clear HO347; clear HO351; clear HB; have HO339 := n0_; have HO343 := n1_; have HO347 := n2_; have HO351 := n3_; have HB := n4_; clear n0_ n1_ n2_ n3_ n4_; (try clear hb); (try clear hb2); (try clear hk); (try clear hi)) | (go_at_call 26; (with_reducible refine (edit_In.calls k _ _ t336 t353 _ ?side1 ?side2 A20.out).mono ?_); (case side1 => repeat (first | exact (Kd.R_reads' HO339.out).2.2 | (with_reducible refine Kd.C_alloc ?_ _) | (with_reducible refine Kd.C_drewN ?_ _) | (with_reducible refine Kd.C_drew ?_))); (case side2 => exact (Kd.R_reads' HO339.out).2.1); rintro e w47 ⟨rfl, hb⟩; have n0_ := Aside0.mk (Kd.R_below (by (with_reducible repeat (first | apply Kd.R_alloc | apply Kd.R_drewN | apply Kd.R_drew)); exact HO339.out) hb); have n1_ := Aside0.mk (Kd.R_below (by (with_reducible repeat (first | apply Kd.R_alloc | apply Kd.R_drewN | apply Kd.R_drew)); exact HO343.out) hb); have n2_ := Aside0.mk (Kd.R_below (by (with_reducible repeat (first | apply Kd.R_alloc | apply Kd.R_drewN | apply Kd.R_drew)); exact HO347.out) hb); have n3_ := Aside0.mk (Kd.R_below (by (with_reducible repeat (first | apply Kd.R_alloc | apply Kd.R_drewN | apply Kd.R_drew)); exact HO351.out) hb); have n4_ := Aside0.mk (below_step (by repeat (first | (with_reducible first | exact HB.out | apply below_alloc | apply pw_below_drewN | apply below_drew1) | exact HB.out)) hb); clear HO339; clear HO343; clear HO347; clear HO351; clear HB; have HO339 := n0_; have HO343 := n1_; have HO347 := n2_; have HO351 := n3_; have HB := n4_; clear n0_ n1_ n2_ n3_ n4_; (try clear hb); (try clear hb2); (try clear hk); (try clear hi)) | (go_at_call 27; (with_reducible refine (edit_Out.calls k _ _ t336 t354 _ ?side1 ?side2 A22.out).mono ?_); (case side1 => repeat (first | exact (Kd.R_reads' HO339.out).2.2 | (with_reducible refine Kd.C_alloc ?_ _) | (with_reducible refine Kd.C_drewN ?_ _) | (with_reducible refine Kd.C_drew ?_))); (case side2 => exact (Kd.R_reads' HO339.out).2.1); rintro e w48 ⟨rfl, hb⟩; have n0_ := Aside0.mk (Kd.R_below (by (with_reducible repeat (first | apply Kd.R_alloc | apply Kd.R_drewN | apply Kd.R_drew)); exact HO339.out) hb); have n1_ := Aside0.mk (Kd.R_below (by (with_reducible repeat (first | apply Kd.R_alloc | apply Kd.R_drewN | apply Kd.R_drew)); exact HO343.out) hb); have n2_ := Aside0.mk (Kd.R_below (by (with_reducible repeat (first | apply Kd.R_alloc | apply Kd.R_drewN | apply Kd.R_drew)); exact HO347.out) hb); have n3_ := Aside0.mk (Kd.R_below (by (with_reducible repeat (first | apply Kd.R_alloc | apply Kd.R_drewN | apply Kd.R_drew)); exact HO351.out) hb); have n4_ := Aside0.mk (below_step (by repeat (first | (with_reducible first | exact HB.out | apply below_alloc | apply pw_below_drewN | apply below_drew1) | exact HB.out)) hb); clear HO339; clear HO343; clear HO347; clear HO351; clear HB; have HO339 := n0_; have HO343 := n1_; have HO347 := n2_; have HO351 := n3_; have HB := n4_; clear n0_ n1_ n2_ n3_ n4_; (try clear hb); (try clear hb2); (try clear hk); (try clear hi); obtain ⟨Ao49, co49, eo49⟩ := Kd.R_slice HO347.out; subst eo49) | (go_at_call 24; (with_reducible refine (edit_Good.calls k _ _ t344 false _ ?side1 ?side2 A25.out).mono ?_); (case side1 => repeat (first | exact (Kd.R_reads' HO347.out).2.2 | (with_reducible refine Kd.C_alloc ?_ _) | (with_reducible refine Kd.C_drewN ?_ _) | (with_reducible refine Kd.C_drew ?_))); (case side2 => exact (Kd.R_reads' HO347.out).2.1); rintro e w50 ⟨rfl, hb⟩; have n0_ := Aside0.mk (Kd.R_below (by (with_reducible repeat (first | apply Kd.R_alloc | apply Kd.R_drewN | apply Kd.R_drew)); exact HO339.out) hb); have n1_ := Aside0.mk (Kd.R_below (by (with_reducible repeat (first | apply Kd.R_alloc | apply Kd.R_drewN | apply Kd.R_drew)); exact HO343.out) hb); have n2_ := Aside0.mk (Kd.R_below (by (with_reducible repeat (first | apply Kd.R_alloc | apply Kd.R_drewN | apply Kd.R_drew)); exact HO347.out) hb); have n3_ := Aside0.mk (Kd.R_below (by (with_reducible repeat (first | apply Kd.R_alloc | apply Kd.R_drewN | apply Kd.R_drew)); exact HO351.out) hb); have n4_ := Aside0.mk (below_step (by repeat (first | (with_reducible first | exact HB.out | apply below_alloc | apply pw_below_drewN | apply below_drew1) | exact HB.out)) hb); clear HO339; clear HO343; clear HO347; clear HO351; clear HB; have HO339 := n0_; have HO343 := n1_; have HO347 := n2_; have HO351 := n3_; have HB := n4_; clear n0_ n1_ n2_ n3_ n4_; (try clear hb); (try clear hb2); (try clear hk); (try clear hi)))
                  go_meet
                  case rel => exact ⟨_, (true), (by first | rfl | (simp; done) | (simp [*]; done)), H', ⟨by first | omega | exact Nat.le_refl _⟩, ⟨by (with_reducible repeat (first | apply Kd.R_alloc | apply Kd.R_drewN | apply Kd.R_drew)); exact Kd.R_mono HO339.out (fun _ hk => ⟨hk.1.1.2, ⟨hk.1.2, hk.2⟩⟩)⟩, ⟨by (with_reducible repeat (first | apply Kd.R_alloc | apply Kd.R_drewN | apply Kd.R_drew)); exact Kd.R_mono HO343.out (fun _ hk => ⟨hk.1.1.2, ⟨hk.1.2, hk.2⟩⟩)⟩, ⟨by (with_reducible repeat (first | apply Kd.R_alloc | apply Kd.R_drewN | apply Kd.R_drew)); exact Kd.R_mono HO347.out (fun _ hk => ⟨hk.1.1.2, ⟨hk.1.2, hk.2⟩⟩)⟩, ⟨by (with_reducible repeat (first | apply Kd.R_alloc | apply Kd.R_drewN | apply Kd.R_drew)); exact Kd.R_mono HO351.out (fun _ hk => ⟨hk.1.1.2, ⟨hk.1.2, hk.2⟩⟩)⟩, ⟨by repeat (first | (with_reducible first | exact HB.out | apply below_alloc | apply pw_below_drewN | apply below_drew1) | exact HB.out)⟩⟩
              · rw [if_neg c24] at H
                have c24b0 : (t345 == 0) = false := beq_eq_false_iff_ne.mpr c24
                have c24b1 : (t345 != 0) = true := bne_iff_ne.mpr c24
                have H' := Aside0.mk H
                clear H
                obtain ⟨Ao51, co51, eo51⟩ := Kd.R_slice HO339.out
                subst eo51
                go_wp2_with (first | (go_at_call 24; (with_reducible refine (edit_Good.calls k _ _ t336 true _ ?side1 ?side2 A18.out).mono ?_); (case side1 => repeat (first | exact (Kd.R_reads' HO339.out).2.2 | (with_reducible refine Kd.C_alloc ?_ _) | (with_reducible refine Kd.C_drewN ?_ _) | (with_reducible refine Kd.C_drew ?_))); (case side2 => exact (Kd.R_reads' HO339.out).2.1); rintro e w52 ⟨rfl, hb⟩; have n0_ := Aside0.mk (Kd.R_below (by (with_reducible repeat (first | apply Kd.R_alloc | apply Kd.R_drewN | apply Kd.R_drew)); exact HO339.out) hb); have n1_ := Aside0.mk (Kd.R_below (by (with_reducible repeat (first | apply Kd.R_alloc | apply Kd.R_drewN | apply Kd.R_drew)); exact HO343.out) hb); have n2_ := Aside0.mk (Kd.R_below (by (with_reducible repeat (first | apply Kd.R_alloc | apply Kd.R_drewN | apply Kd.R_drew)); exact HO347.out) hb); have n3_ := Aside0.mk (Kd.R_below (by (with_reducible repeat (first | apply Kd.R_alloc | apply Kd.R_drewN | apply Kd.R_drew)); exact HO351.out) hb); have n4_ := Aside0.mk (below_step (by repeat (first | (with_reducible first | exact HB.out | apply below_alloc | apply pw_below_drewN | apply below_drew1) | exact HB.out)) hb); clear HO339; clear HO343; clear HO347; clear HO351; clear HB; have HO339 := n0_; have HO343 := n1_; have HO347 := n2_; have HO351 := n3_; have HB := n4_; clear n0_ n1_ n2_ n3_ n4_; (try clear hb); (try clear hb2); (try clear hk); (try clear hi)) | (go_at_call 26; (with_reducible refine (edit_In.calls k _ _ t336 t353 _ ?side1 ?side2 A20.out).mono ?_); (case side1 => repeat (first | exact (Kd.R_reads' HO339.out).2.2 | (with_reducible refine Kd.C_alloc ?_ _) | (with_reducible refine Kd.C_drewN ?_ _) | (with_reducible refine Kd.C_drew ?_))); (case side2 => exact (Kd.R_reads' HO339.out).2.1); rintro e w53 ⟨rfl, hb⟩; have n0_ := Aside0.mk (Kd.R_below (by (with_reducible repeat (first | apply Kd.R_alloc | apply Kd.R_drewN | apply Kd.R_drew)); exact HO339.out) hb); have n1_ := Aside0.mk (Kd.R_below (by (with_reducible repeat (first | apply Kd.R_alloc | apply Kd.R_drewN | apply Kd.R_drew)); exact HO343.out) hb); have n2_ := Aside0.mk (Kd.R_below (by (with_reducible repeat (first | apply Kd.R_alloc | apply Kd.R_drewN | apply Kd.R_drew)); exact HO347.out) hb); have n3_ := Aside0.mk (Kd.R_below (by (with_reducible repeat (first | apply Kd.R_alloc | apply Kd.R_drewN | apply Kd.R_drew)); exact HO351.out) hb); have n4_ := Aside0.mk (below_step (by repeat (first | (with_reducible first | exact HB.out | apply below_alloc | apply pw_below_drewN | apply below_drew1) | exact HB.out)) hb); clear HO339; clear HO343; clear HO347; clear HO351; clear HB; have HO339 := n0_; have HO343 := n1_; have HO347 := n2_; have HO351 := n3_; have HB := n4_; clear n0_ n1_ n2_ n3_ n4_; (try clear hb); (try clear hb2); (try clear hk); (try clear hi)) | (go_at_call 27; (with_reducible refine (edit_Out.calls k _ _ t336 t354 _ ?side1 ?side2 A22.out).mono ?_); (case side1 => repeat (first | exact (Kd.R_reads' HO339.out).2.2 | (with_reducible refine Kd.C_alloc ?_ _) | (with_reducible refine Kd.C_drewN ?_ _) | (with_reducible refine Kd.C_drew ?_))); (case side2 => exact (Kd.R_reads' HO339.out).2.1); rintro e w54 ⟨rfl, hb⟩; have n0_ := Aside0.mk (Kd.R_below (by (with_reducible repeat (first | apply Kd.R_alloc | apply Kd.R_drewN | apply Kd.R_drew)); exact HO339.out) hb); have n1_ := Aside0.mk (Kd.R_below (by (with_reducible repeat (first | apply Kd.R_alloc | apply Kd.R_drewN | apply Kd.R_drew)); exact HO343.out) hb); have n2_ := Aside0.mk (Kd.R_below (by (with_reducible repeat (first | apply Kd.R_alloc | apply Kd.R_drewN | apply Kd.R_drew)); exact HO347.out) hb); have n3_ := Aside0.mk (Kd.R_below (by (with_reducible repeat (first | apply Kd.R_alloc | apply Kd.R_drewN | apply Kd.R_drew)); exact HO351.out) hb); have n4_ := Aside0.mk (below_step (by repeat (first | (with_reducible first | exact HB.out | apply below_alloc | apply pw_below_drewN | apply below_drew1) | exact HB.out)) hb); clear HO339; clear HO343; clear HO347; clear HO351; clear HB; have HO339 := n0_; have HO343 := n1_; have HO347 := n2_; have HO351 := n3_; have HB := n4_; clear n0_ n1_ n2_ n3_ n4_; (try clear hb); (try clear hb2); (try clear hk); (try clear hi)))
                go_meet
                case rel => exact ⟨_, (false), (by first | rfl | (simp; done) | (simp [*]; done)), H', ⟨by first | omega | exact Nat.le_refl _⟩, ⟨by (with_reducible repeat (first | apply Kd.R_alloc | apply Kd.R_drewN | apply Kd.R_drew)); exact Kd.R_mono HO339.out (fun _ hk => ⟨hk.1.1.2, ⟨hk.1.2, hk.2⟩⟩)⟩, ⟨by (with_reducible repeat (first | apply Kd.R_alloc | apply Kd.R_drewN | apply Kd.R_drew)); exact Kd.R_mono HO343.out (fun _ hk => ⟨hk.1.1.2, ⟨hk.1.2, hk.2⟩⟩)⟩, ⟨by (with_reducible repeat (first | apply Kd.R_alloc | apply Kd.R_drewN | apply Kd.R_drew)); exact Kd.R_mono HO347.out (fun _ hk => ⟨hk.1.1.2, ⟨hk.1.2, hk.2⟩⟩)⟩, ⟨by (with_reducible repeat (first | apply Kd.R_alloc | apply Kd.R_drewN | apply Kd.R_drew)); exact Kd.R_mono HO351.out (fun _ hk => ⟨hk.1.1.2, ⟨hk.1.2, hk.2⟩⟩)⟩, ⟨by repeat (first | (with_reducible first | exact HB.out | apply below_alloc | apply pw_below_drewN | apply below_drew1) | exact HB.out)⟩⟩
            · rw [if_neg c23] at H
              have c23b0 : (t354 == (wrap64 (a0 + (a3.size : Int)))) = false := beq_eq_false_iff_ne.mpr c23
              have c23b1 : (t354 != (wrap64 (a0 + (a3.size : Int)))) = true := bne_iff_ne.mpr c23
              have H' := Aside0.mk H
              clear H
              obtain ⟨Ao55, co55, eo55⟩ := Kd.R_slice HO339.out
              subst eo55
              go_wp2_with (first | (go_at_call 24; (with_reducible refine (edit_Good.calls k _ _ t336 true _ ?side1 ?side2 A18.out).mono ?_); (case side1 => repeat (first | exact (Kd.R_reads' HO339.out).2.2 | (with_reducible refine Kd.C_alloc ?_ _) | (with_reducible refine Kd.C_drewN ?_ _) | (with_reducible refine Kd.C_drew ?_))); (case side2 => exact (Kd.R_reads' HO339.out).2.1); rintro e w56 ⟨rfl, hb⟩; have n0_ := Aside0.mk (Kd.R_below (by (with_reducible repeat (first | apply Kd.R_alloc | apply Kd.R_drewN | apply Kd.R_drew)); exact HO339.out) hb); have n1_ := Aside0.mk (Kd.R_below (by (with_reducible repeat (first | apply Kd.R_alloc | apply Kd.R_drewN | apply Kd.R_drew)); exact HO343.out) hb); have n2_ := Aside0.mk (Kd.R_below (by (with_reducible repeat (first | apply Kd.R_alloc | apply Kd.R_drewN | apply Kd.R_drew)); exact HO347.out) hb); have n3_ := Aside0.mk (Kd.R_below (by (with_reducible repeat (first | apply Kd.R_alloc | apply Kd.R_drewN | apply Kd.R_drew)); exact HO351.out) hb); have n4_ := Aside0.mk (below_step (by repeat (first | (with_reducible first | exact HB.out | apply below_alloc | apply pw_below_drewN | apply below_drew1) | exact HB.out)) hb); clear HO339; clear HO343; clear HO347; clear HO351; clear HB; have HO339 := n0_; have HO343 := n1_; have HO347 := n2_; have HO351 := n3_; have HB := n4_; clear n0_ n1_ n2_ n3_ n4_; (try clear hb); (try clear hb2); (try clear hk); (try clear hi)) | (go_at_call 26; (with_reducible refine (edit_In.calls k _ _ t336 t353 _ ?side1 ?side2 A20.out).mono ?_); (case side1 => repeat (first | exact (Kd.R_reads' HO339.out).2.2 | (with_reducible refine Kd.C_alloc ?_ _) | (with_reducible refine Kd.C_drewN ?_ _) | (with_reducible refine Kd.C_drew ?_))); (case side2 => exact (Kd.R_reads' HO339.out).2.1); rintro e w57 ⟨rfl, hb⟩; have n0_ := Aside0.mk (Kd.R_below (by (with_reducible repeat (first | apply Kd.R_alloc | apply Kd.R_drewN | apply Kd.R_drew)); exact HO339.out) hb); have n1_ := Aside0.mk (Kd.R_below (by (with_reducible repeat (first | apply Kd.R_alloc | apply Kd.R_drewN | apply Kd.R_drew)); exact HO343.out) hb); have n2_ := Aside0.mk (Kd.R_below (by (with_reducible repeat (first | apply Kd.R_alloc | apply Kd.R_drewN | apply Kd.R_drew)); exact HO347.out) hb); have n3_ := Aside0.mk (Kd.R_below (by (with_reducible repeat (first | apply Kd.R_alloc | apply Kd.R_drewN | apply Kd.R_drew)); exact HO351.out) hb); have n4_ := Aside0.mk (below_step (by repeat (first | (with_reducible first | exact HB.out | apply below_alloc | apply pw_below_drewN | apply below_drew1) | exact HB.out)) hb); clear HO339; clear HO343; clear HO347; clear HO351; clear HB; have HO339 := n0_; have HO343 := n1_; have HO347 := n2_; have HO351 := n3_; have HB := n4_; clear n0_ n1_ n2_ n3_ n4_; (try clear hb); (try clear hb2); (try clear hk); (try clear hi)) | (go_at_call 27; (with_reducible refine (edit_Out.calls k _ _ t336 t354 _ ?side1 ?side2 A22.out).mono ?_); (case side1 => repeat (first | exact (Kd.R_reads' HO339.out).2.2 | (with_reducible refine Kd.C_alloc ?_ _) | (with_reducible refine Kd.C_drewN ?_ _) | (with_reducible refine Kd.C_drew ?_))); (case side2 => exact (Kd.R_reads' HO339.out).2.1); rintro e w58 ⟨rfl, hb⟩; have n0_ := Aside0.mk (Kd.R_below (by (with_reducible repeat (first | apply Kd.R_alloc | apply Kd.R_drewN | apply Kd.R_drew)); exact HO339.out) hb); have n1_ := Aside0.mk (Kd.R_below (by (with_reducible repeat (first | apply Kd.R_alloc | apply Kd.R_drewN | apply Kd.R_drew)); exact HO343.out) hb); have n2_ := Aside0.mk (Kd.R_below (by (with_reducible repeat (first | apply Kd.R_alloc | apply Kd.R_drewN | apply Kd.R_drew)); exact HO347.out) hb); have n3_ := Aside0.mk (Kd.R_below (by (with_reducible repeat (first | apply Kd.R_alloc | apply Kd.R_drewN | apply Kd.R_drew)); exact HO351.out) hb); have n4_ := Aside0.mk (below_step (by repeat (first | (with_reducible first | exact HB.out | apply below_alloc | apply pw_below_drewN | apply below_drew1) | exact HB.out)) hb); clear HO339; clear HO343; clear HO347; clear HO351; clear HB; have HO339 := n0_; have HO343 := n1_; have HO347 := n2_; have HO351 := n3_; have HB := n4_; clear n0_ n1_ n2_ n3_ n4_; (try clear hb); (try clear hb2); (try clear hk); (try clear hi)))
              go_meet
              case rel => exact ⟨_, (true), (by first | rfl | (simp; done) | (simp [*]; done)), H', ⟨by first | omega | exact Nat.le_refl _⟩, ⟨by (with_reducible repeat (first | apply Kd.R_alloc | apply Kd.R_drewN | apply Kd.R_drew)); exact Kd.R_mono HO339.out (fun _ hk => ⟨hk.1.1.2, ⟨hk.1.2, hk.2⟩⟩)⟩, ⟨by (with_reducible repeat (first | apply Kd.R_alloc | apply Kd.R_drewN | apply Kd.R_drew)); exact Kd.R_mono HO343.out (fun _ hk => ⟨hk.1.1.2, ⟨hk.1.2, hk.2⟩⟩)⟩, ⟨by (with_reducible repeat (first | apply Kd.R_alloc | apply Kd.R_drewN | apply Kd.R_drew)); exact Kd.R_mono HO347.out (fun _ hk => ⟨hk.1.1.2, ⟨hk.1.2, hk.2⟩⟩)⟩, ⟨by (with_reducible repeat (first | apply Kd.R_alloc | apply Kd.R_drewN | apply Kd.R_drew)); exact Kd.R_mono HO351.out (fun _ hk => ⟨hk.1.1.2, ⟨hk.1.2, hk.2⟩⟩)⟩, ⟨by repeat (first | (with_reducible first | exact HB.out | apply below_alloc | apply pw_below_drewN | apply below_drew1) | exact HB.out)⟩⟩
          · rw [if_neg c21] at H
            have c21b0 : (t353 == a0) = false := beq_eq_false_iff_ne.mpr c21
            have c21b1 : (t353 != a0) = true := bne_iff_ne.mpr c21
            have H' := Aside0.mk H
            clear H
            obtain ⟨Ao59, co59, eo59⟩ := Kd.R_slice HO339.out
            subst eo59
            go_wp2_with (first | (go_at_call 24; (with_reducible refine (edit_Good.calls k _ _ t336 true _ ?side1 ?side2 A18.out).mono ?_); (case side1 => repeat (first | exact (Kd.R_reads' HO339.out).2.2 | (with_reducible refine Kd.C_alloc ?_ _) | (with_reducible refine Kd.C_drewN ?_ _) | (with_reducible refine Kd.C_drew ?_))); (case side2 => exact (Kd.R_reads' HO339.out).2.1); rintro e w60 ⟨rfl, hb⟩; have n0_ := Aside0.mk (Kd.R_below (by (with_reducible repeat (first | apply Kd.R_alloc | apply Kd.R_drewN | apply Kd.R_drew)); exact HO339.out) hb); have n1_ := Aside0.mk (Kd.R_below (by (with_reducible repeat (first | apply Kd.R_alloc | apply Kd.R_drewN | apply Kd.R_drew)); exact HO343.out) hb); have n2_ := Aside0.mk (Kd.R_below (by (with_reducible repeat (first | apply Kd.R_alloc | apply Kd.R_drewN | apply Kd.R_drew)); exact HO347.out) hb); have n3_ := Aside0.mk (Kd.R_below (by (with_reducible repeat (first | apply Kd.R_alloc | apply Kd.R_drewN | apply Kd.R_drew)); exact HO351.out) hb); have n4_ := Aside0.mk (below_step (by repeat (first | (with_reducible first | exact HB.out | apply below_alloc | apply pw_below_drewN | apply below_drew1) | exact HB.out)) hb); clear HO339; clear HO343; clear HO347; clear HO351; clear HB; have HO339 := n0_; have HO343 := n1_; have HO347 := n2_; have HO351 := n3_; have HB := n4_; clear n0_ n1_ n2_ n3_ n4_; (try clear hb); (try clear hb2); (try clear hk); (try clear hi)) | (go_at_call 26; (with_reducible refine (edit_In.calls k _ _ t336 t353 _ ?side1 ?side2 A20.out).mono ?_); (case side1 => repeat (first | exact (Kd.R_reads' HO339.out).2.2 | (with_reducible refine Kd.C_alloc ?_ _) | (with_reducible refine Kd.C_drewN ?_ _) | (with_reducible refine Kd.C_drew ?_))); (case side2 => exact (Kd.R_reads' HO339.out).2.1); rintro e w61 ⟨rfl, hb⟩; have n0_ := Aside0.mk (Kd.R_below (by (with_reducible repeat (first | apply Kd.R_alloc | apply Kd.R_drewN | apply Kd.R_drew)); exact HO339.out) hb); have n1_ := Aside0.mk (Kd.R_below (by (with_reducible repeat (first | apply Kd.R_alloc | apply Kd.R_drewN | apply Kd.R_drew)); exact HO343.out) hb); have n2_ := Aside0.mk (Kd.R_below (by (with_reducible repeat (first | apply Kd.R_alloc | apply Kd.R_drewN | apply Kd.R_drew)); exact HO347.out) hb); have n3_ := Aside0.mk (Kd.R_below (by (with_reducible repeat (first | apply Kd.R_alloc | apply Kd.R_drewN | apply Kd.R_drew)); exact HO351.out) hb); have n4_ := Aside0.mk (below_step (by repeat (first | (with_reducible first | exact HB.out | apply below_alloc | apply pw_below_drewN | apply below_drew1) | exact HB.out)) hb); clear HO339; clear HO343; clear HO347; clear HO351; clear HB; have HO339 := n0_; have HO343 := n1_; have HO347 := n2_; have HO351 := n3_; have HB := n4_; clear n0_ n1_ n2_ n3_ n4_; (try clear hb); (try clear hb2); (try clear hk); (try clear hi)))
            go_meet
            case rel => exact ⟨_, (true), (by first | rfl | (simp; done) | (simp [*]; done)), H', ⟨by first | omega | exact Nat.le_refl _⟩, ⟨by (with_reducible repeat (first | apply Kd.R_alloc | apply Kd.R_drewN | apply Kd.R_drew)); exact Kd.R_mono HO339.out (fun _ hk => ⟨hk.1.1.2, ⟨hk.1.2, hk.2⟩⟩)⟩, ⟨by (with_reducible repeat (first | apply Kd.R_alloc | apply Kd.R_drewN | apply Kd.R_drew)); exact Kd.R_mono HO343.out (fun _ hk => ⟨hk.1.1.2, ⟨hk.1.2, hk.2⟩⟩)⟩, ⟨by (with_reducible repeat (first | apply Kd.R_alloc | apply Kd.R_drewN | apply Kd.R_drew)); exact Kd.R_mono HO347.out (fun _ hk => ⟨hk.1.1.2, ⟨hk.1.2, hk.2⟩⟩)⟩, ⟨by (with_reducible repeat (first | apply Kd.R_alloc | apply Kd.R_drewN | apply Kd.R_drew)); exact Kd.R_mono HO351.out (fun _ hk => ⟨hk.1.1.2, ⟨hk.1.2, hk.2⟩⟩)⟩, ⟨by repeat (first | (with_reducible first | exact HB.out | apply below_alloc | apply pw_below_drewN | apply below_drew1) | exact HB.out)⟩⟩
        · replace c19 := Bool.eq_false_iff.mpr c19
          subst c19
          have H1 : (variorumlaw06_EditMakes.j0 k a0 t336 t337 t340 t341 t344 t345 t348 t349 true) = some r := by rw [if_neg (show ¬ (false = true) by decide)] at H; exact H
          clear H
          have H := H1
          clear H1
          have H' := Aside0.mk H
          clear H
          obtain ⟨Ao62, co62, eo62⟩ := Kd.R_slice HO339.out
          subst eo62
          go_wp2_with (first | (go_at_call 24; (with_reducible refine (edit_Good.calls k _ _ t336 false _ ?side1 ?side2 A18.out).mono ?_); (case side1 => repeat (first | exact (Kd.R_reads' HO339.out).2.2 | (with_reducible refine Kd.C_alloc ?_ _) | (with_reducible refine Kd.C_drewN ?_ _) | (with_reducible refine Kd.C_drew ?_))); (case side2 => exact (Kd.R_reads' HO339.out).2.1); rintro e w63 ⟨rfl, hb⟩; have n0_ := Aside0.mk (Kd.R_below (by (with_reducible repeat (first | apply Kd.R_alloc | apply Kd.R_drewN | apply Kd.R_drew)); exact HO339.out) hb); have n1_ := Aside0.mk (Kd.R_below (by (with_reducible repeat (first | apply Kd.R_alloc | apply Kd.R_drewN | apply Kd.R_drew)); exact HO343.out) hb); have n2_ := Aside0.mk (Kd.R_below (by (with_reducible repeat (first | apply Kd.R_alloc | apply Kd.R_drewN | apply Kd.R_drew)); exact HO347.out) hb); have n3_ := Aside0.mk (Kd.R_below (by (with_reducible repeat (first | apply Kd.R_alloc | apply Kd.R_drewN | apply Kd.R_drew)); exact HO351.out) hb); have n4_ := Aside0.mk (below_step (by repeat (first | (with_reducible first | exact HB.out | apply below_alloc | apply pw_below_drewN | apply below_drew1) | exact HB.out)) hb); clear HO339; clear HO343; clear HO347; clear HO351; clear HB; have HO339 := n0_; have HO343 := n1_; have HO347 := n2_; have HO351 := n3_; have HB := n4_; clear n0_ n1_ n2_ n3_ n4_; (try clear hb); (try clear hb2); (try clear hk); (try clear hi)))
          go_meet
          case rel => exact ⟨_, (true), (by first | rfl | (simp; done) | (simp [*]; done)), H', ⟨by first | omega | exact Nat.le_refl _⟩, ⟨by (with_reducible repeat (first | apply Kd.R_alloc | apply Kd.R_drewN | apply Kd.R_drew)); exact Kd.R_mono HO339.out (fun _ hk => ⟨hk.1.1.2, ⟨hk.1.2, hk.2⟩⟩)⟩, ⟨by (with_reducible repeat (first | apply Kd.R_alloc | apply Kd.R_drewN | apply Kd.R_drew)); exact Kd.R_mono HO343.out (fun _ hk => ⟨hk.1.1.2, ⟨hk.1.2, hk.2⟩⟩)⟩, ⟨by (with_reducible repeat (first | apply Kd.R_alloc | apply Kd.R_drewN | apply Kd.R_drew)); exact Kd.R_mono HO347.out (fun _ hk => ⟨hk.1.1.2, ⟨hk.1.2, hk.2⟩⟩)⟩, ⟨by (with_reducible repeat (first | apply Kd.R_alloc | apply Kd.R_drewN | apply Kd.R_drew)); exact Kd.R_mono HO351.out (fun _ hk => ⟨hk.1.1.2, ⟨hk.1.2, hk.2⟩⟩)⟩, ⟨by repeat (first | (with_reducible first | exact HB.out | apply below_alloc | apply pw_below_drewN | apply below_drew1) | exact HB.out)⟩⟩
      · rw [if_neg c17] at H
        have c17b0 : (t337 == 0) = false := beq_eq_false_iff_ne.mpr c17
        have c17b1 : (t337 != 0) = true := bne_iff_ne.mpr c17
        (first | rw [c17b0] | (simp only [i64_w, i32_w]; rw [c17b0]) | skip)
        by_cases c64 : t345 = 0
        · rw [if_pos c64] at H
          have c64b0 : (t345 == 0) = true := beq_iff_eq.mpr c64
          have c64b1 : (t345 != 0) = false := bne_eq_false_iff_eq.mpr c64
          clear c64
          replace H := Option.bind_eq_some_iff.mp H
          obtain ⟨t358, A650, H⟩ := H
          replace H : (if t358 = true then ((edit_In.f k t344).bind fun t359 => (if t359 = a0 then ((edit_Out.f k t344).bind fun t360 => (variorumlaw06_EditMakes.j0 k a0 t336 t337 t340 t341 t344 t345 t348 t349 (t360 != (wrap64 (a0 - a2))))) else (variorumlaw06_EditMakes.j0 k a0 t336 t337 t340 t341 t344 t345 t348 t349 true))) else (variorumlaw06_EditMakes.j0 k a0 t336 t337 t340 t341 t344 t345 t348 t349 true)) = some r := H
          have A65 := Aside0.mk A650
          clear A650
          by_cases c66 : t358 = true
          · subst c66
            have H1 : ((edit_In.f k t344).bind fun t359 => (if t359 = a0 then ((edit_Out.f k t344).bind fun t360 => (variorumlaw06_EditMakes.j0 k a0 t336 t337 t340 t341 t344 t345 t348 t349 (t360 != (wrap64 (a0 - a2))))) else (variorumlaw06_EditMakes.j0 k a0 t336 t337 t340 t341 t344 t345 t348 t349 true))) = some r := by rw [if_pos rfl] at H; exact H
            clear H
            have H := H1
            clear H1
            replace H := Option.bind_eq_some_iff.mp H
            obtain ⟨t359, A670, H⟩ := H
            replace H : (if t359 = a0 then ((edit_Out.f k t344).bind fun t360 => (variorumlaw06_EditMakes.j0 k a0 t336 t337 t340 t341 t344 t345 t348 t349 (t360 != (wrap64 (a0 - a2))))) else (variorumlaw06_EditMakes.j0 k a0 t336 t337 t340 t341 t344 t345 t348 t349 true)) = some r := H
            have A67 := Aside0.mk A670
            clear A670
            by_cases c68 : t359 = a0
            · rw [if_pos c68] at H
              have c68b0 : (t359 == a0) = true := beq_iff_eq.mpr c68
              have c68b1 : (t359 != a0) = false := bne_eq_false_iff_eq.mpr c68
              clear c68
              replace H := Option.bind_eq_some_iff.mp H
              obtain ⟨t360, A690, H⟩ := H
              replace H : (variorumlaw06_EditMakes.j0 k a0 t336 t337 t340 t341 t344 t345 t348 t349 (t360 != (wrap64 (a0 - a2)))) = some r := H
              have A69 := Aside0.mk A690
              clear A690
              have H' := Aside0.mk H
              clear H
              obtain ⟨Ao70, co70, eo70⟩ := Kd.R_slice HO347.out
              subst eo70
              go_wp2_with (first | (go_at_call 24; (with_reducible refine (edit_Good.calls k _ _ t344 true _ ?side1 ?side2 A65.out).mono ?_); (case side1 => repeat (first | exact (Kd.R_reads' HO347.out).2.2 | (with_reducible refine Kd.C_alloc ?_ _) | (with_reducible refine Kd.C_drewN ?_ _) | (with_reducible refine Kd.C_drew ?_))); (case side2 => exact (Kd.R_reads' HO347.out).2.1); rintro e w71 ⟨rfl, hb⟩; have n0_ := Aside0.mk (Kd.R_below (by (with_reducible repeat (first | apply Kd.R_alloc | apply Kd.R_drewN | apply Kd.R_drew)); exact HO339.out) hb); have n1_ := Aside0.mk (Kd.R_below (by (with_reducible repeat (first | apply Kd.R_alloc | apply Kd.R_drewN | apply Kd.R_drew)); exact HO343.out) hb); have n2_ := Aside0.mk (Kd.R_below (by (with_reducible repeat (first | apply Kd.R_alloc | apply Kd.R_drewN | apply Kd.R_drew)); exact HO347.out) hb); have n3_ := Aside0.mk (Kd.R_below (by (with_reducible repeat (first | apply Kd.R_alloc | apply Kd.R_drewN | apply Kd.R_drew)); exact HO351.out) hb); have n4_ := Aside0.mk (below_step (by repeat (first | (with_reducible first | exact HB.out | apply below_alloc | apply pw_below_drewN | apply below_drew1) | exact HB.out)) hb); clear HO339; clear HO343; clear HO347; clear HO351; clear HB; have HO339 := n0_; have HO343 := n1_; have HO347 := n2_; have HO351 := n3_; have HB := n4_; clear n0_ n1_ n2_ n3_ n4_; (try clear hb); (try clear hb2); (try clear hk); (try clear hi)) | (go_at_call 26; (with_reducible refine (edit_In.calls k _ _ t344 t359 _ ?side1 ?side2 A67.out).mono ?_); (case side1 => repeat (first | exact (Kd.R_reads' HO347.out).2.2 | (with_reducible refine Kd.C_alloc ?_ _) | (with_reducible refine Kd.C_drewN ?_ _) | (with_reducible refine Kd.C_drew ?_))); (case side2 => exact (Kd.R_reads' HO347.out).2.1); rintro e w72 ⟨rfl, hb⟩; have n0_ := Aside0.mk (Kd.R_below (by (with_reducible repeat (first | apply Kd.R_alloc | apply Kd.R_drewN | apply Kd.R_drew)); exact HO339.out) hb); have n1_ := Aside0.mk (Kd.R_below (by (with_reducible repeat (first | apply Kd.R_alloc | apply Kd.R_drewN | apply Kd.R_drew)); exact HO343.out) hb); have n2_ := Aside0.mk (Kd.R_below (by (with_reducible repeat (first | apply Kd.R_alloc | apply Kd.R_drewN | apply Kd.R_drew)); exact HO347.out) hb); have n3_ := Aside0.mk (Kd.R_below (by (with_reducible repeat (first | apply Kd.R_alloc | apply Kd.R_drewN | apply Kd.R_drew)); exact HO351.out) hb); have n4_ := Aside0.mk (below_step (by repeat (first | (with_reducible first | exact HB.out | apply below_alloc | apply pw_below_drewN | apply below_drew1) | exact HB.out)) hb); clear HO339; clear HO343; clear HO347; clear HO351; clear HB; have HO339 := n0_; have HO343 := n1_; have HO347 := n2_; have HO351 := n3_; have HB := n4_; clear n0_ n1_ n2_ n3_ n4_; (try clear hb); (try clear hb2); (try clear hk); (try clear hi)) | (go_at_call 27; (with_reducible refine (edit_Out.calls k _ _ t344 t360 _ ?side1 ?side2 A69.out).mono ?_); (case side1 => repeat (first | exact (Kd.R_reads' HO347.out).2.2 | (with_reducible refine Kd.C_alloc ?_ _) | (with_reducible refine Kd.C_drewN ?_ _) | (with_reducible refine Kd.C_drew ?_))); (case side2 => exact (Kd.R_reads' HO347.out).2.1); rintro e w73 ⟨rfl, hb⟩; have n0_ := Aside0.mk (Kd.R_below (by (with_reducible repeat (first | apply Kd.R_alloc | apply Kd.R_drewN | apply Kd.R_drew)); exact HO339.out) hb); have n1_ := Aside0.mk (Kd.R_below (by (with_reducible repeat (first | apply Kd.R_alloc | apply Kd.R_drewN | apply Kd.R_drew)); exact HO343.out) hb); have n2_ := Aside0.mk (Kd.R_below (by (with_reducible repeat (first | apply Kd.R_alloc | apply Kd.R_drewN | apply Kd.R_drew)); exact HO347.out) hb); have n3_ := Aside0.mk (Kd.R_below (by (with_reducible repeat (first | apply Kd.R_alloc | apply Kd.R_drewN | apply Kd.R_drew)); exact HO351.out) hb); have n4_ := Aside0.mk (below_step (by repeat (first | (with_reducible first | exact HB.out | apply below_alloc | apply pw_below_drewN | apply below_drew1) | exact HB.out)) hb); clear HO339; clear HO343; clear HO347; clear HO351; clear HB; have HO339 := n0_; have HO343 := n1_; have HO347 := n2_; have HO351 := n3_; have HB := n4_; clear n0_ n1_ n2_ n3_ n4_; (try clear hb); (try clear hb2); (try clear hk); (try clear hi)))
              go_meet
              case rel => exact ⟨_, ((t360 != (wrap64 (a0 - a2)))), (by first | rfl | (simp; done) | (simp [*]; done)), H', ⟨by first | omega | exact Nat.le_refl _⟩, ⟨by (with_reducible repeat (first | apply Kd.R_alloc | apply Kd.R_drewN | apply Kd.R_drew)); exact Kd.R_mono HO339.out (fun _ hk => ⟨hk.1.1.2, ⟨hk.1.2, hk.2⟩⟩)⟩, ⟨by (with_reducible repeat (first | apply Kd.R_alloc | apply Kd.R_drewN | apply Kd.R_drew)); exact Kd.R_mono HO343.out (fun _ hk => ⟨hk.1.1.2, ⟨hk.1.2, hk.2⟩⟩)⟩, ⟨by (with_reducible repeat (first | apply Kd.R_alloc | apply Kd.R_drewN | apply Kd.R_drew)); exact Kd.R_mono HO347.out (fun _ hk => ⟨hk.1.1.2, ⟨hk.1.2, hk.2⟩⟩)⟩, ⟨by (with_reducible repeat (first | apply Kd.R_alloc | apply Kd.R_drewN | apply Kd.R_drew)); exact Kd.R_mono HO351.out (fun _ hk => ⟨hk.1.1.2, ⟨hk.1.2, hk.2⟩⟩)⟩, ⟨by repeat (first | (with_reducible first | exact HB.out | apply below_alloc | apply pw_below_drewN | apply below_drew1) | exact HB.out)⟩⟩
            · rw [if_neg c68] at H
              have c68b0 : (t359 == a0) = false := beq_eq_false_iff_ne.mpr c68
              have c68b1 : (t359 != a0) = true := bne_iff_ne.mpr c68
              have H' := Aside0.mk H
              clear H
              obtain ⟨Ao74, co74, eo74⟩ := Kd.R_slice HO347.out
              subst eo74
              go_wp2_with (first | (go_at_call 24; (with_reducible refine (edit_Good.calls k _ _ t344 true _ ?side1 ?side2 A65.out).mono ?_); (case side1 => repeat (first | exact (Kd.R_reads' HO347.out).2.2 | (with_reducible refine Kd.C_alloc ?_ _) | (with_reducible refine Kd.C_drewN ?_ _) | (with_reducible refine Kd.C_drew ?_))); (case side2 => exact (Kd.R_reads' HO347.out).2.1); rintro e w75 ⟨rfl, hb⟩; have n0_ := Aside0.mk (Kd.R_below (by (with_reducible repeat (first | apply Kd.R_alloc | apply Kd.R_drewN | apply Kd.R_drew)); exact HO339.out) hb); have n1_ := Aside0.mk (Kd.R_below (by (with_reducible repeat (first | apply Kd.R_alloc | apply Kd.R_drewN | apply Kd.R_drew)); exact HO343.out) hb); have n2_ := Aside0.mk (Kd.R_below (by (with_reducible repeat (first | apply Kd.R_alloc | apply Kd.R_drewN | apply Kd.R_drew)); exact HO347.out) hb); have n3_ := Aside0.mk (Kd.R_below (by (with_reducible repeat (first | apply Kd.R_alloc | apply Kd.R_drewN | apply Kd.R_drew)); exact HO351.out) hb); have n4_ := Aside0.mk (below_step (by repeat (first | (with_reducible first | exact HB.out | apply below_alloc | apply pw_below_drewN | apply below_drew1) | exact HB.out)) hb); clear HO339; clear HO343; clear HO347; clear HO351; clear HB; have HO339 := n0_; have HO343 := n1_; have HO347 := n2_; have HO351 := n3_; have HB := n4_; clear n0_ n1_ n2_ n3_ n4_; (try clear hb); (try clear hb2); (try clear hk); (try clear hi)) | (go_at_call 26; (with_reducible refine (edit_In.calls k _ _ t344 t359 _ ?side1 ?side2 A67.out).mono ?_); (case side1 => repeat (first | exact (Kd.R_reads' HO347.out).2.2 | (with_reducible refine Kd.C_alloc ?_ _) | (with_reducible refine Kd.C_drewN ?_ _) | (with_reducible refine Kd.C_drew ?_))); (case side2 => exact (Kd.R_reads' HO347.out).2.1); rintro e w76 ⟨rfl, hb⟩; have n0_ := Aside0.mk (Kd.R_below (by (with_reducible repeat (first | apply Kd.R_alloc | apply Kd.R_drewN | apply Kd.R_drew)); exact HO339.out) hb); have n1_ := Aside0.mk (Kd.R_below (by (with_reducible repeat (first | apply Kd.R_alloc | apply Kd.R_drewN | apply Kd.R_drew)); exact HO343.out) hb); have n2_ := Aside0.mk (Kd.R_below (by (with_reducible repeat (first | apply Kd.R_alloc | apply Kd.R_drewN | apply Kd.R_drew)); exact HO347.out) hb); have n3_ := Aside0.mk (Kd.R_below (by (with_reducible repeat (first | apply Kd.R_alloc | apply Kd.R_drewN | apply Kd.R_drew)); exact HO351.out) hb); have n4_ := Aside0.mk (below_step (by repeat (first | (with_reducible first | exact HB.out | apply below_alloc | apply pw_below_drewN | apply below_drew1) | exact HB.out)) hb); clear HO339; clear HO343; clear HO347; clear HO351; clear HB; have HO339 := n0_; have HO343 := n1_; have HO347 := n2_; have HO351 := n3_; have HB := n4_; clear n0_ n1_ n2_ n3_ n4_; (try clear hb); (try clear hb2); (try clear hk); (try clear hi)))
              go_meet
              case rel => exact ⟨_, (true), (by first | rfl | (simp; done) | (simp [*]; done)), H', ⟨by first | omega | exact Nat.le_refl _⟩, ⟨by (with_reducible repeat (first | apply Kd.R_alloc | apply Kd.R_drewN | apply Kd.R_drew)); exact Kd.R_mono HO339.out (fun _ hk => ⟨hk.1.1.2, ⟨hk.1.2, hk.2⟩⟩)⟩, ⟨by (with_reducible repeat (first | apply Kd.R_alloc | apply Kd.R_drewN | apply Kd.R_drew)); exact Kd.R_mono HO343.out (fun _ hk => ⟨hk.1.1.2, ⟨hk.1.2, hk.2⟩⟩)⟩, ⟨by (with_reducible repeat (first | apply Kd.R_alloc | apply Kd.R_drewN | apply Kd.R_drew)); exact Kd.R_mono HO347.out (fun _ hk => ⟨hk.1.1.2, ⟨hk.1.2, hk.2⟩⟩)⟩, ⟨by (with_reducible repeat (first | apply Kd.R_alloc | apply Kd.R_drewN | apply Kd.R_drew)); exact Kd.R_mono HO351.out (fun _ hk => ⟨hk.1.1.2, ⟨hk.1.2, hk.2⟩⟩)⟩, ⟨by repeat (first | (with_reducible first | exact HB.out | apply below_alloc | apply pw_below_drewN | apply below_drew1) | exact HB.out)⟩⟩
          · replace c66 := Bool.eq_false_iff.mpr c66
            subst c66
            have H1 : (variorumlaw06_EditMakes.j0 k a0 t336 t337 t340 t341 t344 t345 t348 t349 true) = some r := by rw [if_neg (show ¬ (false = true) by decide)] at H; exact H
            clear H
            have H := H1
            clear H1
            have H' := Aside0.mk H
            clear H
            obtain ⟨Ao77, co77, eo77⟩ := Kd.R_slice HO347.out
            subst eo77
            go_wp2_with (first | (go_at_call 24; (with_reducible refine (edit_Good.calls k _ _ t344 false _ ?side1 ?side2 A65.out).mono ?_); (case side1 => repeat (first | exact (Kd.R_reads' HO347.out).2.2 | (with_reducible refine Kd.C_alloc ?_ _) | (with_reducible refine Kd.C_drewN ?_ _) | (with_reducible refine Kd.C_drew ?_))); (case side2 => exact (Kd.R_reads' HO347.out).2.1); rintro e w78 ⟨rfl, hb⟩; have n0_ := Aside0.mk (Kd.R_below (by (with_reducible repeat (first | apply Kd.R_alloc | apply Kd.R_drewN | apply Kd.R_drew)); exact HO339.out) hb); have n1_ := Aside0.mk (Kd.R_below (by (with_reducible repeat (first | apply Kd.R_alloc | apply Kd.R_drewN | apply Kd.R_drew)); exact HO343.out) hb); have n2_ := Aside0.mk (Kd.R_below (by (with_reducible repeat (first | apply Kd.R_alloc | apply Kd.R_drewN | apply Kd.R_drew)); exact HO347.out) hb); have n3_ := Aside0.mk (Kd.R_below (by (with_reducible repeat (first | apply Kd.R_alloc | apply Kd.R_drewN | apply Kd.R_drew)); exact HO351.out) hb); have n4_ := Aside0.mk (below_step (by repeat (first | (with_reducible first | exact HB.out | apply below_alloc | apply pw_below_drewN | apply below_drew1) | exact HB.out)) hb); clear HO339; clear HO343; clear HO347; clear HO351; clear HB; have HO339 := n0_; have HO343 := n1_; have HO347 := n2_; have HO351 := n3_; have HB := n4_; clear n0_ n1_ n2_ n3_ n4_; (try clear hb); (try clear hb2); (try clear hk); (try clear hi)))
            go_meet
            case rel => exact ⟨_, (true), (by first | rfl | (simp; done) | (simp [*]; done)), H', ⟨by first | omega | exact Nat.le_refl _⟩, ⟨by (with_reducible repeat (first | apply Kd.R_alloc | apply Kd.R_drewN | apply Kd.R_drew)); exact Kd.R_mono HO339.out (fun _ hk => ⟨hk.1.1.2, ⟨hk.1.2, hk.2⟩⟩)⟩, ⟨by (with_reducible repeat (first | apply Kd.R_alloc | apply Kd.R_drewN | apply Kd.R_drew)); exact Kd.R_mono HO343.out (fun _ hk => ⟨hk.1.1.2, ⟨hk.1.2, hk.2⟩⟩)⟩, ⟨by (with_reducible repeat (first | apply Kd.R_alloc | apply Kd.R_drewN | apply Kd.R_drew)); exact Kd.R_mono HO347.out (fun _ hk => ⟨hk.1.1.2, ⟨hk.1.2, hk.2⟩⟩)⟩, ⟨by (with_reducible repeat (first | apply Kd.R_alloc | apply Kd.R_drewN | apply Kd.R_drew)); exact Kd.R_mono HO351.out (fun _ hk => ⟨hk.1.1.2, ⟨hk.1.2, hk.2⟩⟩)⟩, ⟨by repeat (first | (with_reducible first | exact HB.out | apply below_alloc | apply pw_below_drewN | apply below_drew1) | exact HB.out)⟩⟩
        · rw [if_neg c64] at H
          have c64b0 : (t345 == 0) = false := beq_eq_false_iff_ne.mpr c64
          have c64b1 : (t345 != 0) = true := bne_iff_ne.mpr c64
          have H' := Aside0.mk H
          clear H
          go_wp2
          go_meet
          case rel => exact ⟨_, (false), (by first | rfl | (simp; done) | (simp [*]; done)), H', ⟨by first | omega | exact Nat.le_refl _⟩, ⟨by (with_reducible repeat (first | apply Kd.R_alloc | apply Kd.R_drewN | apply Kd.R_drew)); exact Kd.R_mono HO339.out (fun _ hk => ⟨hk.1.1.2, ⟨hk.1.2, hk.2⟩⟩)⟩, ⟨by (with_reducible repeat (first | apply Kd.R_alloc | apply Kd.R_drewN | apply Kd.R_drew)); exact Kd.R_mono HO343.out (fun _ hk => ⟨hk.1.1.2, ⟨hk.1.2, hk.2⟩⟩)⟩, ⟨by (with_reducible repeat (first | apply Kd.R_alloc | apply Kd.R_drewN | apply Kd.R_drew)); exact Kd.R_mono HO347.out (fun _ hk => ⟨hk.1.1.2, ⟨hk.1.2, hk.2⟩⟩)⟩, ⟨by (with_reducible repeat (first | apply Kd.R_alloc | apply Kd.R_drewN | apply Kd.R_drew)); exact Kd.R_mono HO351.out (fun _ hk => ⟨hk.1.1.2, ⟨hk.1.2, hk.2⟩⟩)⟩, ⟨by repeat (first | (with_reducible first | exact HB.out | apply below_alloc | apply pw_below_drewN | apply below_drew1) | exact HB.out)⟩⟩
    case rest =>
      clear HC12
      try clear c1
      try clear c2
      try clear p2
      try clear c3
      try clear c5
      try clear c5b0
      try clear c5b1
      try clear c6
      try clear p6
      try clear c7
      try clear c17
      try clear c17b0
      try clear c17b1
      try clear c19
      try clear c21
      try clear c21b0
      try clear c21b1
      try clear c22
      try clear c23
      try clear c23b0
      try clear c23b1
      try clear c24
      try clear c24b0
      try clear c24b1
      try clear c26
      try clear c28
      try clear c28b0
      try clear c28b1
      try clear c32
      try clear c33
      try clear c34
      try clear c35
      try clear c64
      try clear c64b0
      try clear c64b1
      try clear p64
      try clear c66
      try clear c68
      try clear c68b0
      try clear c68b1
      obtain ⟨kq, x93_11, rfl, HA, HJ11, HO_9, HO_11, HO_13, HO_15, HB⟩ := hcut
      cases kq with
      | zero => exact absurd HA.out (by simp [variorumlaw06_EditMakes.j0])
      | succ kj11 =>
        have H := HA.out
        clear HA
        simp only [variorumlaw06_EditMakes.j0] at H
        by_cases c79 : x93_11 = true
        · subst c79
          have H1 : (some false) = some r := by rw [if_pos rfl] at H; exact H
          clear H
          have H := H1
          clear H1
          obtain rfl := Option.some.inj H
          go_wp2
          go_ret
          exact ⟨by first | rfl | (simp [errW_none, errW_some] <;> rfl) | (simp [*, errW_none, errW_some] <;> rfl), by repeat (first | (with_reducible first | exact HB.out | apply below_alloc | apply pw_below_drewN | apply below_drew1) | exact HB.out)⟩
        · replace c79 := Bool.eq_false_iff.mpr c79
          subst c79
          have H1 : ((variorumref06_Same.f kj11 t336 t340).bind fun t361 => (if t361 = true then (if t337 = t341 then ((variorumref06_Same.f kj11 t344 t348).bind fun t362 => (if t362 = true then (if t345 = t349 then ((edit_Nothing.f a0).bind fun t363 => ((variorumref06_Nothing.f a0).bind fun t366 => ((variorumref06_Same.f kj11 t363 t366).bind fun t369 => (if t369 = true then ((variorumlaw06_lives.f kj11).bind fun t370 => (some t370)) else (some false))))) else (some false)) else (some false))) else (some false)) else (some false))) = some r := by rw [if_neg (show ¬ (false = true) by decide)] at H; exact H
          clear H
          have H := H1
          clear H1
          replace H := Option.bind_eq_some_iff.mp H
          obtain ⟨t361, A800, H⟩ := H
          replace H : (if t361 = true then (if t337 = t341 then ((variorumref06_Same.f kj11 t344 t348).bind fun t362 => (if t362 = true then (if t345 = t349 then ((edit_Nothing.f a0).bind fun t363 => ((variorumref06_Nothing.f a0).bind fun t366 => ((variorumref06_Same.f kj11 t363 t366).bind fun t369 => (if t369 = true then ((variorumlaw06_lives.f kj11).bind fun t370 => (some t370)) else (some false))))) else (some false)) else (some false))) else (some false)) else (some false)) = some r := H
          have A80 := Aside0.mk A800
          clear A800
          by_cases c81 : t361 = true
          · subst c81
            have H1 : (if t337 = t341 then ((variorumref06_Same.f kj11 t344 t348).bind fun t362 => (if t362 = true then (if t345 = t349 then ((edit_Nothing.f a0).bind fun t363 => ((variorumref06_Nothing.f a0).bind fun t366 => ((variorumref06_Same.f kj11 t363 t366).bind fun t369 => (if t369 = true then ((variorumlaw06_lives.f kj11).bind fun t370 => (some t370)) else (some false))))) else (some false)) else (some false))) else (some false)) = some r := by rw [if_pos rfl] at H; exact H
            clear H
            have H := H1
            clear H1
            by_cases c82 : t337 = t341
            · rw [if_pos c82] at H
              have c82b0 : (t337 == t341) = true := beq_iff_eq.mpr c82
              have c82b1 : (t337 != t341) = false := bne_eq_false_iff_eq.mpr c82
              clear c82
              replace H := Option.bind_eq_some_iff.mp H
              obtain ⟨t362, A830, H⟩ := H
              replace H : (if t362 = true then (if t345 = t349 then ((edit_Nothing.f a0).bind fun t363 => ((variorumref06_Nothing.f a0).bind fun t366 => ((variorumref06_Same.f kj11 t363 t366).bind fun t369 => (if t369 = true then ((variorumlaw06_lives.f kj11).bind fun t370 => (some t370)) else (some false))))) else (some false)) else (some false)) = some r := H
              have A83 := Aside0.mk A830
              clear A830
              by_cases c84 : t362 = true
              · subst c84
                have H1 : (if t345 = t349 then ((edit_Nothing.f a0).bind fun t363 => ((variorumref06_Nothing.f a0).bind fun t366 => ((variorumref06_Same.f kj11 t363 t366).bind fun t369 => (if t369 = true then ((variorumlaw06_lives.f kj11).bind fun t370 => (some t370)) else (some false))))) else (some false)) = some r := by rw [if_pos rfl] at H; exact H
                clear H
                have H := H1
                clear H1
                by_cases c85 : t345 = t349
                · rw [if_pos c85] at H
                  have c85b0 : (t345 == t349) = true := beq_iff_eq.mpr c85
                  have c85b1 : (t345 != t349) = false := bne_eq_false_iff_eq.mpr c85
                  clear c85
                  replace H := Option.bind_eq_some_iff.mp H
                  obtain ⟨t363, A860, H⟩ := H
                  replace H : ((variorumref06_Nothing.f a0).bind fun t366 => ((variorumref06_Same.f kj11 t363 t366).bind fun t369 => (if t369 = true then ((variorumlaw06_lives.f kj11).bind fun t370 => (some t370)) else (some false)))) = some r := H
                  have A86 := Aside0.mk A860
                  clear A860
                  replace H := Option.bind_eq_some_iff.mp H
                  obtain ⟨t366, A870, H⟩ := H
                  replace H : ((variorumref06_Same.f kj11 t363 t366).bind fun t369 => (if t369 = true then ((variorumlaw06_lives.f kj11).bind fun t370 => (some t370)) else (some false))) = some r := H
                  have A87 := Aside0.mk A870
                  clear A870
                  replace H := Option.bind_eq_some_iff.mp H
                  obtain ⟨t369, A880, H⟩ := H
                  replace H : (if t369 = true then ((variorumlaw06_lives.f kj11).bind fun t370 => (some t370)) else (some false)) = some r := H
                  have A88 := Aside0.mk A880
                  clear A880
                  by_cases c89 : t369 = true
                  · subst c89
                    have H1 : ((variorumlaw06_lives.f kj11).bind fun t370 => (some t370)) = some r := by rw [if_pos rfl] at H; exact H
                    clear H
                    have H := H1
                    clear H1
                    replace H := Option.bind_eq_some_iff.mp H
                    obtain ⟨t370, A900, H⟩ := H
                    replace H : (some t370) = some r := H
                    have A90 := Aside0.mk A900
                    clear A900
                    obtain rfl := Option.some.inj H
                    obtain ⟨Ao91, co91, eo91⟩ := Kd.R_slice HO_9.out
                    subst eo91
                    obtain ⟨Ao92, co92, eo92⟩ := Kd.R_slice HO_11.out
                    subst eo92
                    go_wp2_with (first | ((with_reducible refine gate_callee (f := 25) rfl ?_); refine goesL_ (some 96) rfl rfl Try.func25 (by kernel_rfl) rfl #[.slice Ao91 t336.length co91, .slice Ao92 t340.length co92] rfl (by (try simp only [List.map_toArray, List.map_cons, List.map_nil]); first | done | rfl | (simp only [List.length_drop, List.length_take]; rfl)) ?_; (with_reducible refine (variorumref06_Same.calls kj11 _ _ t336 _ _ t340 true _ ?side1 ?side2 ?side3 ?side4 A80.out).mono ?_); (case side1 => repeat (first | exact (Kd.R_reads' HO_9.out).2.2 | (with_reducible refine Kd.C_alloc ?_ _) | (with_reducible refine Kd.C_drewN ?_ _) | (with_reducible refine Kd.C_drew ?_))); (case side2 => exact (Kd.R_reads' HO_9.out).2.1); (case side3 => repeat (first | exact (Kd.R_reads' HO_11.out).2.2 | (with_reducible refine Kd.C_alloc ?_ _) | (with_reducible refine Kd.C_drewN ?_ _) | (with_reducible refine Kd.C_drew ?_))); (case side4 => exact (Kd.R_reads' HO_11.out).2.1); rintro e w' ⟨rfl, ⟨nd, rfl⟩⟩; refine ⟨_, rfl, ?_⟩; obtain ⟨Ao93, co93, eo93⟩ := Kd.R_slice HO_13.out; subst eo93; obtain ⟨Ao94, co94, eo94⟩ := Kd.R_slice HO_15.out; subst eo94) | (go_at_call 25; (with_reducible refine (variorumref06_Same.calls kj11 _ _ t344 _ _ t348 true _ ?side1 ?side2 ?side3 ?side4 A83.out).mono ?_); (case side1 => repeat (first | exact (Kd.R_reads' HO_13.out).2.2 | (with_reducible refine Kd.C_alloc ?_ _) | (with_reducible refine Kd.C_drewN ?_ _) | (with_reducible refine Kd.C_drew ?_))); (case side2 => exact (Kd.R_reads' HO_13.out).2.1); (case side3 => repeat (first | exact (Kd.R_reads' HO_15.out).2.2 | (with_reducible refine Kd.C_alloc ?_ _) | (with_reducible refine Kd.C_drewN ?_ _) | (with_reducible refine Kd.C_drew ?_))); (case side4 => exact (Kd.R_reads' HO_15.out).2.1); rintro e w' ⟨rfl, ⟨nd, rfl⟩⟩) | (go_at_call 36; (with_reducible refine (edit_Nothing.calls a0 t363 _ A86.out).mono ?_); rintro e w95 ⟨v364, rfl, ho0, hb⟩; have n0_ := Aside0.mk (Kd.R_elder' (by (with_reducible repeat (first | apply Kd.R_alloc | apply Kd.R_drewN | apply Kd.R_drew)); exact HO_9.out) (Kd.R_base ho0) hb); have n1_ := Aside0.mk (Kd.R_elder' (by (with_reducible repeat (first | apply Kd.R_alloc | apply Kd.R_drewN | apply Kd.R_drew)); exact HO_11.out) (Kd.R_base ho0) hb); have n2_ := Aside0.mk (Kd.R_elder' (by (with_reducible repeat (first | apply Kd.R_alloc | apply Kd.R_drewN | apply Kd.R_drew)); exact HO_13.out) (Kd.R_base ho0) hb); have n3_ := Aside0.mk (Kd.R_elder' (by (with_reducible repeat (first | apply Kd.R_alloc | apply Kd.R_drewN | apply Kd.R_drew)); exact HO_15.out) (Kd.R_base ho0) hb); have n4_ := Aside0.mk (Kd.R_lower (Kd.R_new' (Kd.R_new' (Kd.R_new' (Kd.R_new' ho0 (Kd.R_lt (by (with_reducible repeat (first | apply Kd.R_alloc | apply Kd.R_drewN | apply Kd.R_drew)); exact HO_9.out))) (Kd.R_lt (by (with_reducible repeat (first | apply Kd.R_alloc | apply Kd.R_drewN | apply Kd.R_drew)); exact HO_11.out))) (Kd.R_lt (by (with_reducible repeat (first | apply Kd.R_alloc | apply Kd.R_drewN | apply Kd.R_drew)); exact HO_13.out))) (Kd.R_lt (by (with_reducible repeat (first | apply Kd.R_alloc | apply Kd.R_drewN | apply Kd.R_drew)); exact HO_15.out))) (below_size (by repeat (first | (with_reducible first | exact HB.out | apply below_alloc | apply pw_below_drewN | apply below_drew1) | exact HB.out)))); have n5_ := Aside0.mk (below_step (by repeat (first | (with_reducible first | exact HB.out | apply below_alloc | apply pw_below_drewN | apply below_drew1) | exact HB.out)) hb); clear HO_9; clear HO_11; clear HO_13; clear HO_15; clear HB; have HO_9 := n0_; have HO_11 := n1_; have HO_13 := n2_; have HO_15 := n3_; have HO365 := n4_; have HB := n5_; clear n0_ n1_ n2_ n3_ n4_ n5_; (try clear hb); (try clear hb2); (try clear hk); (try clear hi); (try clear ho0)) | (go_at_call 37; (with_reducible refine (variorumref06_Nothing.calls a0 t366 _ A87.out).mono ?_); rintro e w96 ⟨v367, rfl, ho0, hb⟩; have n0_ := Aside0.mk (Kd.R_elder' (by (with_reducible repeat (first | apply Kd.R_alloc | apply Kd.R_drewN | apply Kd.R_drew)); exact HO_9.out) (Kd.R_base ho0) hb); have n1_ := Aside0.mk (Kd.R_elder' (by (with_reducible repeat (first | apply Kd.R_alloc | apply Kd.R_drewN | apply Kd.R_drew)); exact HO_11.out) (Kd.R_base ho0) hb); have n2_ := Aside0.mk (Kd.R_elder' (by (with_reducible repeat (first | apply Kd.R_alloc | apply Kd.R_drewN | apply Kd.R_drew)); exact HO_13.out) (Kd.R_base ho0) hb); have n3_ := Aside0.mk (Kd.R_elder' (by (with_reducible repeat (first | apply Kd.R_alloc | apply Kd.R_drewN | apply Kd.R_drew)); exact HO_15.out) (Kd.R_base ho0) hb); have n4_ := Aside0.mk (Kd.R_elder' (by (with_reducible repeat (first | apply Kd.R_alloc | apply Kd.R_drewN | apply Kd.R_drew)); exact HO365.out) (Kd.R_base ho0) hb); have n5_ := Aside0.mk (Kd.R_lower (Kd.R_new' (Kd.R_new' (Kd.R_new' (Kd.R_new' (Kd.R_new' ho0 (Kd.R_lt (by (with_reducible repeat (first | apply Kd.R_alloc | apply Kd.R_drewN | apply Kd.R_drew)); exact HO_9.out))) (Kd.R_lt (by (with_reducible repeat (first | apply Kd.R_alloc | apply Kd.R_drewN | apply Kd.R_drew)); exact HO_11.out))) (Kd.R_lt (by (with_reducible repeat (first | apply Kd.R_alloc | apply Kd.R_drewN | apply Kd.R_drew)); exact HO_13.out))) (Kd.R_lt (by (with_reducible repeat (first | apply Kd.R_alloc | apply Kd.R_drewN | apply Kd.R_drew)); exact HO_15.out))) (Kd.R_lt (by (with_reducible repeat (first | apply Kd.R_alloc | apply Kd.R_drewN | apply Kd.R_drew)); exact HO365.out))) (below_size (by repeat (first | (with_reducible first | exact HB.out | apply below_alloc | apply pw_below_drewN | apply below_drew1) | exact HB.out)))); have n6_ := Aside0.mk (below_step (by repeat (first | (with_reducible first | exact HB.out | apply below_alloc | apply pw_below_drewN | apply below_drew1) | exact HB.out)) hb); clear HO_9; clear HO_11; clear HO_13; clear HO_15; clear HO365; clear HB; have HO_9 := n0_; have HO_11 := n1_; have HO_13 := n2_; have HO_15 := n3_; have HO365 := n4_; have HO368 := n5_; have HB := n6_; clear n0_ n1_ n2_ n3_ n4_ n5_ n6_; (try clear hb); (try clear hb2); (try clear hk); (try clear hi); (try clear ho0); obtain ⟨Ao97, co97, eo97⟩ := Kd.R_slice HO365.out; subst eo97; obtain ⟨Ao98, co98, eo98⟩ := Kd.R_slice HO368.out; subst eo98) | (go_at_call 25; (with_reducible refine (variorumref06_Same.calls kj11 _ _ t363 _ _ t366 true _ ?side1 ?side2 ?side3 ?side4 A88.out).mono ?_); (case side1 => repeat (first | exact (Kd.R_reads' HO365.out).2.2 | (with_reducible refine Kd.C_alloc ?_ _) | (with_reducible refine Kd.C_drewN ?_ _) | (with_reducible refine Kd.C_drew ?_))); (case side2 => exact (Kd.R_reads' HO365.out).2.1); (case side3 => repeat (first | exact (Kd.R_reads' HO368.out).2.2 | (with_reducible refine Kd.C_alloc ?_ _) | (with_reducible refine Kd.C_drewN ?_ _) | (with_reducible refine Kd.C_drew ?_))); (case side4 => exact (Kd.R_reads' HO368.out).2.1); rintro e w' ⟨rfl, ⟨nd, rfl⟩⟩) | (go_at_call 22; (with_reducible refine (variorumlaw06_lives.calls kj11  t370 _ A90.out).mono ?_); rintro e w99 ⟨rfl, hb⟩; have n0_ := Aside0.mk (Kd.R_below (by (with_reducible repeat (first | apply Kd.R_alloc | apply Kd.R_drewN | apply Kd.R_drew)); exact HO_9.out) hb); have n1_ := Aside0.mk (Kd.R_below (by (with_reducible repeat (first | apply Kd.R_alloc | apply Kd.R_drewN | apply Kd.R_drew)); exact HO_11.out) hb); have n2_ := Aside0.mk (Kd.R_below (by (with_reducible repeat (first | apply Kd.R_alloc | apply Kd.R_drewN | apply Kd.R_drew)); exact HO_13.out) hb); have n3_ := Aside0.mk (Kd.R_below (by (with_reducible repeat (first | apply Kd.R_alloc | apply Kd.R_drewN | apply Kd.R_drew)); exact HO_15.out) hb); have n4_ := Aside0.mk (Kd.R_below (by (with_reducible repeat (first | apply Kd.R_alloc | apply Kd.R_drewN | apply Kd.R_drew)); exact HO365.out) hb); have n5_ := Aside0.mk (Kd.R_below (by (with_reducible repeat (first | apply Kd.R_alloc | apply Kd.R_drewN | apply Kd.R_drew)); exact HO368.out) hb); have n6_ := Aside0.mk (below_step (by repeat (first | (with_reducible first | exact HB.out | apply below_alloc | apply pw_below_drewN | apply below_drew1) | exact HB.out)) hb); clear HO_9; clear HO_11; clear HO_13; clear HO_15; clear HO365; clear HO368; clear HB; have HO_9 := n0_; have HO_11 := n1_; have HO_13 := n2_; have HO_15 := n3_; have HO365 := n4_; have HO368 := n5_; have HB := n6_; clear n0_ n1_ n2_ n3_ n4_ n5_ n6_; (try clear hb); (try clear hb2); (try clear hk); (try clear hi)))
                    go_ret
                    exact ⟨by first | rfl | (simp [errW_none, errW_some] <;> rfl) | (simp [*, errW_none, errW_some] <;> rfl), by repeat (first | (with_reducible first | exact HB.out | apply below_alloc | apply pw_below_drewN | apply below_drew1) | exact HB.out)⟩
                  · replace c89 := Bool.eq_false_iff.mpr c89
                    subst c89
                    have H1 : (some false) = some r := by rw [if_neg (show ¬ (false = true) by decide)] at H; exact H
                    clear H
                    have H := H1
                    clear H1
                    obtain rfl := Option.some.inj H
                    obtain ⟨Ao100, co100, eo100⟩ := Kd.R_slice HO_9.out
                    subst eo100
                    obtain ⟨Ao101, co101, eo101⟩ := Kd.R_slice HO_11.out
                    subst eo101
                    go_wp2_with (first | ((with_reducible refine gate_callee (f := 25) rfl ?_); refine goesL_ (some 96) rfl rfl Try.func25 (by kernel_rfl) rfl #[.slice Ao100 t336.length co100, .slice Ao101 t340.length co101] rfl (by (try simp only [List.map_toArray, List.map_cons, List.map_nil]); first | done | rfl | (simp only [List.length_drop, List.length_take]; rfl)) ?_; (with_reducible refine (variorumref06_Same.calls kj11 _ _ t336 _ _ t340 true _ ?side1 ?side2 ?side3 ?side4 A80.out).mono ?_); (case side1 => repeat (first | exact (Kd.R_reads' HO_9.out).2.2 | (with_reducible refine Kd.C_alloc ?_ _) | (with_reducible refine Kd.C_drewN ?_ _) | (with_reducible refine Kd.C_drew ?_))); (case side2 => exact (Kd.R_reads' HO_9.out).2.1); (case side3 => repeat (first | exact (Kd.R_reads' HO_11.out).2.2 | (with_reducible refine Kd.C_alloc ?_ _) | (with_reducible refine Kd.C_drewN ?_ _) | (with_reducible refine Kd.C_drew ?_))); (case side4 => exact (Kd.R_reads' HO_11.out).2.1); rintro e w' ⟨rfl, ⟨nd, rfl⟩⟩; refine ⟨_, rfl, ?_⟩; obtain ⟨Ao102, co102, eo102⟩ := Kd.R_slice HO_13.out; subst eo102; obtain ⟨Ao103, co103, eo103⟩ := Kd.R_slice HO_15.out; subst eo103) | (go_at_call 25; (with_reducible refine (variorumref06_Same.calls kj11 _ _ t344 _ _ t348 true _ ?side1 ?side2 ?side3 ?side4 A83.out).mono ?_); (case side1 => repeat (first | exact (Kd.R_reads' HO_13.out).2.2 | (with_reducible refine Kd.C_alloc ?_ _) | (with_reducible refine Kd.C_drewN ?_ _) | (with_reducible refine Kd.C_drew ?_))); (case side2 => exact (Kd.R_reads' HO_13.out).2.1); (case side3 => repeat (first | exact (Kd.R_reads' HO_15.out).2.2 | (with_reducible refine Kd.C_alloc ?_ _) | (with_reducible refine Kd.C_drewN ?_ _) | (with_reducible refine Kd.C_drew ?_))); (case side4 => exact (Kd.R_reads' HO_15.out).2.1); rintro e w' ⟨rfl, ⟨nd, rfl⟩⟩) | (go_at_call 36; (with_reducible refine (edit_Nothing.calls a0 t363 _ A86.out).mono ?_); rintro e w104 ⟨v364, rfl, ho0, hb⟩; have n0_ := Aside0.mk (Kd.R_elder' (by (with_reducible repeat (first | apply Kd.R_alloc | apply Kd.R_drewN | apply Kd.R_drew)); exact HO_9.out) (Kd.R_base ho0) hb); have n1_ := Aside0.mk (Kd.R_elder' (by (with_reducible repeat (first | apply Kd.R_alloc | apply Kd.R_drewN | apply Kd.R_drew)); exact HO_11.out) (Kd.R_base ho0) hb); have n2_ := Aside0.mk (Kd.R_elder' (by (with_reducible repeat (first | apply Kd.R_alloc | apply Kd.R_drewN | apply Kd.R_drew)); exact HO_13.out) (Kd.R_base ho0) hb); have n3_ := Aside0.mk (Kd.R_elder' (by (with_reducible repeat (first | apply Kd.R_alloc | apply Kd.R_drewN | apply Kd.R_drew)); exact HO_15.out) (Kd.R_base ho0) hb); have n4_ := Aside0.mk (Kd.R_lower (Kd.R_new' (Kd.R_new' (Kd.R_new' (Kd.R_new' ho0 (Kd.R_lt (by (with_reducible repeat (first | apply Kd.R_alloc | apply Kd.R_drewN | apply Kd.R_drew)); exact HO_9.out))) (Kd.R_lt (by (with_reducible repeat (first | apply Kd.R_alloc | apply Kd.R_drewN | apply Kd.R_drew)); exact HO_11.out))) (Kd.R_lt (by (with_reducible repeat (first | apply Kd.R_alloc | apply Kd.R_drewN | apply Kd.R_drew)); exact HO_13.out))) (Kd.R_lt (by (with_reducible repeat (first | apply Kd.R_alloc | apply Kd.R_drewN | apply Kd.R_drew)); exact HO_15.out))) (below_size (by repeat (first | (with_reducible first | exact HB.out | apply below_alloc | apply pw_below_drewN | apply below_drew1) | exact HB.out)))); have n5_ := Aside0.mk (below_step (by repeat (first | (with_reducible first | exact HB.out | apply below_alloc | apply pw_below_drewN | apply below_drew1) | exact HB.out)) hb); clear HO_9; clear HO_11; clear HO_13; clear HO_15; clear HB; have HO_9 := n0_; have HO_11 := n1_; have HO_13 := n2_; have HO_15 := n3_; have HO365 := n4_; have HB := n5_; clear n0_ n1_ n2_ n3_ n4_ n5_; (try clear hb); (try clear hb2); (try clear hk); (try clear hi); (try clear ho0)) | (go_at_call 37; (with_reducible refine (variorumref06_Nothing.calls a0 t366 _ A87.out).mono ?_); rintro e w105 ⟨v367, rfl, ho0, hb⟩; have n0_ := Aside0.mk (Kd.R_elder' (by (with_reducible repeat (first | apply Kd.R_alloc | apply Kd.R_drewN | apply Kd.R_drew)); exact HO_9.out) (Kd.R_base ho0) hb); have n1_ := Aside0.mk (Kd.R_elder' (by (with_reducible repeat (first | apply Kd.R_alloc | apply Kd.R_drewN | apply Kd.R_drew)); exact HO_11.out) (Kd.R_base ho0) hb); have n2_ := Aside0.mk (Kd.R_elder' (by (with_reducible repeat (first | apply Kd.R_alloc | apply Kd.R_drewN | apply Kd.R_drew)); exact HO_13.out) (Kd.R_base ho0) hb); have n3_ := Aside0.mk (Kd.R_elder' (by (with_reducible repeat (first | apply Kd.R_alloc | apply Kd.R_drewN | apply Kd.R_drew)); exact HO_15.out) (Kd.R_base ho0) hb); have n4_ := Aside0.mk (Kd.R_elder' (by (with_reducible repeat (first | apply Kd.R_alloc | apply Kd.R_drewN | apply Kd.R_drew)); exact HO365.out) (Kd.R_base ho0) hb); have n5_ := Aside0.mk (Kd.R_lower (Kd.R_new' (Kd.R_new' (Kd.R_new' (Kd.R_new' (Kd.R_new' ho0 (Kd.R_lt (by (with_reducible repeat (first | apply Kd.R_alloc | apply Kd.R_drewN | apply Kd.R_drew)); exact HO_9.out))) (Kd.R_lt (by (with_reducible repeat (first | apply Kd.R_alloc | apply Kd.R_drewN | apply Kd.R_drew)); exact HO_11.out))) (Kd.R_lt (by (with_reducible repeat (first | apply Kd.R_alloc | apply Kd.R_drewN | apply Kd.R_drew)); exact HO_13.out))) (Kd.R_lt (by (with_reducible repeat (first | apply Kd.R_alloc | apply Kd.R_drewN | apply Kd.R_drew)); exact HO_15.out))) (Kd.R_lt (by (with_reducible repeat (first | apply Kd.R_alloc | apply Kd.R_drewN | apply Kd.R_drew)); exact HO365.out))) (below_size (by repeat (first | (with_reducible first | exact HB.out | apply below_alloc | apply pw_below_drewN | apply below_drew1) | exact HB.out)))); have n6_ := Aside0.mk (below_step (by repeat (first | (with_reducible first | exact HB.out | apply below_alloc | apply pw_below_drewN | apply below_drew1) | exact HB.out)) hb); clear HO_9; clear HO_11; clear HO_13; clear HO_15; clear HO365; clear HB; have HO_9 := n0_; have HO_11 := n1_; have HO_13 := n2_; have HO_15 := n3_; have HO365 := n4_; have HO368 := n5_; have HB := n6_; clear n0_ n1_ n2_ n3_ n4_ n5_ n6_; (try clear hb); (try clear hb2); (try clear hk); (try clear hi); (try clear ho0); obtain ⟨Ao106, co106, eo106⟩ := Kd.R_slice HO365.out; subst eo106; obtain ⟨Ao107, co107, eo107⟩ := Kd.R_slice HO368.out; subst eo107) | (go_at_call 25; (with_reducible refine (variorumref06_Same.calls kj11 _ _ t363 _ _ t366 false _ ?side1 ?side2 ?side3 ?side4 A88.out).mono ?_); (case side1 => repeat (first | exact (Kd.R_reads' HO365.out).2.2 | (with_reducible refine Kd.C_alloc ?_ _) | (with_reducible refine Kd.C_drewN ?_ _) | (with_reducible refine Kd.C_drew ?_))); (case side2 => exact (Kd.R_reads' HO365.out).2.1); (case side3 => repeat (first | exact (Kd.R_reads' HO368.out).2.2 | (with_reducible refine Kd.C_alloc ?_ _) | (with_reducible refine Kd.C_drewN ?_ _) | (with_reducible refine Kd.C_drew ?_))); (case side4 => exact (Kd.R_reads' HO368.out).2.1); rintro e w' ⟨rfl, ⟨nd, rfl⟩⟩))
                    go_ret
                    exact ⟨by first | rfl | (simp [errW_none, errW_some] <;> rfl) | (simp [*, errW_none, errW_some] <;> rfl), by repeat (first | (with_reducible first | exact HB.out | apply below_alloc | apply pw_below_drewN | apply below_drew1) | exact HB.out)⟩
                · rw [if_neg c85] at H
                  have c85b0 : (t345 == t349) = false := beq_eq_false_iff_ne.mpr c85
                  have c85b1 : (t345 != t349) = true := bne_iff_ne.mpr c85
                  obtain rfl := Option.some.inj H
                  obtain ⟨Ao108, co108, eo108⟩ := Kd.R_slice HO_9.out
                  subst eo108
                  obtain ⟨Ao109, co109, eo109⟩ := Kd.R_slice HO_11.out
                  subst eo109
                  go_wp2_with (first | ((with_reducible refine gate_callee (f := 25) rfl ?_); refine goesL_ (some 96) rfl rfl Try.func25 (by kernel_rfl) rfl #[.slice Ao108 t336.length co108, .slice Ao109 t340.length co109] rfl (by (try simp only [List.map_toArray, List.map_cons, List.map_nil]); first | done | rfl | (simp only [List.length_drop, List.length_take]; rfl)) ?_; (with_reducible refine (variorumref06_Same.calls kj11 _ _ t336 _ _ t340 true _ ?side1 ?side2 ?side3 ?side4 A80.out).mono ?_); (case side1 => repeat (first | exact (Kd.R_reads' HO_9.out).2.2 | (with_reducible refine Kd.C_alloc ?_ _) | (with_reducible refine Kd.C_drewN ?_ _) | (with_reducible refine Kd.C_drew ?_))); (case side2 => exact (Kd.R_reads' HO_9.out).2.1); (case side3 => repeat (first | exact (Kd.R_reads' HO_11.out).2.2 | (with_reducible refine Kd.C_alloc ?_ _) | (with_reducible refine Kd.C_drewN ?_ _) | (with_reducible refine Kd.C_drew ?_))); (case side4 => exact (Kd.R_reads' HO_11.out).2.1); rintro e w' ⟨rfl, ⟨nd, rfl⟩⟩; refine ⟨_, rfl, ?_⟩; obtain ⟨Ao110, co110, eo110⟩ := Kd.R_slice HO_13.out; subst eo110; obtain ⟨Ao111, co111, eo111⟩ := Kd.R_slice HO_15.out; subst eo111) | (go_at_call 25; (with_reducible refine (variorumref06_Same.calls kj11 _ _ t344 _ _ t348 true _ ?side1 ?side2 ?side3 ?side4 A83.out).mono ?_); (case side1 => repeat (first | exact (Kd.R_reads' HO_13.out).2.2 | (with_reducible refine Kd.C_alloc ?_ _) | (with_reducible refine Kd.C_drewN ?_ _) | (with_reducible refine Kd.C_drew ?_))); (case side2 => exact (Kd.R_reads' HO_13.out).2.1); (case side3 => repeat (first | exact (Kd.R_reads' HO_15.out).2.2 | (with_reducible refine Kd.C_alloc ?_ _) | (with_reducible refine Kd.C_drewN ?_ _) | (with_reducible refine Kd.C_drew ?_))); (case side4 => exact (Kd.R_reads' HO_15.out).2.1); rintro e w' ⟨rfl, ⟨nd, rfl⟩⟩))
                  go_ret
                  exact ⟨by first | rfl | (simp [errW_none, errW_some] <;> rfl) | (simp [*, errW_none, errW_some] <;> rfl), by repeat (first | (with_reducible first | exact HB.out | apply below_alloc | apply pw_below_drewN | apply below_drew1) | exact HB.out)⟩
              · replace c84 := Bool.eq_false_iff.mpr c84
                subst c84
                have H1 : (some false) = some r := by rw [if_neg (show ¬ (false = true) by decide)] at H; exact H
                clear H
                have H := H1
                clear H1
                obtain rfl := Option.some.inj H
                obtain ⟨Ao112, co112, eo112⟩ := Kd.R_slice HO_9.out
                subst eo112
                obtain ⟨Ao113, co113, eo113⟩ := Kd.R_slice HO_11.out
                subst eo113
                go_wp2_with (first | ((with_reducible refine gate_callee (f := 25) rfl ?_); refine goesL_ (some 96) rfl rfl Try.func25 (by kernel_rfl) rfl #[.slice Ao112 t336.length co112, .slice Ao113 t340.length co113] rfl (by (try simp only [List.map_toArray, List.map_cons, List.map_nil]); first | done | rfl | (simp only [List.length_drop, List.length_take]; rfl)) ?_; (with_reducible refine (variorumref06_Same.calls kj11 _ _ t336 _ _ t340 true _ ?side1 ?side2 ?side3 ?side4 A80.out).mono ?_); (case side1 => repeat (first | exact (Kd.R_reads' HO_9.out).2.2 | (with_reducible refine Kd.C_alloc ?_ _) | (with_reducible refine Kd.C_drewN ?_ _) | (with_reducible refine Kd.C_drew ?_))); (case side2 => exact (Kd.R_reads' HO_9.out).2.1); (case side3 => repeat (first | exact (Kd.R_reads' HO_11.out).2.2 | (with_reducible refine Kd.C_alloc ?_ _) | (with_reducible refine Kd.C_drewN ?_ _) | (with_reducible refine Kd.C_drew ?_))); (case side4 => exact (Kd.R_reads' HO_11.out).2.1); rintro e w' ⟨rfl, ⟨nd, rfl⟩⟩; refine ⟨_, rfl, ?_⟩; obtain ⟨Ao114, co114, eo114⟩ := Kd.R_slice HO_13.out; subst eo114; obtain ⟨Ao115, co115, eo115⟩ := Kd.R_slice HO_15.out; subst eo115) | (go_at_call 25; (with_reducible refine (variorumref06_Same.calls kj11 _ _ t344 _ _ t348 false _ ?side1 ?side2 ?side3 ?side4 A83.out).mono ?_); (case side1 => repeat (first | exact (Kd.R_reads' HO_13.out).2.2 | (with_reducible refine Kd.C_alloc ?_ _) | (with_reducible refine Kd.C_drewN ?_ _) | (with_reducible refine Kd.C_drew ?_))); (case side2 => exact (Kd.R_reads' HO_13.out).2.1); (case side3 => repeat (first | exact (Kd.R_reads' HO_15.out).2.2 | (with_reducible refine Kd.C_alloc ?_ _) | (with_reducible refine Kd.C_drewN ?_ _) | (with_reducible refine Kd.C_drew ?_))); (case side4 => exact (Kd.R_reads' HO_15.out).2.1); rintro e w' ⟨rfl, ⟨nd, rfl⟩⟩))
                go_ret
                exact ⟨by first | rfl | (simp [errW_none, errW_some] <;> rfl) | (simp [*, errW_none, errW_some] <;> rfl), by repeat (first | (with_reducible first | exact HB.out | apply below_alloc | apply pw_below_drewN | apply below_drew1) | exact HB.out)⟩
            · rw [if_neg c82] at H
              have c82b0 : (t337 == t341) = false := beq_eq_false_iff_ne.mpr c82
              have c82b1 : (t337 != t341) = true := bne_iff_ne.mpr c82
              obtain rfl := Option.some.inj H
              obtain ⟨Ao116, co116, eo116⟩ := Kd.R_slice HO_9.out
              subst eo116
              obtain ⟨Ao117, co117, eo117⟩ := Kd.R_slice HO_11.out
              subst eo117
              go_wp2_with (first | ((with_reducible refine gate_callee (f := 25) rfl ?_); refine goesL_ (some 96) rfl rfl Try.func25 (by kernel_rfl) rfl #[.slice Ao116 t336.length co116, .slice Ao117 t340.length co117] rfl (by (try simp only [List.map_toArray, List.map_cons, List.map_nil]); first | done | rfl | (simp only [List.length_drop, List.length_take]; rfl)) ?_; (with_reducible refine (variorumref06_Same.calls kj11 _ _ t336 _ _ t340 true _ ?side1 ?side2 ?side3 ?side4 A80.out).mono ?_); (case side1 => repeat (first | exact (Kd.R_reads' HO_9.out).2.2 | (with_reducible refine Kd.C_alloc ?_ _) | (with_reducible refine Kd.C_drewN ?_ _) | (with_reducible refine Kd.C_drew ?_))); (case side2 => exact (Kd.R_reads' HO_9.out).2.1); (case side3 => repeat (first | exact (Kd.R_reads' HO_11.out).2.2 | (with_reducible refine Kd.C_alloc ?_ _) | (with_reducible refine Kd.C_drewN ?_ _) | (with_reducible refine Kd.C_drew ?_))); (case side4 => exact (Kd.R_reads' HO_11.out).2.1); rintro e w' ⟨rfl, ⟨nd, rfl⟩⟩; refine ⟨_, rfl, ?_⟩))
              go_ret
              exact ⟨by first | rfl | (simp [errW_none, errW_some] <;> rfl) | (simp [*, errW_none, errW_some] <;> rfl), by repeat (first | (with_reducible first | exact HB.out | apply below_alloc | apply pw_below_drewN | apply below_drew1) | exact HB.out)⟩
          · replace c81 := Bool.eq_false_iff.mpr c81
            subst c81
            have H1 : (some false) = some r := by rw [if_neg (show ¬ (false = true) by decide)] at H; exact H
            clear H
            have H := H1
            clear H1
            obtain rfl := Option.some.inj H
            obtain ⟨Ao118, co118, eo118⟩ := Kd.R_slice HO_9.out
            subst eo118
            obtain ⟨Ao119, co119, eo119⟩ := Kd.R_slice HO_11.out
            subst eo119
            go_wp2_with (first | ((with_reducible refine gate_callee (f := 25) rfl ?_); refine goesL_ (some 96) rfl rfl Try.func25 (by kernel_rfl) rfl #[.slice Ao118 t336.length co118, .slice Ao119 t340.length co119] rfl (by (try simp only [List.map_toArray, List.map_cons, List.map_nil]); first | done | rfl | (simp only [List.length_drop, List.length_take]; rfl)) ?_; (with_reducible refine (variorumref06_Same.calls kj11 _ _ t336 _ _ t340 false _ ?side1 ?side2 ?side3 ?side4 A80.out).mono ?_); (case side1 => repeat (first | exact (Kd.R_reads' HO_9.out).2.2 | (with_reducible refine Kd.C_alloc ?_ _) | (with_reducible refine Kd.C_drewN ?_ _) | (with_reducible refine Kd.C_drew ?_))); (case side2 => exact (Kd.R_reads' HO_9.out).2.1); (case side3 => repeat (first | exact (Kd.R_reads' HO_11.out).2.2 | (with_reducible refine Kd.C_alloc ?_ _) | (with_reducible refine Kd.C_drewN ?_ _) | (with_reducible refine Kd.C_drew ?_))); (case side4 => exact (Kd.R_reads' HO_11.out).2.1); rintro e w' ⟨rfl, ⟨nd, rfl⟩⟩; refine ⟨_, rfl, ?_⟩))
            go_ret
            exact ⟨by first | rfl | (simp [errW_none, errW_some] <;> rfl) | (simp [*, errW_none, errW_some] <;> rfl), by repeat (first | (with_reducible first | exact HB.out | apply below_alloc | apply pw_below_drewN | apply below_drew1) | exact HB.out)⟩

/-- THE ONE PURE STATEMENT of variorumlaw06_EditMakes: yours. -/
def variorumlaw06_EditMakes.Pure : Prop := ∀ (a0 : Int) (a1 : Int) (a2 : Int) (a3 : ByteArray), (Lit.int .i64 a0).wf = true → (Lit.int .i64 a1).wf = true → (Lit.int .i64 a2).wf = true → a3.size ≤ 140737488351232 → ∃ k, variorumlaw06_EditMakes.f k a0 a1 a2 a3 = some true
theorem variorumlaw06_EditMakes.walk (P : variorumlaw06_EditMakes.Pure) (a0 : Int) (a1 : Int) (a2 : Int) (a3 : ByteArray) (w : World) (w0 : (Lit.int .i64 a0).wf = true) (w1 : (Lit.int .i64 a1).wf = true) (w2 : (Lit.int .i64 a2).wf = true) (w3 : a3.size ≤ 140737488351232) :
    Calls Try.prog 7 #[.int .i64 a0, .int .i64 a1, .int .i64 a2, .string a3] w fun e w' => e = .returned (.bool true) ∧ Below w.heap.size w w' := by
  obtain ⟨k, h⟩ := P a0 a1 a2 a3 w0 w1 w2 w3
  refine (variorumlaw06_EditMakes.calls k a0 a1 a2 a3 true w h).mono ?_
  rintro e w' ⟨rfl, hd⟩
  exact ⟨rfl, hd⟩

end Go.Proofs.Ythocalfgeaclgaa.P
end
-- MERGED YthocalfgeaclgaaPureEditMakes
section
/- Any insertion, any deletion, and what leaves bytes as they are, is the edit that the document says, or is refused: for every three numbers and every string; no condition. -/
namespace Go.Proofs.Ythocalfgeaclgaa.Pure
open Go.RowKit Go.Proofs.Ythocalfgeaclgaa.P Go.Proofs.YthocalfgeaclgaaW.PrintWords Go.Proofs.YthocalfgeaclgaaW.PrintLast Go.Proofs.YthocalfgeaclgaaW.PrintMore Go.Proofs.Ythocalfgeaclgaa.EditL Go.Proofs.Ythocalfgeaclgaa.EditK Go.Proofs.Ythocalfgeaclgaa.EditF Go.Proofs.Ythocalfgeaclgaa.EditG Go.Proofs.Ythocalfgeaclgaa.EditH Go.Proofs.Ythocalfgeaclgaa.EditMk
theorem EditMakes : variorumlaw06_EditMakes.Pure := by
  intro n at_ many s _ _ _ _
  refine ⟨70000, ?_⟩
  have hlv : ∀ k, 40 ≤ k → ((variorumlaw06_lives.f k).bind fun t => some t) = some true := fun k hk => by rw [lives_f k hk]; rfl
  unfold variorumlaw06_EditMakes.f
  by_cases hs : (s.size : Int) > 2000
  · rw [if_pos hs]; exact hlv _ (by decide)
  · rw [if_neg hs, insert_f n at_ s _ (by decide), Option.bind_some, rinsert_f n at_ s _ (by decide), Option.bind_some, delete_f n at_ many _ (by decide), Option.bind_some, rdelete_f n at_ many _ (by decide), Option.bind_some]
    have hI := ins_law n at_ s
    have hD := del_law n at_ many
    have lI := ins_len n at_ s
    have lD := del_len n at_ many
    obtain ⟨I, hIe⟩ : ∃ I, I = insL n at_ s := ⟨_, rfl⟩
    obtain ⟨D, hDe⟩ : ∃ D, D = delL n at_ many := ⟨_, rfl⟩
    have hn2 : I.2 = 0 → n ≤ 16777216 ∧ 0 ≤ n := by
      rw [hIe]
      unfold insL
      by_cases h1 : n < 0 ∨ 16777216 < n
      · rw [if_pos h1]; intro h; cases h
      · intro _; omega
    rw [← hIe] at hI lI ⊢
    rw [← hDe] at hD lD ⊢
    have last : variorumlaw06_EditMakes.j0 70000 n I.1 I.2 I.1 I.2 D.1 D.2 D.1 D.2 false = some true := by
      obtain ⟨l, n1, n2, nl, _⟩ := nothing_f n
      rw [show (70000 : Nat) = 69999 + 1 from rfl]
      simp only [variorumlaw06_EditMakes.j0]
      rw [if_neg Bool.false_ne_true, same_eq I.1 (by omega) 69999 (by omega), Option.bind_some, if_pos rfl, if_pos trivial, same_eq D.1 (by omega) 69999 (by omega), Option.bind_some, if_pos rfl, if_pos trivial, n1, Option.bind_some, n2, Option.bind_some, same_eq l (by omega) 69999 (by omega), Option.bind_some, if_pos rfl]
      exact hlv _ (by decide)
    have gi : ∀ l : List Rn, l.length ≤ 65536 → good l = true → edit_Good.f 70000 l = some true := fun l hl h => by rw [good_f (by omega) _ (by omega), h]
    have ii : ∀ l : List Rn, l.length ≤ 65536 → good l = true → edit_In.f 70000 l = some (inL l) := fun l hl h => by rw [in_f (by omega) _ (by omega), if_pos h]
    have oo : ∀ l : List Rn, l.length ≤ 65536 → good l = true → edit_Out.f 70000 l = some (outL l) := fun l hl h => by rw [out_f (by omega) _ (by omega), if_pos h]
    by_cases h1 : I.2 = 0
    · obtain ⟨a1, a2, a3⟩ := hI h1
      have hnb := hn2 h1
      rw [if_pos h1, gi _ lI a1, Option.bind_some, if_pos rfl, ii _ lI a1, Option.bind_some, if_pos a2, oo _ lI a1, Option.bind_some, if_pos (by rw [a3, w64 (by omega) (by omega)])]
      by_cases h2 : D.2 = 0
      · obtain ⟨b1, b2, b3, b4, b5⟩ := hD h2
        rw [if_pos h2, gi _ lD b1, Option.bind_some, if_pos rfl, ii _ lD b1, Option.bind_some, if_pos b2, oo _ lD b1, Option.bind_some, b3, w64 b4 b5, show (n - many != n - many) = false by simp]
        exact last
      · rw [if_neg h2]
        exact last
    · rw [if_neg h1]
      by_cases h2 : D.2 = 0
      · obtain ⟨b1, b2, b3, b4, b5⟩ := hD h2
        rw [if_pos h2, gi _ lD b1, Option.bind_some, if_pos rfl, ii _ lD b1, Option.bind_some, if_pos b2, oo _ lD b1, Option.bind_some, b3, w64 b4 b5, show (n - many != n - many) = false by simp]
        exact last
      · rw [if_neg h2]
        exact last
end Go.Proofs.Ythocalfgeaclgaa.Pure
end
-- MERGED YthocalfgeaclgaaLawEditMakes
section
-- Written by wip/myprint.py of this session, over the kit's print.py: a Lean function for each Go function, and the proof that the code comes to it.
namespace Go.Proofs.Ythocalfgeaclgaa.editMakes
open Go.ChangeShapes Go.WideShapes Go.ChangeAt Go.RowKit
open Go.ChangeMaps (open_string shut_string)
set_option linter.unusedVariables false
theorem own : ownKnob Try.prog.godebug = none := by kernel_rfl
set_option maxRecDepth 100000 in
theorem lifted (os : Os) (started : os.Started) (H : Type) (enc : TypeId × Value → H) :
    ReturnsInHanded {} Try.checked os 7 .any (Rows.editMakesSpec.pre6 enc Try.prog Try.f7 Rows.editMakesRow.domain false) (Rows.editMakesSpec.post enc Try.prog Try.f7 false true false false) := by
  refine returnsInHanded_of_change_sized (C := Try.checked) own started (by kernel_rfl) Try.func7
    (ChangeSpec.witness6 (enc := enc) (C := Try.checked) false ⟨#[], #[.int .i64 0, .int .i64 0, .int .i64 0, .string ByteArray.empty], []⟩ 8 (by kernel_rfl) (by kernel_rfl) (by kernel_rfl) (by kernel_rfl)) ?_
  intro W base args ds gs before hval0 hW hcnd hsz0 _
  have hsz : (DataW.weightsEach Try.prog (Try.f7.params.toList ++ Rows.editMakesSpec.plain.varTypes Try.prog) (ds ++ gs)).all (· ≤ reachBytes) = true := hsz0
  have hval : ∀ (j : Nat) t v, Try.f7.params[j]? = some t → args[j]? = some v → Value.okWide Try.prog W .any base t v := hval0
  have hW' := hW
  obtain ⟨p, q, hA0, hV, rfl, hfz, hnd⟩ := hW
  have hA : DataW.TrodAll enc Try.prog W 0 (fun _ => true) true Try.f7.params.toList args.toList ds p := hA0
  rw [Try.params7] at hA hval hsz
  obtain ⟨v0, vs0, d0, ds0, p0, q0, hargs, rfl, rfl, h0, r0⟩ := trodAll_cons hA
  obtain ⟨v1, vs1, d1, ds1, p1, q1, rfl, rfl, rfl, h1, r1⟩ := trodAll_cons r0
  obtain ⟨v2, vs2, d2, ds2, p2, q2, rfl, rfl, rfl, h2, r2⟩ := trodAll_cons r1
  obtain ⟨v3, vs3, d3, ds3, p3, q3, rfl, rfl, rfl, h3, r3⟩ := trodAll_cons r2
  obtain ⟨rfl, rfl, rfl⟩ := trodAll_nil r3
  obtain rfl : args = #[v0, v1, v2, v3] := by cases args; simp_all
  obtain ⟨rfl, rfl⟩ := trodVars_none hV
  obtain ⟨a0, rfl, rfl, rfl, w0⟩ := open_int Try.underlying3 (hval 0 3 v0 rfl rfl) h0
  obtain ⟨a1, rfl, rfl, rfl, w1⟩ := open_int Try.underlying3 (hval 1 3 v1 rfl rfl) h1
  obtain ⟨a2, rfl, rfl, rfl, w2⟩ := open_int Try.underlying3 (hval 2 3 v2 rfl rfl) h2
  obtain ⟨a3, rfl, rfl, rfl, y3⟩ := open_string Try.underlying9 (hval 3 9 v3 rfl rfl) h3
  have w3 : a3.size ≤ 140737488351232 := by
    have z := sized_string hsz (j := 3) (t := 9) rfl rfl
    rw [Array.length_toList] at z
    exact z
  clear hA0 hval0 hsz0 hsz
  refine (P.variorumlaw06_EditMakes.walk Pure.EditMakes a0 a1 a2 a3 W w0 w1 w2 w3).mono fun e W' ⟨he, bel⟩ => ?_
  subst he
  exact ⟨_, rfl, _, _, _, [], _, [], hW', trodAll_mk1 (shut_bool Try.underlying4 _), (trodAll_cons_mk (shut_int Try.underlying3 w0) (trodAll_cons_mk (shut_int Try.underlying3 w1) (trodAll_cons_mk (shut_int Try.underlying3 w2) (trodAll_cons_mk (shut_string Try.underlying9 y3) trodAll_mk0)))), rfl, bel.frame _, fun h => by cases h⟩
theorem over : Rows.editMakesRow.holds Try.pinned (OpenSpec.ofChange Rows.editMakesSpec) :=
  OpenClaim.holds_of_wide 7 Try.f7 rfl rfl rfl rfl rfl rfl rfl ⟨rfl, rfl, rfl, rfl, rfl⟩ rfl rfl rfl rfl rfl (by kernel_rfl) Try.func7 (by kernel_rfl)
    (of_decide_eq_true (by kernel_rfl)) (by unfold Func.isWrapper; first | (rw [if_pos (by decide +kernel)]; kernel_rfl) | (rw [if_neg (by decide +kernel)]; exact ⟨rfl, rfl⟩))
    (fun os started H enc _ => lifted os started H enc)
theorem proved : Rows.EditMakesSaid := over
#print axioms proved
end Go.Proofs.Ythocalfgeaclgaa.editMakes
namespace Go.Proofs.Ythocalfgeaclgaa
/-- The row, under a short name, for the claim. -/
theorem editMakes_holds : Rows.EditMakesSaid := editMakes.proved
end Go.Proofs.Ythocalfgeaclgaa
end

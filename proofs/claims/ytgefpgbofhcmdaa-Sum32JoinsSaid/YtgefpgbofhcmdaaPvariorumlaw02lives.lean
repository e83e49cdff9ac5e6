-- Written by wip/myprint.py of this session, over the kit's print.py: a Lean function for each Go function, and the proof that the code comes to it.
import Derived.Test.YtgefpgbofhcmdaaPBase
import Derived.Test.YtgefpgbofhcmdaaPsum32Sum
import Derived.Test.YtgefpgbofhcmdaaSum
import Derived.Test.YtgefpgbofhcmdaaOwn
namespace Go.Proofs.Ytgefpgbofhcmdaa.P
open Go.RowKit Go.Proofs.YtgefpgbofhcmdaaW.PrintWords Go.Proofs.YtgefpgbofhcmdaaW.PrintLast Go.Proofs.YtgefpgbofhcmdaaW.PrintMore
attribute [local go_sem] max2_int min2_int max_two min_two max_three min_three max_four min_four   -- for this text's walks alone
set_option linter.unusedVariables false
set_option linter.unusedSimpArgs false

/-! ### variorumlaw02_lives: function 13 -/
-- NEEDS Derived.Test.YtgefpgbofhcmdaaSum
-- NEEDS Derived.Test.YtgefpgbofhcmdaaOwn
def variorumlaw02_lives.f : Option (Bool) := some true
set_option maxHeartbeats 1000000 in
set_option maxRecDepth 100000 in
theorem variorumlaw02_lives.calls (r : Bool) (w : World) (h : variorumlaw02_lives.f = some r) :
    Calls Try.prog 13 #[] w fun e w' => e = .returned (.bool r) ∧ Below w.heap.size w w' := by
  obtain rfl : true = r := Option.some.inj h
  obtain ⟨k1, hk1⟩ : ∃ k, sum32_Sum.f k [] = some 0 := by obtain ⟨k, h⟩ := SumF.sum_some [] (by simp); rw [SumF.sum_nil] at h; exact ⟨k, h⟩
  obtain ⟨k2, hk2⟩ : ∃ k, sum32_Sum.f k [49, 50, 51, 52, 53, 54, 55, 56, 57] = some 3808858755 := by obtain ⟨k, h⟩ := SumF.sum_some [49, 50, 51, 52, 53, 54, 55, 56, 57] (by simp); rw [SumF.sum_nine] at h; exact ⟨k, h⟩
  have K1 := Aside0.mk hk1
  have K2 := Aside0.mk hk2
  clear hk1 hk2
  have kc := fun (nd : Nat) (C : Array Value) (n c : Nat) => Joins.run_convert_bytes_const_at (P := Try.prog) (w.drewN nd) 22 5 C n c w.heap.size rfl Try.underlying22 Try.underlying5
  go_enter Try.func13, Try.ntmps13
  go_wp2_with fail
  refine (sum32_Sum.calls k1 none 0 [] 0 _ (Kd.C_nil _ _) (Nat.le_refl _) K1.out).mono ?_
  rintro e w' ⟨rfl, ⟨nd, rfl⟩⟩
  go_wp2_with fail
  refine (sum32_Sum.calls k2 (some ⟨w.heap.size, 0, none⟩) 9 [49, 50, 51, 52, 53, 54, 55, 56, 57] 3808858755 _ (Own.C_of_lit .u8 _ (Own.heap_new_drewN w nd _) rfl (by decide)) (by decide) K2.out).mono ?_
  rintro e w' ⟨rfl, ⟨nd2, rfl⟩⟩
  go_wp2_with fail
  go_ret
  exact ⟨rfl, pw_below_drewN (below_alloc (pw_below_drewN (Below.refl _ w) nd) _) nd2⟩

end Go.Proofs.Ytgefpgbofhcmdaa.P

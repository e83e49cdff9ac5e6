-- Written by wip/myprint.py of this session, over the kit's print.py: a Lean function for each Go function, and the proof that the code comes to it.
import Derived.Test.YtedfcjcnhgomoaaPBase
import Derived.Test.YtedfcjcnhgomoaaPsum32Sum
import Derived.Test.YtedfcjcnhgomoaaSum
import Derived.Test.YtedfcjcnhgomoaaOwn
namespace Go.Proofs.Ytedfcjcnhgomoaa.P
open Go.RowKit Go.Proofs.YtedfcjcnhgomoaaW.PrintWords Go.Proofs.YtedfcjcnhgomoaaW.PrintLast Go.Proofs.YtedfcjcnhgomoaaW.PrintMore
attribute [local go_sem] max2_int min2_int max_two min_two max_three min_three max_four min_four   -- for this text's walks alone
set_option linter.unusedVariables false
set_option linter.unusedSimpArgs false

/-! ### sum32_Seal: function 39 -/
-- NEEDS Derived.Test.YtedfcjcnhgomoaaSum
-- NEEDS Derived.Test.YtedfcjcnhgomoaaOwn
def sum32_Seal.f (l0 : List Int) : Option (List Int) := if l0.length + 4 < 140737488355328 then some (l0 ++ Crc.le4 (Crc.sum l0)) else none
set_option maxHeartbeats 1000000 in
set_option maxRecDepth 100000 in
theorem sum32_Seal.calls (A0 : Option Addr) (c0 : Nat) (l0 : List Int) (r : List Int) (w : World) (hr0 : Kd.C (Kd.int .u8) w A0 l0.length l0) (hc0 : l0.length ≤ c0) (h : sum32_Seal.f l0 = some r) :
    Calls Try.prog 39 #[.slice A0 l0.length c0] w fun e w' => ∃ v0_ : Value, e = .returned (v0_) ∧ Kd.R (Kd.int .u8) 5 w' w.heap.size (fun _ => True) v0_ r ∧ Below w.heap.size w w' := by
  unfold sum32_Seal.f at h
  by_cases hlen : l0.length + 4 < 140737488355328
  · rw [if_pos hlen] at h
    obtain rfl := Option.some.inj h
    obtain ⟨k, hk⟩ := SumF.sum_some l0 (by omega)
    have K1 := Aside0.mk hk
    have HR0 := Aside0.mk hr0
    have HC0 := Aside0.mk hc0
    have HL := Aside0.mk hlen
    clear hk hr0 hc0 h hlen
    go_enter Try.func39, Try.ntmps39
    go_wp2_with fail
    refine (sum32_Sum.calls k A0 c0 l0 _ _ HR0.out HC0.out K1.out).mono ?_
    rintro e w' ⟨rfl, ⟨nd, rfl⟩⟩
    have hn := Own.heap_new_drewN w nd
    have hcap : l0.length ≤ c0 := HC0.out
    go_wp2_with (at_builtin; refine Own.append_full .u8 rfl (.tmp 11) (.tmp 23) 25 5 1 rfl Try.underlying25 info5 A0 l0.length l0 rfl ?hx (some ⟨w.heap.size, 0, none⟩) 4 4 (Crc.le4 (Crc.sum l0)) rfl ?hy (by decide) ?b1 ?b2 ?_)
    case hx => exact Kd.C_alloc (Kd.C_drewN HR0.out nd) _
    case hy => exact Own.C_of_lit .u8 _ (hn _) rfl (by simp [Crc.le4])
    case b1 => have := HL.out; unfold maxLen; omega
    case b2 => have := HL.out; omega
    intro v' w' ho hb
    go_wp2_with fail
    go_ret
    exact ⟨v', rfl, Kd.R_lower ho (by simp), Own.below_after (below_alloc (pw_below_drewN (Below.refl _ w) nd) _) hb (by simp) (by simp)⟩
  · rw [if_neg hlen] at h; cases h

end Go.Proofs.Ytedfcjcnhgomoaa.P

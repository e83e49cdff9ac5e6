-- Written by wip/myprint.py of this session, over the kit's print.py: a Lean function for each Go function, and the proof that the code comes to it.
import Derived.Test.YtedfcjcnhgomoaaPBase
import Derived.Test.YtedfcjcnhgomoaaPsum32Seal
import Derived.Test.YtedfcjcnhgomoaaOwn
import Derived.Test.YtedfcjcnhgomoaaCrc
import Derived.Deep.RegionWith
namespace Go.Proofs.Ytedfcjcnhgomoaa.P
open Go.RowKit Go.Proofs.YtedfcjcnhgomoaaW.PrintWords Go.Proofs.YtedfcjcnhgomoaaW.PrintLast Go.Proofs.YtedfcjcnhgomoaaW.PrintMore
attribute [local go_sem] max2_int min2_int max_two min_two max_three min_three max_four min_four   -- for this text's walks alone
set_option linter.unusedVariables false
set_option linter.unusedSimpArgs false

/-! ### sum32_Open: function 50 -/
-- NEEDS Derived.Test.YtedfcjcnhgomoaaOwn
-- NEEDS Derived.Test.YtedfcjcnhgomoaaCrc
-- NEEDS Derived.Deep.RegionWith
def sum32_Open.f (l0 : List Int) : Option (List Int × Bool) := if l0.length ≤ 140737488355000 then (if 4 ≤ l0.length ∧ (strOfNums (l0.take (l0.length - 4) ++ Crc.le4 (Crc.sum (l0.take (l0.length - 4))))).toList = (strOfNums l0).toList then some (l0.take (l0.length - 4), true) else some ([], false)) else none
set_option maxHeartbeats 1000000 in
set_option maxRecDepth 100000 in
theorem sum32_Open.short (A0 : Option Addr) (c0 : Nat) (l0 : List Int) (w : World) (h4 : l0.length < 4) :
    Calls Try.prog 50 #[.slice A0 l0.length c0] w fun e w' => e = .returned (.tuple #[.slice none 0 0, .bool false]) ∧ Drawn0 w w' := by
  have g1 : (l0.length : Int) - 4 < 0 := by omega
  go_enter Try.func50, Try.ntmps50
  go_wp2_with fail
  go_quiet (fail)
  go_wp2_with fail
  go_ret2
  exact ⟨rfl, ⟨_, rfl⟩⟩
set_option maxHeartbeats 8000000 in
set_option maxRecDepth 100000 in
theorem sum32_Open.calls (P0_ : Nat → Prop) (A0 : Option Addr) (c0 : Nat) (l0 : List Int) (r1 : List Int) (r2 : Bool) (w : World) (hs0 : Kd.V (Kd.int .u8) 5 w w.heap.size (fun k_ => P0_ k_) (.slice A0 l0.length c0) l0) (h : sum32_Open.f l0 = some (r1, r2)) :
    Calls Try.prog 50 #[.slice A0 l0.length c0] w fun e w' => ∃ v0_ : Value, e = .returned (.tuple #[v0_, .bool r2]) ∧ Kd.V (Kd.int .u8) 5 w' w.heap.size (fun k_ => (P0_ k_ ∨ w.heap.size ≤ k_)) v0_ r1 ∧ Below w.heap.size w w' := by
  unfold sum32_Open.f at h
  by_cases hlen : l0.length ≤ 140737488355000
  · rw [if_pos hlen] at h
    have hcap : l0.length ≤ c0 := (Kd.V_reads' hs0).2.1
    have HS := Aside0.mk hs0
    by_cases h4 : 4 ≤ l0.length
    · have g1 : decide ((l0.length : Int) - 4 < 0) = false := by simp; omega
      have g2 : (0 : Int) ≤ (l0.length : Int) - 4 := by omega
      have g3 : (l0.length : Int) - 4 ≤ (l0.length : Int) := by omega
      obtain ⟨i0, hi0, _, hsz, _⟩ := info_parts info5
      have hcut := cut_to (P := Try.prog) 25 5 .i64 Try.underlying25 hi0 A0 l0.length c0 ((l0.length : Int) - 4) g2 g3 hcap
      have htn : ((l0.length : Int) - 4).toNat = l0.length - 4 := by omega
      rw [htn] at hcut
      have htl : (l0.take (l0.length - 4)).length = l0.length - 4 := by rw [List.length_take]; omega
      obtain ⟨p, hp⟩ : ∃ p, p = l0.take (l0.length - 4) := ⟨_, rfl⟩
      rw [← hp] at htl h
      have hCp : ∀ W, Kd.C (Kd.int .u8) W A0 l0.length l0 → Kd.C (Kd.int .u8) W A0 p.length p := fun W hW => by rw [htl, hp]; exact Own.C_take hW _ (by omega)
      rw [← htl] at hcut
      have HP := Aside0.mk hp
      have HT := Aside0.mk htl
      clear hp htl htn hi0 hsz
      have hcv : ∀ W, Below w.heap.size w W → (convert 25 9 (.slice A0 l0.length c0)).run Try.prog W = .ok (.string (strOfNums l0)) W := fun W hW =>
        Kd.C_string Try.underlying25 Try.underlying5 Try.underlying9 (Kd.C_below (Kd.V_reads' HS.out).2.2 hW)
      have hb0 := Below.refl w.heap.size w
      have hbd : Below w.heap.size w w.drew := below_drew1 hb0
      have hs : sum32_Seal.f p = some (p ++ Crc.le4 (Crc.sum p)) := by unfold sum32_Seal.f; rw [if_pos (by have := HT.out; omega)]
      have A1 := Aside0.mk hs
      clear hs
      have hF : ∀ W, Below w.heap.size w W → Kd.V (Kd.int .u8) 5 W w.heap.size (fun k_ => (P0_ k_ ∨ w.heap.size ≤ k_)) (.slice A0 p.length c0) p := fun W hW => by
        refine Kd.V_mk (by have := HT.out; omega) ?_
        have h1 := Kd.F_take (m := l0.length - 4) (Kd.V_at HS.out).2.2 (by omega)
        rw [← HP.out] at h1
        exact Kd.F_mono (Kd.F_below h1 hW) (fun _ h => .inl h)
      by_cases he : (strOfNums (p ++ Crc.le4 (Crc.sum p))).toList = (strOfNums l0).toList
      · rw [if_pos ⟨h4, he⟩] at h
        simp only [Option.some.injEq, Prod.mk.injEq] at h
        obtain ⟨rfl, rfl⟩ := h
        have hq : ((strOfNums (p ++ Crc.le4 (Crc.sum p))).toList == (strOfNums l0).toList) = true := beq_iff_eq.mpr he
        clear he
        go_enter Try.func50, Try.ntmps50
        go_wp2_with fail
        go_region_with (go_at_call 39; refine (sum32_Seal.calls A0 c0 p _ _ ?_ ?_ A1.out).mono ?_; exact hCp _ (Kd.C_below (Kd.V_reads' HS.out).2.2 hbd); (have := HT.out; omega); rintro e w' ⟨v, rfl, ho, hb⟩; have hb1 : Below w.heap.size w w' := below_step hbd hb; have hcv1 := own_string (P := Try.prog) Try.underlying25 Try.underlying5 Try.underlying9 (Kd.own_of_R ho))
        all_goals (go_wp2_with fail; go_ret2; exact ⟨_, rfl, hF _ (by assumption), by assumption⟩)
      · rw [if_neg (fun h => he h.2)] at h
        simp only [Option.some.injEq, Prod.mk.injEq] at h
        obtain ⟨rfl, rfl⟩ := h
        have hq : ((strOfNums (p ++ Crc.le4 (Crc.sum p))).toList == (strOfNums l0).toList) = false := beq_eq_false_iff_ne.mpr he
        clear he
        go_enter Try.func50, Try.ntmps50
        go_wp2_with fail
        go_region_with (go_at_call 39; refine (sum32_Seal.calls A0 c0 p _ _ ?_ ?_ A1.out).mono ?_; exact hCp _ (Kd.C_below (Kd.V_reads' HS.out).2.2 hbd); (have := HT.out; omega); rintro e w' ⟨v, rfl, ho, hb⟩; have hb1 : Below w.heap.size w w' := below_step hbd hb; have hcv1 := own_string (P := Try.prog) Try.underlying25 Try.underlying5 Try.underlying9 (Kd.own_of_R ho))
        all_goals (go_wp2_with fail; go_ret2; exact ⟨_, rfl, Kd.V_nil _ _ _ _ _, by assumption⟩)
    · rw [if_neg (fun h => h4 h.1)] at h
      simp only [Option.some.injEq, Prod.mk.injEq] at h
      obtain ⟨rfl, rfl⟩ := h
      refine (sum32_Open.short A0 c0 l0 w (by omega)).mono ?_
      rintro e w' ⟨rfl, hd⟩
      exact ⟨_, rfl, Kd.V_nil _ _ _ _ _, hd.below⟩
  · rw [if_neg hlen] at h; cases h

end Go.Proofs.Ytedfcjcnhgomoaa.P

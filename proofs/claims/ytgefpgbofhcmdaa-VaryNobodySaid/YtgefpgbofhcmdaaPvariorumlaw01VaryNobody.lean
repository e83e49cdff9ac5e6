-- Written by wip/myprint.py of this session, over the kit's print.py: a Lean function for each Go function, and the proof that the code comes to it.
import Derived.Test.YtgefpgbofhcmdaaPBase
import Derived.Test.YtgefpgbofhcmdaaVaryLives
namespace Go.Proofs.Ytgefpgbofhcmdaa.P
open Go.RowKit Go.Proofs.YtgefpgbofhcmdaaW.PrintWords Go.Proofs.YtgefpgbofhcmdaaW.PrintLast Go.Proofs.YtgefpgbofhcmdaaW.PrintMore
attribute [local go_sem] max2_int min2_int max_two min_two max_three min_three max_four min_four   -- for this text's walks alone
set_option linter.unusedVariables false
set_option linter.unusedSimpArgs false

/-! ### variorumlaw01_VaryNobody: function 12 -/
-- NEEDS Derived.Test.YtgefpgbofhcmdaaVaryLives
/-- A reader that no call made. -/
def variorumlaw01_VaryNobody.Nob (w : World) (p : Value) : Prop := p = .pointer none ∨ ∃ g, p = .pointer (some ⟨g, 0, none⟩) ∧ w.cell? ⟨g, 3, none⟩ = some (.bool false)
set_option maxHeartbeats 1000000 in
theorem variorumlaw01_VaryNobody.bad (w : World) (p : Value) (h : variorumlaw01_VaryNobody.Nob w p) :
    Calls Try.prog 33 #[p] w fun e w' => e = .returned (.bool true) ∧ w' = w := by
  rcases h with rfl | ⟨g, rfl, hc⟩
  · go_enter Try.func33, Try.ntmps33
    go_wp2_with fail
    go_ret
    exact ⟨rfl, rfl⟩
  · go_enter Try.func33, Try.ntmps33
    go_wp2_with fail
    go_ret
    exact ⟨rfl, rfl⟩
set_option maxHeartbeats 1000000 in
theorem variorumlaw01_VaryNobody.rdInt (F : Nat) (w : World) (p : Value) (h : variorumlaw01_VaryNobody.Nob w p) :
    Calls Try.prog 46 #[p, .func (.func F) #[] #[]] w fun e w' => e = .returned (.int .i64 0) ∧ w' = w := by
  have H := Aside0.mk h
  clear h
  go_enter Try.func46, Try.ntmps46
  go_wp2_with fail
  refine (variorumlaw01_VaryNobody.bad _ p H.out).mono ?_
  rintro e w' ⟨rfl, rfl⟩
  go_wp2_with fail
  go_ret
  exact ⟨rfl, rfl⟩
set_option maxHeartbeats 1000000 in
theorem variorumlaw01_VaryNobody.rdStr (F : Nat) (w : World) (p : Value) (h : variorumlaw01_VaryNobody.Nob w p) :
    Calls Try.prog 51 #[p, .func (.func F) #[] #[]] w fun e w' => e = .returned (.string ⟨#[]⟩) ∧ w' = w := by
  have H := Aside0.mk h
  clear h
  go_enter Try.func51, Try.ntmps51
  go_wp2_with fail
  refine (variorumlaw01_VaryNobody.bad _ p H.out).mono ?_
  rintro e w' ⟨rfl, rfl⟩
  go_wp2_with fail
  go_ret
  exact ⟨rfl, rfl⟩
set_option maxHeartbeats 1000000 in
theorem variorumlaw01_VaryNobody.num (w : World) (p : Value) (h : variorumlaw01_VaryNobody.Nob w p) :
    Calls Try.prog 31 #[p] w fun e w' => e = .returned (.int .i64 0) ∧ w' = w := by
  have H := Aside0.mk h
  clear h
  go_enter Try.func31, Try.ntmps31
  go_wp2_with fail
  refine (variorumlaw01_VaryNobody.rdInt _ _ p H.out).mono ?_
  rintro e w' ⟨rfl, rfl⟩
  go_wp2_with fail
  go_ret
  exact ⟨rfl, rfl⟩
set_option maxHeartbeats 1000000 in
theorem variorumlaw01_VaryNobody.signed (w : World) (p : Value) (h : variorumlaw01_VaryNobody.Nob w p) :
    Calls Try.prog 34 #[p] w fun e w' => e = .returned (.int .i64 0) ∧ w' = w := by
  have H := Aside0.mk h
  clear h
  go_enter Try.func34, Try.ntmps34
  go_wp2_with fail
  refine (variorumlaw01_VaryNobody.rdInt _ _ p H.out).mono ?_
  rintro e w' ⟨rfl, rfl⟩
  go_wp2_with fail
  go_ret
  exact ⟨rfl, rfl⟩
set_option maxHeartbeats 1000000 in
theorem variorumlaw01_VaryNobody.text (w : World) (p : Value) (h : variorumlaw01_VaryNobody.Nob w p) :
    Calls Try.prog 35 #[p] w fun e w' => e = .returned (.string ⟨#[]⟩) ∧ w' = w := by
  have H := Aside0.mk h
  clear h
  go_enter Try.func35, Try.ntmps35
  go_wp2_with fail
  refine (variorumlaw01_VaryNobody.rdStr _ _ p H.out).mono ?_
  rintro e w' ⟨rfl, rfl⟩
  go_wp2_with fail
  go_ret
  exact ⟨rfl, rfl⟩
set_option maxHeartbeats 1000000 in
theorem variorumlaw01_VaryNobody.left (w : World) (p : Value) (h : variorumlaw01_VaryNobody.Nob w p) :
    Calls Try.prog 32 #[p] w fun e w' => e = .returned (.int .i64 0) ∧ w' = w := by
  have H := Aside0.mk h
  clear h
  go_enter Try.func32, Try.ntmps32
  go_wp2_with fail
  refine (variorumlaw01_VaryNobody.bad _ p H.out).mono ?_
  rintro e w' ⟨rfl, rfl⟩
  go_wp2_with fail
  go_ret
  exact ⟨rfl, rfl⟩
set_option maxHeartbeats 1000000 in
theorem variorumlaw01_VaryNobody.done (w : World) (p : Value) (h : variorumlaw01_VaryNobody.Nob w p) :
    Calls Try.prog 39 #[p] w fun e w' => e = .returned (.bool false) ∧ w' = w := by
  have H := Aside0.mk h
  clear h
  go_enter Try.func39, Try.ntmps39
  go_wp2_with fail
  refine (variorumlaw01_VaryNobody.bad _ p H.out).mono ?_
  rintro e w' ⟨rfl, rfl⟩
  go_wp2_with fail
  go_ret
  exact ⟨rfl, rfl⟩
set_option maxHeartbeats 2000000 in
set_option maxRecDepth 100000 in
theorem variorumlaw01_VaryNobody.holds (n : Int) (w : World) (wn : (Lit.int .i64 n).wf = true) :
    Calls Try.prog 12 #[.int .i64 n] w fun e w' => e = .returned (.bool true) ∧ Below w.heap.size w w' := by
  obtain ⟨y0, y1⟩ := Byt.wf_i64 wn
  clear wn
  go_enter Try.func12, Try.ntmps12
  go_wp2_with fail
  obtain ⟨W, hW⟩ : ∃ W, W = (w.alloc (Obj.cells #[Value.slice none 0 0, Value.int IntKind.i64 0, Value.bool false, Value.bool false] 55)).alloc (Obj.cells #[Value.pointer none, Value.pointer (some { block := w.heap.size, off := 0 })] 42) := ⟨_, rfl⟩
  rw [← hW]
  have hh : W.heap[w.heap.size + 1]? = some (.cells #[Value.pointer none, Value.pointer (some { block := w.heap.size, off := 0 })] 42 (0, 0)) := by
    rw [hW, ← World.size_alloc w (Obj.cells #[Value.slice none 0 0, Value.int IntKind.i64 0, Value.bool false, Value.bool false] 55)]; exact Own.heap_new _ _
  have hg : W.heap[w.heap.size]? = some (.cells #[Value.slice none 0 0, Value.int IntKind.i64 0, Value.bool false, Value.bool false] 55 (0, 0)) := by
    rw [hW, Own.heap_old _ _ _ (by simp)]; exact Own.heap_new _ _
  have hc0 : W.cell? ⟨w.heap.size + 1, 0, none⟩ = some (.pointer none) := by rw [cell_of_row W _ 0 _ _ _ hh]; rfl
  have hc1 : W.cell? ⟨w.heap.size + 1, 1, none⟩ = some (.pointer (some ⟨w.heap.size, 0, none⟩)) := by rw [cell_of_row W _ 1 _ _ _ hh]; rfl
  have HN0 : Aside0 (variorumlaw01_VaryNobody.Nob W (.pointer none)) := Aside0.mk (.inl rfl)
  have HN1 : Aside0 (variorumlaw01_VaryNobody.Nob W (.pointer (some ⟨w.heap.size, 0, none⟩))) := Aside0.mk (.inr ⟨_, rfl, by rw [cell_of_row W _ 3 _ _ _ hg]; rfl⟩)
  have HB := Aside0.mk (show Below w.heap.size w W by rw [hW]; exact below_alloc (below_alloc (Below.refl _ _) _) _)
  clear hW hh hg
  go_loopw [11] (fun i wr => ∃ k : Nat, k ≤ 2 ∧ i = .int .i64 (k : Int) ∧ wr = W) (fun i _ => 2 - (intOf i).toNat)
  case atStart => exact ⟨0, by omega, rfl, rfl⟩
  case round =>
    obtain ⟨k, hk, rfl, rfl⟩ := hrel
    have h3 : k = 0 ∨ k = 1 ∨ k = 2 := by omega
    clear hk
    rcases h3 with rfl | rfl | rfl
    · go_wp2_with fail
      refine (variorumlaw01_VaryNobody.num _ (.pointer none) HN0.out).mono ?_
      rintro e w' ⟨rfl, rfl⟩
      go_wp2_with fail
      refine (variorumlaw01_VaryNobody.signed _ (.pointer none) HN0.out).mono ?_
      rintro e w' ⟨rfl, rfl⟩
      go_wp2_with fail
      refine (variorumlaw01_VaryNobody.text _ (.pointer none) HN0.out).mono ?_
      rintro e w' ⟨rfl, rfl⟩
      go_wp2_with fail
      refine (variorumlaw01_VaryNobody.left _ (.pointer none) HN0.out).mono ?_
      rintro e w' ⟨rfl, rfl⟩
      go_wp2_with fail
      refine (variorumlaw01_VaryNobody.bad _ (.pointer none) HN0.out).mono ?_
      rintro e w' ⟨rfl, rfl⟩
      go_wp2_with fail
      refine (variorumlaw01_VaryNobody.done _ (.pointer none) HN0.out).mono ?_
      rintro e w' ⟨rfl, rfl⟩
      go_wp2_with fail
      go_roundw
      case rel => exact ⟨1, by omega, rfl, by first | rfl | trivial⟩
      case measure => simp [intOf]
    · go_wp2_with fail
      refine (variorumlaw01_VaryNobody.num _ (.pointer (some ⟨w.heap.size, 0, none⟩)) HN1.out).mono ?_
      rintro e w' ⟨rfl, rfl⟩
      go_wp2_with fail
      refine (variorumlaw01_VaryNobody.signed _ (.pointer (some ⟨w.heap.size, 0, none⟩)) HN1.out).mono ?_
      rintro e w' ⟨rfl, rfl⟩
      go_wp2_with fail
      refine (variorumlaw01_VaryNobody.text _ (.pointer (some ⟨w.heap.size, 0, none⟩)) HN1.out).mono ?_
      rintro e w' ⟨rfl, rfl⟩
      go_wp2_with fail
      refine (variorumlaw01_VaryNobody.left _ (.pointer (some ⟨w.heap.size, 0, none⟩)) HN1.out).mono ?_
      rintro e w' ⟨rfl, rfl⟩
      go_wp2_with fail
      refine (variorumlaw01_VaryNobody.bad _ (.pointer (some ⟨w.heap.size, 0, none⟩)) HN1.out).mono ?_
      rintro e w' ⟨rfl, rfl⟩
      go_wp2_with fail
      refine (variorumlaw01_VaryNobody.done _ (.pointer (some ⟨w.heap.size, 0, none⟩)) HN1.out).mono ?_
      rintro e w' ⟨rfl, rfl⟩
      go_wp2_with fail
      go_roundw
      case rel => exact ⟨2, by omega, rfl, by first | rfl | trivial⟩
      case measure => simp [intOf]
    · go_wp2_with fail
      refine (VaryLives.lives_c _).mono ?_
      rintro e w1 ⟨rfl, hb⟩
      have HB1 := Aside0.mk (HB.out.trans (hb.mono HB.out.size))
      clear hb
      go_wp2_with fail
      go_ret
      exact ⟨rfl, HB1.out⟩
def variorumlaw01_VaryNobody.Pure : Prop := True
theorem variorumlaw01_VaryNobody.walk (_ : variorumlaw01_VaryNobody.Pure) (a0 : Int) (w : World) (w0 : (Lit.int .i64 a0).wf = true) :
    Calls Try.prog 12 #[.int .i64 a0] w fun e w' => e = .returned (.bool true) ∧ Below w.heap.size w w' := by
  exact variorumlaw01_VaryNobody.holds a0 w w0

end Go.Proofs.Ytgefpgbofhcmdaa.P

import Derived.Test.YtedfcjcnhgomoaaRows
import Derived.Test.YtedfcjcnhgomoaaZB
import Derived.Test.YtedfcjcnhgomoaaZD
import Derived.Test.YtedfcjcnhgomoaaZA
import Derived.WalkKit
import Derived.ProofKit
import Derived.OpenShut
import Derived.ShutString
import Derived.ChangeOld
import Derived.Below
import Derived.SizedLaws
import Derived.Test.YtedfcjcnhgomoaaWSized
-- MERGED YtedfcjcnhgomoaaFrameGets
section
/- The walk of the law of frames that are got. -/
namespace Go.Proofs.Ytedfcjcnhgomoaa.FrameGets
open Go.RowKit Go.Proofs.Ytedfcjcnhgomoaa.P Go.Proofs.YtedfcjcnhgomoaaW.PrintWords Go.Proofs.YtedfcjcnhgomoaaW.PrintLast Go.Proofs.YtedfcjcnhgomoaaW.PrintMore Go.Proofs.Ytedfcjcnhgomoaa.Own Go.Proofs.Ytedfcjcnhgomoaa.Vy Go.Proofs.Ytedfcjcnhgomoaa.FrameP Go.Proofs.Ytedfcjcnhgomoaa.FrameG
set_option linter.unusedSimpArgs false
set_option linter.unusedVariables false

set_option maxHeartbeats 2000000 in
set_option maxRecDepth 100000 in
theorem row (A : Option Addr) (c : Nat) (x : List Int) (w : World) (hC : Kd.C (Kd.int .u8) w A x.length x) (hc : x.length ≤ c) (ok : x.length ≤ maxLen ∧ ∀ y ∈ x, (Lit.int .u8 y).wf = true) (_ : x.length * 1 ≤ 140737488351232) :
    Calls Try.prog 4 #[.slice A x.length c] w fun e w' => e = .returned (.bool true) ∧ Below w.heap.size w w' := by
  have HS := Aside0.mk (Sl.mk hC hc)
  have HO := Aside0.mk (Byt.ok_of_wf ok.2)
  clear hC hc ok
  by_cases h1 : (4000 : Int) < (x.length : Int)
  · go_enter Try.func4, Try.ntmps4
    go_wp2_with fail
    refine (FrameLives.lives_c _).mono ?_
    rintro e w1 ⟨rfl, hb⟩
    go_wp2_with fail
    go_ret
    exact ⟨rfl, hb⟩
  · have h2 : ¬ (4000 : Int) < (x.length : Int) := h1
    have hg := fun W (h : Below w.heap.size w W) => FrameG.get_c _ x W (HS.out.below h) HO.out (by omega)
    have hr := fun W (h : Below w.heap.size w W) => FrameR.rget_c _ x W (HS.out.below h) HO.out (by omega)
    obtain ⟨r, hget⟩ : ∃ r, FrameL.get x = r := ⟨_, rfl⟩
    rw [hget] at hg hr
    obtain ⟨⟨pe, ps, pa, pd⟩, n, er⟩ := r
    unfold Pk.val at hg hr
    simp only at hg hr
    have HG := Aside0.mk hg
    have HR := Aside0.mk hr
    clear hg hr hget h1
    go_enter Try.func4, Try.ntmps4
    go_wp2_with fail
    refine (HG.out w (Below.refl _ _)).mono ?_
    rintro e w1 ⟨rfl, hb⟩
    have HB1 := Aside0.mk hb
    clear hb
    go_wp2_with fail
    obtain ⟨w2, hw2⟩ : ∃ w2, w2 = w1.alloc (.cells #[.int .i64 pe, .int .i64 ps, .int .i64 pa, .string pd] 23) := ⟨_, rfl⟩
    have P2 := Aside0.mk (show w2.heap[w1.heap.size]? = some (.cells #[.int .i64 pe, .int .i64 ps, .int .i64 pa, .string pd] 23 (0, 0)) by rw [hw2]; exact Own.heap_new _ _)
    have HB2 := Aside0.mk (show Below w.heap.size w w2 by rw [hw2]; exact below_alloc HB1.out _)
    rw [← hw2]
    clear hw2 HB1
    refine (HR.out w2 HB2.out).mono ?_
    rintro e w3 ⟨rfl, hb⟩
    have P3 := Aside0.mk ((hb.block _ (lt_of P2.out)).trans P2.out)
    have HB3 := Aside0.mk (HB2.out.trans (hb.mono HB2.out.size))
    have P4 := (Own.heap_old w3 (.cells #[.int .i64 pe, .int .i64 ps, .int .i64 pa, .string pd] 23) _ (lt_of P3.out)).trans P3.out
    have p0 : (w3.alloc (.cells #[.int .i64 pe, .int .i64 ps, .int .i64 pa, .string pd] 23)).cell? ⟨w1.heap.size, 0, none⟩ = some (.int .i64 pe) := by rw [cell_of_row _ _ 0 _ _ _ P4]; rfl
    have p1 : (w3.alloc (.cells #[.int .i64 pe, .int .i64 ps, .int .i64 pa, .string pd] 23)).cell? ⟨w1.heap.size, 1, none⟩ = some (.int .i64 ps) := by rw [cell_of_row _ _ 1 _ _ _ P4]; rfl
    have p2 : (w3.alloc (.cells #[.int .i64 pe, .int .i64 ps, .int .i64 pa, .string pd] 23)).cell? ⟨w1.heap.size, 2, none⟩ = some (.int .i64 pa) := by rw [cell_of_row _ _ 2 _ _ _ P4]; rfl
    have p3 : (w3.alloc (.cells #[.int .i64 pe, .int .i64 ps, .int .i64 pa, .string pd] 23)).cell? ⟨w1.heap.size, 3, none⟩ = some (.string pd) := by rw [cell_of_row _ _ 3 _ _ _ P4]; rfl
    have HB4 := Aside0.mk (below_alloc HB3.out (.cells #[.int .i64 pe, .int .i64 ps, .int .i64 pa, .string pd] 23))
    clear hb HB2 P2 P4 P3
    go_wp2_with fail
    refine (FrameLives.lives_c _).mono ?_
    rintro e w5 ⟨rfl, hb⟩
    have HB5 := Aside0.mk (HB4.out.trans (hb.mono HB4.out.size))
    clear hb
    go_wp2_with fail
    go_ret
    exact ⟨rfl, HB5.out⟩
end Go.Proofs.Ytedfcjcnhgomoaa.FrameGets
end
-- MERGED YtedfcjcnhgomoaaLawFrameGets
section
/- The law of frames that are got -/
namespace Go.Proofs.Ytedfcjcnhgomoaa.frameGets
open Go.ChangeShapes Go.WideShapes Go.ChangeAt Go.RowKit Go.Proofs.YtedfcjcnhgomoaaW.PrintWords
open Go.ChangeMaps (open_string shut_string)
set_option linter.unusedVariables false
theorem own : ownKnob Try.prog.godebug = none := by kernel_rfl
theorem laidOut : laidOutB Try.prog = true := by kernel_rfl
theorem o5 : Opens.Opens Try.prog 5 (Kd.int .u8) (fun n => (Lit.int .u8 n).wf = true) := Opens.int_ (t := 5) Try.underlying5 (by kernel_rfl)
theorem o25 : Opens.Opens Try.prog 25 (Kd.slice 5 (Kd.int .u8)) (fun l => l.length ≤ maxLen ∧ ∀ x ∈ l, (fun n => (Lit.int .u8 n).wf = true) x) := Opens.slice_ (t := 25) (e := 5) Try.underlying25 (by kernel_rfl) o5
set_option maxRecDepth 100000 in
theorem lifted (os : Os) (started : os.Started) (H : Type) (enc : TypeId × Value → H) :
    ReturnsInHanded {} Try.checked os 4 .any (Rows.frameGetsSpec.pre6 enc Try.prog Try.f4 Rows.frameGetsRow.domain false) (Rows.frameGetsSpec.post enc Try.prog Try.f4 false true false false) := by
  refine returnsInHanded_of_change_sized (C := Try.checked) own started (by kernel_rfl) Try.func4
    (ChangeSpec.witness6 (enc := enc) (C := Try.checked) false ⟨#[], #[(.slice none 0 0)], []⟩ 8 (by kernel_rfl) (by kernel_rfl) (by kernel_rfl) (by kernel_rfl)) ?_
  intro W base args ds gs before hval0 hW hcnd hsz0 _
  have hsz : (DataW.weightsEach Try.prog (Try.f4.params.toList ++ Rows.frameGetsSpec.plain.varTypes Try.prog) (ds ++ gs)).all (· ≤ reachBytes) = true := hsz0
  have hval : ∀ (j : Nat) t v, Try.f4.params[j]? = some t → args[j]? = some v → Value.okWide Try.prog W .any base t v := hval0
  have hW' := hW
  obtain ⟨p, q, hA0, hV, rfl, hfz, hnd⟩ := hW
  have hA : DataW.TrodAll enc Try.prog W 0 (fun _ => true) true Try.f4.params.toList args.toList ds p := hA0
  rw [Try.params4] at hA hval hsz
  obtain ⟨v0, vs0, d0, ds0, p0, q0, hargs, rfl, rfl, h0, r0⟩ := trodAll_cons hA
  obtain ⟨rfl, rfl, rfl⟩ := trodAll_nil r0
  obtain rfl : args = #[v0] := by cases args; simp_all
  obtain ⟨rfl, rfl⟩ := trodVars_none hV
  obtain ⟨a0, len0, cap0, rfl⟩ := okWide_slice Try.underlying25 (hval 0 25 v0 rfl rfl)
  have k0 := h0
  have lt0 : ∀ x ∈ p0, x.block < W.heap.size := by obtain ⟨m, hm⟩ := k0; exact DataW.trod_lt m _ _ _ hm
  obtain ⟨x0, hK0, ok0⟩ := Opens.arg_ o25 h0
  obtain ⟨rfl, hc0, hC0⟩ := Opens.slice_shape hK0
  have y0 : x0.length * 1 ≤ 140737488351232 := Go.Proofs.YtedfcjcnhgomoaaW.PrintWords.sized_ints hsz (j := 0) (t := 25) rfl rfl Try.underlying25 Try.underlying5 (by kernel_rfl) (by kernel_rfl) k0
  clear hA0 hval0 hsz0 hsz
  refine (FrameGets.row a0 cap0 x0 W hC0 hc0 ok0 y0).mono fun e W' ⟨he, bel⟩ => ?_
  subst he
  exact ⟨_, rfl, _, _, _, [], _, [], hW', trodAll_mk1 (shut_bool Try.underlying4 _), (trodAll_cons_mk (Below.trod laidOut (by kernel_rfl) (of_decide_eq_true (by kernel_rfl)) k0 bel lt0) trodAll_mk0), rfl, bel.frame _, fun h => by cases h⟩
theorem over : Rows.frameGetsRow.holds Try.pinned (OpenSpec.ofChange Rows.frameGetsSpec) :=
  OpenClaim.holds_of_wide 4 Try.f4 rfl rfl rfl rfl rfl rfl rfl ⟨rfl, rfl, rfl, rfl, rfl⟩ rfl rfl rfl rfl rfl (by kernel_rfl) Try.func4 (by kernel_rfl)
    (of_decide_eq_true (by kernel_rfl)) (by unfold Func.isWrapper; first | (rw [if_pos (by decide +kernel)]; kernel_rfl) | (rw [if_neg (by decide +kernel)]; exact ⟨rfl, rfl⟩))
    (fun os started H enc _ => lifted os started H enc)
theorem proved : Rows.FrameGetsSaid := over
#print axioms proved
end Go.Proofs.Ytedfcjcnhgomoaa.frameGets
namespace Go.Proofs.Ytedfcjcnhgomoaa
/-- The row, under a short name, for the claim. -/
theorem frameGets_holds : Rows.FrameGetsSaid := frameGets.proved
end Go.Proofs.Ytedfcjcnhgomoaa
end

import Derived.Test.YtbfdplmgefcogaaCD
import Derived.Test.YtbfdplmgefcogaaCB
import Derived.Test.YtbfdplmgefcogaaCA
-- MERGED YtbfdplmgefcogaaPeditNorm
section
-- Written by wip/myprint.py of this session, over the kit's print.py: a Lean function for each Go function, and the proof that the code comes to it.
namespace Go.Proofs.Ytbfdplmgefcogaa.P
open Go.RowKit Go.Proofs.YtbfdplmgefcogaaW.PrintWords Go.Proofs.YtbfdplmgefcogaaW.PrintLast Go.Proofs.YtbfdplmgefcogaaW.PrintMore
attribute [local go_sem] max2_int min2_int max_two min_two max_three min_three max_four min_four   -- for this text's walks alone
set_option linter.unusedVariables false
set_option linter.unusedSimpArgs false

/-! ### edit_Norm: function 25 -/
-- NEEDS Derived.Test.YtbfdplmgefcogaaEditN
def edit_Norm.f (l0 : List (S43)) : Option (List (S43)) := if l0.length ≤ 4000000 then some (EditL.norm l0) else none
theorem edit_Norm.calls (A0 : Option Addr) (c0 : Nat) (l0 : List (S43)) (r : List (S43)) (w : World) (hr0 : Kd.C k43 w A0 l0.length l0) (hc0 : l0.length ≤ c0) (h : edit_Norm.f l0 = some r) :
    Calls Try.prog 25 #[.slice A0 l0.length c0] w fun e w' => ∃ v0_ : Value, e = .returned (v0_) ∧ Kd.R k43 43 w' w.heap.size (fun _ => True) v0_ r ∧ Below w.heap.size w w' := by
  unfold edit_Norm.f at h
  by_cases hl : l0.length ≤ 4000000
  · rw [if_pos hl] at h
    obtain rfl := Option.some.inj h
    exact EditN.norm_c A0 c0 l0 w hr0 hc0 hl
  · rw [if_neg hl] at h; cases h

end Go.Proofs.Ytbfdplmgefcogaa.P
end
-- MERGED YtbfdplmgefcogaaComposeW
section
/- The walk of compose.Two: what the iterator gives, collected, and the edit of it. -/
namespace Go.Proofs.Ytbfdplmgefcogaa.ComposeW
open Go.RowKit Go.Shelf Go.Proofs.Ytbfdplmgefcogaa.P Go.Proofs.YtbfdplmgefcogaaW.PrintWords Go.Proofs.YtbfdplmgefcogaaW.PrintLast Go.Proofs.YtbfdplmgefcogaaW.PrintMore Go.Proofs.Ytbfdplmgefcogaa.Own Go.Proofs.Ytbfdplmgefcogaa.EditL Go.Proofs.Ytbfdplmgefcogaa.EditK Go.Proofs.Ytbfdplmgefcogaa.EditF Go.Proofs.Ytbfdplmgefcogaa.EditG Go.Proofs.Ytbfdplmgefcogaa.RangeG Go.Proofs.Ytbfdplmgefcogaa.EditJ Go.Proofs.Ytbfdplmgefcogaa.EditI Go.Proofs.Ytbfdplmgefcogaa.EditR Go.Proofs.Ytbfdplmgefcogaa.EditN Go.Proofs.Ytbfdplmgefcogaa.VaryR Go.Proofs.Ytbfdplmgefcogaa.RunA Go.Proofs.Ytbfdplmgefcogaa.RunL Go.Proofs.Ytbfdplmgefcogaa.ComposeL Go.Proofs.Ytbfdplmgefcogaa.ComposeR Go.Proofs.Ytbfdplmgefcogaa.ComposeK Go.Proofs.Ytbfdplmgefcogaa.ComposeI Go.Proofs.Ytbfdplmgefcogaa.ComposeT
attribute [local go_sem] Oper.semAt_some
set_option linter.unusedSimpArgs false
set_option linter.unusedVariables false

set_option maxHeartbeats 1000000 in
set_option maxRecDepth 100000 in
theorem both_c (A : Option Addr) (n c : Nat) (A' : Option Addr) (n' c' : Nat) (w : World) : Calls Try.prog 24 #[.slice A n c, .slice A' n' c'] w fun e w' => e = .returned (.func (.func 37) #[] #[.pointer (some ⟨w.heap.size, 0, none⟩), .pointer (some ⟨w.heap.size + 1, 0, none⟩)]) ∧ w' = (w.alloc (.cells #[.slice A n c] 22)).alloc (.cells #[.slice A' n' c'] 22) := by
  go_enter Try.func24, Try.ntmps24
  go_wp2_with fail
  go_ret
  exact ⟨rfl, rfl⟩
theorem R_move {W W' : World} {B B' : Nat} {v : Value} {l : List Rn} (h : Kd.R k43 43 W B (fun _ => True) v l) (hm : ∀ n xs, W.ownsRow B 43 3 v n xs → W'.ownsRow B' 43 3 v n xs) : Kd.R k43 43 W' B' (fun _ => True) v l := by
  obtain ⟨hk, cs, hrow, hl, hM⟩ := h
  refine ⟨fun _ _ => trivial, cs, hm _ _ hrow, hl, fun j p hj => ?_⟩
  have e := k43_openM (hM j p hj)
  rw [e]
  exact k43_mkM _ _ _ p
theorem res_two (tmps : Array Value) (W : World) (a b : Value) (h4 : tmps.getD 4 undef = a) (h5 : tmps.getD 5 undef = b) : (results Try.f9 tmps).run Try.prog W = .ok (.tuple #[a, b]) W := by
  have h4' : tmps[4]?.getD undef = a := by simpa using h4
  have h5' : tmps[5]?.getD undef = b := by simpa using h5
  simp [results, Try.results9, h4', h5', go_sem]
def TwoPost (v : List Rn × Int) (w : World) (e : Ending) (w' : World) : Prop := ∃ v0_ : Value, e = .returned (.tuple #[v0_, .int .i64 v.2]) ∧ Kd.R k43 43 w' w.heap.size (fun _ => True) v0_ v.1 ∧ Below w.heap.size w w'
theorem good_w (A0 : Option Addr) (c0 : Nat) (l0 : List Rn) (hc : l0.length ≤ c0) (hl : l0.length ≤ 140737488351232) (W : World) (h : RC W A0 l0) : Calls Try.prog 16 #[.slice A0 l0.length c0] W fun e w' => e = .returned (.bool (good l0)) ∧ Below W.heap.size W w' :=
  edit_Good.calls (l0.length + 1) A0 c0 l0 _ W h hc (good_f hl _ (Nat.lt_succ_self _))
theorem out_w (A0 : Option Addr) (c0 : Nat) (l0 : List Rn) (hc : l0.length ≤ c0) (hl : l0.length ≤ 140737488351232) (hg : good l0 = true) (W : World) (h : RC W A0 l0) : Calls Try.prog 18 #[.slice A0 l0.length c0] W fun e w' => e = .returned (.int .i64 (outL l0)) ∧ Below W.heap.size W w' := by
  have := edit_Out.calls (l0.length + 1) A0 c0 l0 _ W h hc (out_f hl _ (Nat.lt_succ_self _))
  rwa [hg, if_pos rfl] at this
theorem in_w (A0 : Option Addr) (c0 : Nat) (l0 : List Rn) (hc : l0.length ≤ c0) (hl : l0.length ≤ 140737488351232) (hg : good l0 = true) (W : World) (h : RC W A0 l0) : Calls Try.prog 23 #[.slice A0 l0.length c0] W fun e w' => e = .returned (.int .i64 (inL l0)) ∧ Below W.heap.size W w' := by
  have := edit_In.calls (l0.length + 1) A0 c0 l0 _ W h hc (in_f hl _ (Nat.lt_succ_self _))
  rwa [hg, if_pos rfl] at this
set_option maxHeartbeats 4000000 in
set_option maxRecDepth 100000 in
theorem two_no1 (A0 : Option Addr) (c0 : Nat) (l0 : List Rn) (A1 : Option Addr) (c1 : Nat) (l1 : List Rn) (w : World) (h0 : RC w A0 l0) (hc0 : l0.length ≤ c0) (h1 : RC w A1 l1) (hc1 : l1.length ≤ c1) (hl0 : l0.length ≤ 140737488351232) (hl1 : l1.length ≤ 140737488351232) (hg : good l0 = false) : Calls Try.prog 9 #[.slice A0 l0.length c0, .slice A1 l1.length c1] w (TwoPost ([], 60) w) := by
  have HG := Aside0.mk (good_w A0 c0 l0 hc0 hl0 w h0)
  rw [hg] at HG
  clear h0 hc0 h1 hc1 hl0 hl1 hg
  go_enter Try.func9, Try.ntmps9
  go_wp2_with (first | (go_at_call 16; refine HG.out.mono ?_; rintro e w1 ⟨rfl, hb⟩; have HB := Aside0.mk hb; clear hb))
  go_ret2
  exact ⟨_, rfl, Kd.R_nil _ _ _ _ _, HB.out⟩
set_option maxHeartbeats 4000000 in
set_option maxRecDepth 100000 in
theorem two_no2 (A0 : Option Addr) (c0 : Nat) (l0 : List Rn) (A1 : Option Addr) (c1 : Nat) (l1 : List Rn) (w : World) (h0 : RC w A0 l0) (hc0 : l0.length ≤ c0) (h1 : RC w A1 l1) (hc1 : l1.length ≤ c1) (hl0 : l0.length ≤ 140737488351232) (hl1 : l1.length ≤ 140737488351232) (hg : good l0 = true) (hg1 : good l1 = false) : Calls Try.prog 9 #[.slice A0 l0.length c0, .slice A1 l1.length c1] w (TwoPost ([], 60) w) := by
  have HG := Aside0.mk (good_w A0 c0 l0 hc0 hl0 w h0)
  have HG1 := Aside0.mk (fun (W : World) (hb : Below w.heap.size w W) => good_w A1 c1 l1 hc1 hl1 W (RC.below h1 hb))
  rw [hg] at HG
  rw [hg1] at HG1
  clear h0 hc0 h1 hc1 hl0 hl1 hg hg1
  go_enter Try.func9, Try.ntmps9
  go_wp2_with fail
  refine HG.out.mono ?_
  rintro e w1 ⟨rfl, hb⟩
  have HB := Aside0.mk hb
  clear hb
  go_wp2_with fail
  refine (HG1.out _ HB.out).mono ?_
  rintro e w2 ⟨rfl, hb⟩
  have HB2 := Aside0.mk (below_step HB.out hb)
  clear hb
  go_wp2_with fail
  go_ret2
  exact ⟨_, rfl, Kd.R_nil _ _ _ _ _, HB2.out⟩
set_option maxHeartbeats 4000000 in
set_option maxRecDepth 100000 in
theorem two_no3 (A0 : Option Addr) (c0 : Nat) (l0 : List Rn) (A1 : Option Addr) (c1 : Nat) (l1 : List Rn) (w : World) (h0 : RC w A0 l0) (hc0 : l0.length ≤ c0) (h1 : RC w A1 l1) (hc1 : l1.length ≤ c1) (hl0 : l0.length ≤ 140737488351232) (hl1 : l1.length ≤ 140737488351232) (hg : good l0 = true) (hg1 : good l1 = true) (hio : outL l0 ≠ inL l1) : Calls Try.prog 9 #[.slice A0 l0.length c0, .slice A1 l1.length c1] w (TwoPost ([], 60) w) := by
  have HG := Aside0.mk (good_w A0 c0 l0 hc0 hl0 w h0)
  have HG1 := Aside0.mk (fun (W : World) (hb : Below w.heap.size w W) => good_w A1 c1 l1 hc1 hl1 W (RC.below h1 hb))
  have HO := Aside0.mk (fun (W : World) (hb : Below w.heap.size w W) => out_w A0 c0 l0 hc0 hl0 hg W (RC.below h0 hb))
  have HI := Aside0.mk (fun (W : World) (hb : Below w.heap.size w W) => in_w A1 c1 l1 hc1 hl1 hg1 W (RC.below h1 hb))
  rw [hg] at HG
  rw [hg1] at HG1
  obtain ⟨o, ho⟩ : ∃ o, o = outL l0 := ⟨_, rfl⟩
  obtain ⟨i, hi⟩ : ∃ i, i = inL l1 := ⟨_, rfl⟩
  rw [← ho] at HO hio
  rw [← hi] at HI hio
  have hne : (o == i) = false := by simpa using hio
  clear h0 hc0 h1 hc1 hl0 hl1 hg hg1 ho hi hio
  go_enter Try.func9, Try.ntmps9
  go_wp2_with fail
  refine HG.out.mono ?_
  rintro e w1 ⟨rfl, hb⟩
  have HB := Aside0.mk hb
  clear hb
  go_wp2_with fail
  refine (HG1.out _ HB.out).mono ?_
  rintro e w2 ⟨rfl, hb⟩
  have HB2 := Aside0.mk (below_step HB.out hb)
  clear hb
  go_wp2_with fail
  refine (HO.out _ HB2.out).mono ?_
  rintro e w3 ⟨rfl, hb⟩
  have HB3 := Aside0.mk (below_step HB2.out hb)
  clear hb
  go_wp2_with fail
  refine (HI.out _ HB3.out).mono ?_
  rintro e w4 ⟨rfl, hb⟩
  have HB4 := Aside0.mk (below_step HB3.out hb)
  clear hb
  go_wp2_with fail
  go_ret2
  exact ⟨_, rfl, Kd.R_nil _ _ _ _ _, HB4.out⟩
set_option maxHeartbeats 16000000 in
set_option maxRecDepth 100000 in
theorem two_yes (A0 : Option Addr) (c0 : Nat) (l0 : List Rn) (A1 : Option Addr) (c1 : Nat) (l1 : List Rn) (w : World) (h0 : RC w A0 l0) (hc0 : l0.length ≤ c0) (h1 : RC w A1 l1) (hc1 : l1.length ≤ c1) (hl0 : l0.length ≤ 140737488351232) (hl1 : l1.length ≤ 140737488351232) (hg : good l0 = true) (hg1 : good l1 = true) (hio : outL l0 = inL l1) : Calls Try.prog 9 #[.slice A0 l0.length c0, .slice A1 l1.length c1] w (TwoPost (fin2 (both l0 l1)) w) := by
  obtain ⟨_, q0, _, k0⟩ := good_ok hg
  obtain ⟨_, q1, _, k1⟩ := good_ok hg1
  have MD := Aside0.mk (both_made k0 k1 hio)
  have s0 := sums_good hg
  have s1 := sums_good hg1
  have fw : ∀ l : List Rn, (∀ r ∈ l, knd r ≠ 0) → inL l ≤ 16777216 → outL l ≤ 16777216 → ∀ r ∈ l, Fw r := by
    intro l
    induction l with
    | nil => intro _ _ _ r hr; cases hr
    | cons x l ih =>
      intro hk hi ho r hr
      have hkl : ∀ y ∈ l, knd y ≠ 0 := fun y hy => hk y (List.mem_cons_of_mem _ hy)
      have hn := inL_nonneg hkl
      have hx := hk x List.mem_cons_self
      have hp := knd_pos hx
      simp only [inL] at hi
      simp only [outL] at ho
      rcases List.mem_cons.1 hr with rfl | hr
      · exact ⟨hx, hp.1, hp.2, by omega, by omega, by omega⟩
      · exact ih hkl (by omega) (by omega) r hr
  have HF0 := Aside0.mk (fw l0 k0 s0.2.1 s0.2.2.2)
  have HF1 := Aside0.mk (fw l1 k1 s1.2.1 s1.2.2.2)
  have HLEN := Aside0.mk (show (both l0 l1).length ≤ 131072 by have := MD.out.len; omega)
  have HQ0 := Aside0.mk q0
  have HQ1 := Aside0.mk q1
  have HG := Aside0.mk (good_w A0 c0 l0 hc0 hl0 w h0)
  have HG1 := Aside0.mk (fun (W : World) (hb : Below w.heap.size w W) => good_w A1 c1 l1 hc1 hl1 W (RC.below h1 hb))
  have HO := Aside0.mk (fun (W : World) (hb : Below w.heap.size w W) => out_w A0 c0 l0 hc0 hl0 hg W (RC.below h0 hb))
  have HI := Aside0.mk (fun (W : World) (hb : Below w.heap.size w W) => in_w A1 c1 l1 hc1 hl1 hg1 W (RC.below h1 hb))
  have HR0 := Aside0.mk (fun (W : World) (hb : Below w.heap.size w W) => RC.below h0 hb)
  have HR1 := Aside0.mk (fun (W : World) (hb : Below w.heap.size w W) => RC.below h1 hb)
  have HL0 := Aside0.mk (RC.lt h0)
  have HL1 := Aside0.mk (RC.lt h1)
  have HC0 := Aside0.mk hc0
  have HC1 := Aside0.mk hc1
  rw [hg] at HG
  rw [hg1] at HG1
  rw [← hio] at HI
  obtain ⟨o, ho⟩ : ∃ o, o = outL l0 := ⟨_, rfl⟩
  rw [← ho] at HO HI
  obtain ⟨L, hL⟩ : ∃ L, L = both l0 l1 := ⟨_, rfl⟩
  rw [← hL] at MD HLEN ⊢
  refine (callsIn_wide (n := 12)).1 ?_
  clear h0 hc0 h1 hc1 hl0 hl1 hg hg1 ho hio q0 q1 k0 k1 s0 s1 fw hL
  refine callsIn_of_wp_marks Try.func9 rfl trivial ?_ rfl
  simp only [Try.ntmps9, List.size_toArray, List.length_cons, List.length_nil, Nat.reduceAdd, Nat.reduceSub, Array.replicate_succ, Array.replicate_zero, List.push_toArray, List.append_toArray, List.nil_append, List.cons_append]
  gi_wp2
  refine ⟨trivial, ?_⟩
  refine (callsIn_wide.2 HG.out).mono ?_
  rintro e w1 ⟨rfl, hb⟩
  have HB := Aside0.mk hb
  clear hb
  gi_wp2
  refine ⟨trivial, ?_⟩
  refine (callsIn_wide.2 (HG1.out _ HB.out)).mono ?_
  rintro e w2 ⟨rfl, hb⟩
  have HB2 := Aside0.mk (below_step HB.out hb)
  clear hb
  gi_wp2
  refine ⟨trivial, ?_⟩
  refine (callsIn_wide.2 (HO.out _ HB2.out)).mono ?_
  rintro e w3 ⟨rfl, hb⟩
  have HB3 := Aside0.mk (below_step HB2.out hb)
  clear hb
  gi_wp2
  refine ⟨trivial, ?_⟩
  refine (callsIn_wide.2 (HI.out _ HB3.out)).mono ?_
  rintro e w4 ⟨rfl, hb⟩
  have HB4 := Aside0.mk (below_step HB3.out hb)
  clear hb
  gi_wp2
  refine ⟨trivial, ?_⟩
  refine (callsIn_wide.2 (both_c A0 _ c0 A1 _ c1 _)).mono ?_
  rintro e w5 ⟨rfl, hw5⟩
  obtain ⟨O, hO⟩ : ∃ O, O = w4.heap.size := ⟨_, rfl⟩
  have hz5 : w5.heap.size = O + 3 := by rw [hw5, hO]; simp
  have hb45 : Below w4.heap.size w4 w5 := by rw [hw5]; exact below_alloc (below_alloc (below_alloc (Below.refl _ _) _) _) _
  have HB5 := Aside0.mk (below_step HB4.out hb45)
  have HX5 := Aside0.mk (show Boxed w5 O 22 (.slice none 0 0) by
    unfold Boxed
    rw [hw5, hO, Own.heap_old _ _ _ (by simp; omega), Own.heap_old _ _ _ (by simp)]; exact Own.heap_new _ _)
  have HT1 := Aside0.mk (show w5.heap[O + 1]? = some (.cells #[.slice A0 l0.length c0] 22 (0, 0)) by
    rw [hw5, hO, Own.heap_old _ _ _ (by simp)]
    have := Own.heap_new (w4.alloc (.cells #[.slice none 0 0] 22)) (.cells #[.slice A0 l0.length c0] 22)
    rwa [World.size_alloc] at this)
  have HT2 := Aside0.mk (show w5.heap[O + 1 + 1]? = some (.cells #[.slice A1 l1.length c1] 22 (0, 0)) by
    rw [hw5, hO]
    have := Own.heap_new ((w4.alloc (.cells #[.slice none 0 0] 22)).alloc (.cells #[.slice A0 l0.length c0] 22)) (.cells #[.slice A1 l1.length c1] 22)
    rwa [World.size_alloc, World.size_alloc] at this)
  have HZ := Aside0.mk (show O < w5.heap.size by omega)
  have HZ5 := Aside0.mk hz5
  have HO4 := Aside0.mk (show w.heap.size ≤ O by rw [hO]; exact HB4.out.size)
  clear hw5 hz5 hb45
  gi_wp2
  rw [← hO]
  clear hO
  refine range_g (n := 12) (w := w5) (by decide) (gf := 37) (lb := #[.pointer (some ⟨O + 1, 0, none⟩), .pointer (some ⟨O + 1 + 1, 0, none⟩)]) rfl (enters_of Try.func37 (by kernel_rfl) rfl) (fun r : Rn => #[.agg #[.int .i64 r.f0, .string r.f1, .int .i64 r.f2]]) (fun _ => rfl) L (Held2 A0 c0 (O + 1) l0 A1 c1 (O + 1 + 1) l1)
    (both_it A0 c0 _ l0 A1 c1 _ l1 HC0.out HC1.out HF0.out HF1.out HQ0.out HQ1.out L MD.out.bo) (Jc w5 O) (jc_party HZ.out) ?hK (jc_own (Nat.le_refl _)) (fun _ _ _ => False) (fun _ _ _ _ _ h _ _ => h) ?h0
    (fun x a' W => ∃ Bx, W.heap[Bx]? = some (.cells #[.int .i64 x.f0, .string x.f1, .int .i64 x.f2] 43 (0, 0)) ∧ a' = { tmps := #[.slice A0 l0.length c0, .slice A1 l1.length c1, undef, undef, .slice none 0 0, .int .i64 0, .pointer (some ⟨O, 0, none⟩), .pointer (some ⟨Bx, 0, none⟩), undef, .slice A0 l0.length c0, .bool true, .bool false, .bool false, .slice A1 l1.length c1, .bool true, .bool false, .bool false, .bool false, .slice A0 l0.length c0, .int .i64 o, .slice A1 l1.length c1, .int .i64 o, .bool false, .bool false, .slice A0 l0.length c0, .slice A1 l1.length c1, .func (.func 37) #[] #[.pointer (some ⟨O + 1, 0, none⟩), .pointer (some ⟨O + 1 + 1, 0, none⟩)], .agg #[.int .i64 x.f0, .string x.f1, .int .i64 x.f2], undef, undef, undef, undef, undef, undef, undef, undef, undef, undef, undef, undef, undef, undef, undef], defers := [] })
    (fun x a' s W W' row hs hg hr => by obtain ⟨Bx, h1, h2⟩ := hs; exact ⟨Bx, (hg.block Bx (Array.getElem?_eq_some_iff.1 h1).1 (fun e => by obtain ⟨_, q, h3, h4⟩ := hr Bx e.symm; rw [h1] at h3; cases h3; cases h4)).trans h1, h2⟩) ?assign ?body ?done ?stop
  case hK =>
    intro pre G W hj
    have hs := HZ5.out
    have ho := HO4.out
    refine ⟨⟨(hj.but.block _ (by omega) (fun e => by injection e with e; omega)).trans HT1.out, C_same (HR0.out _ HB5.out) fun ad e hp => ?_⟩, ⟨(hj.but.block _ (by omega) (fun e => by injection e with e; omega)).trans HT2.out, C_same (HR1.out _ HB5.out) fun ad e hp => ?_⟩⟩
    · have := HL0.out ad e hp
      exact hj.but.block _ (by omega) (fun e => by injection e with e; omega)
    · have := HL1.out ad e hp
      exact hj.but.block _ (by omega) (fun e => by injection e with e; omega)
  case h0 =>
    exact ⟨⟨_, HX5.out, World.ownsRow_nil _ _ _ _, fun k hk => absurd rfl hk⟩, But.refl _ _, fun k o hk => by cases hk⟩
  case assign =>
    intro l pre G x W K hj hK
    gi_wp2
    exact hK _ _ ((KeepsOthers.alloc _ _).from _) ((jc_party HZ.out).below hj (below_alloc (Below.refl _ _) _)) ⟨W.heap.size, Own.heap_new _ _, rfl⟩
  case body =>
    rintro l pre x suf G a' W hLp hj ⟨Bx, hx, rfl⟩
    obtain ⟨ov, hb, hrow, hn⟩ := hj.row
    have o0 := hb.cell
    have fo := hb.frozen
    obtain ⟨x0, x1, x2⟩ := blk_cells hx
    have hlen : pre.length + 1 ≤ 4398046511104 := by
      have := HLEN.out
      rw [hLp, List.length_append, List.length_cons] at this
      omega
    have HLN := Aside0.mk hlen
    have HBX := Aside0.mk hb
    have HRW := Aside0.mk hrow
    have HN := Aside0.mk hn
    have HJ := Aside0.mk hj
    clear hx hb hrow hn hj hlen hLp
    gi_wp2_with (gi_at_builtin; refine wpListIn_run (by rfl) (by rfl) HJ.out.but.size (by rfl) HRW.out x (by rfl) HLN.out ?_; intro v' w8 hg; have hfm := hg.form; obtain ⟨g', cap', rfl⟩ := hfm; obtain ⟨hv1, hk2, hj2⟩ := jc_step HZ.out HBX.out HRW.out HN.out HJ.out.but HJ.out.priv hg; have hc1 := hv1.cell; have hf1 := hv1.frozen; have HK2 := Aside0.mk hk2; have HJ2 := Aside0.mk hj2; clear hg hv1 hk2 hj2)
    exact ⟨HK2.out.from _, HJ2.out⟩
  case done =>
    intro D G W hD hj hK
    obtain ⟨ov, hb, hrow, hn⟩ := hj.row
    obtain ⟨A2, c2, rfl, hc2, hC2⟩ := Kd.R_reads hrow.R
    have HG2 := Aside0.mk (edit_Norm.calls A2 c2 L (norm L) W hC2 hc2 (by unfold edit_Norm.f; rw [if_pos (by have := HLEN.out; omega)]))
    have o0 := hb.cell
    have HBX := Aside0.mk hb
    have HBUT := Aside0.mk hj.but
    have HD := Aside0.mk hD
    have HKD := Aside0.mk hK
    clear hb hrow hn hj hD hK hC2 hc2
    gi_wp2
    refine ⟨trivial, ?_⟩
    refine (callsIn_wide.2 HG2.out).mono ?_
    rintro e W2 ⟨v0, rfl, hR2, hb2⟩
    obtain ⟨A3, c3, rfl, hc3, _⟩ := Kd.R_reads hR2
    have HR2 := Aside0.mk hR2
    have hxx : Boxed W2 O 22 (.slice A2 L.length c2) := (hb2.block _ HBX.out.lt).trans HBX.out
    have cO := hxx.cell
    have HK2 := Aside0.mk ((hb2.block _ (Array.getElem?_eq_some_iff.1 HKD.out).1).trans HKD.out)
    have hsz := HBUT.out.size
    have HBW := Aside0.mk (show Below w.heap.size w (W2.putObj D (.deferred none)) from by
      have h5 := HB5.out
      have hz := HZ5.out
      have ho := HO4.out
      have hd := HD.out
      refine (show Below w.heap.size w W2 from ⟨hb2.os.trans (HBUT.out.os.trans h5.os), hb2.tape.trans (HBUT.out.tape.trans h5.tape), hb2.output.trans (HBUT.out.output.trans h5.output), Nat.le_trans h5.size (Nat.le_trans HBUT.out.size hb2.size), fun k hk => ?_⟩).trans ⟨rfl, rfl, rfl, by simp, fun k hk => World.putObj_heap_other (by omega)⟩
      exact (hb2.block k (by omega)).trans ((HBUT.out.block k (by omega) (fun e => by injection e with e; omega)).trans (h5.block k hk)))
    have HRR := Aside0.mk (show Kd.R k43 43 (W2.putObj D (.deferred none)) w.heap.size (fun _ => True) (.slice A3 (norm L).length c3) (norm L) from R_move hR2 fun n xs h => World.ownsRow.mono (ownsRow_putObj h _ HK2.out rfl) (by have := HB5.out.size; omega))
    obtain ⟨m1, hm1⟩ : ∃ m1, m1 = L.length := ⟨_, rfl⟩
    obtain ⟨m2, hm2⟩ : ∃ m2, m2 = (norm L).length := ⟨_, rfl⟩
    have HF2 := Aside0.mk (show fin2 L = if 0 < m1 ∧ m2 = 0 then ([], 31) else (norm L, 0) by rw [hm1, hm2]; rfl)
    rw [← hm1] at cO
    rw [← hm2] at HRR
    rw [← hm1, ← hm2]
    clear hxx hb2 hR2 hsz hm1 hm2 o0 hc3
    by_cases cl : 0 < m1
    · by_cases cn : m2 = 0
      · have HE := Aside0.mk (show fin2 L = ([], 31) by rw [HF2.out, if_pos ⟨cl, cn⟩])
        subst cn
        gi_wp2
        refine ⟨by simp, .inl ⟨_, _, rfl, run_takeDeferred HK2.out, ?_⟩⟩
        refine ⟨_, res_two _ _ _ _ rfl rfl, _, by rw [HE.out]; rfl, by rw [HE.out]; exact Kd.R_nil _ _ _ _ _, HBW.out⟩
      · have HE := Aside0.mk (show fin2 L = (norm L, 0) by rw [HF2.out, if_neg (fun h => cn h.2)])
        gi_wp2
        refine ⟨by simp, .inl ⟨_, _, rfl, run_takeDeferred HK2.out, ?_⟩⟩
        refine ⟨_, res_two _ _ _ _ rfl rfl, _, by rw [HE.out]; rfl, by rw [HE.out]; exact HRR.out, HBW.out⟩
    · have HE := Aside0.mk (show fin2 L = (norm L, 0) by rw [HF2.out, if_neg (fun h => cl h.1)])
      have cl0 : m1 = 0 := by omega
      subst cl0
      gi_wp2
      refine ⟨by simp, .inl ⟨_, _, rfl, run_takeDeferred HK2.out, ?_⟩⟩
      refine ⟨_, res_two _ _ _ _ rfl rfl, _, by rw [HE.out]; rfl, by rw [HE.out]; exact HRR.out, HBW.out⟩
  case stop =>
    rintro D c s W _ h _
    exact h.elim
theorem two_c (A0 : Option Addr) (c0 : Nat) (l0 : List Rn) (A1 : Option Addr) (c1 : Nat) (l1 : List Rn) (w : World) (h0 : RC w A0 l0) (hc0 : l0.length ≤ c0) (h1 : RC w A1 l1) (hc1 : l1.length ≤ c1) (hl0 : l0.length ≤ 140737488351232) (hl1 : l1.length ≤ 140737488351232) : Calls Try.prog 9 #[.slice A0 l0.length c0, .slice A1 l1.length c1] w fun e w' => ∃ v0_ : Value, e = .returned (.tuple #[v0_, .int .i64 (twoL l0 l1).2]) ∧ Kd.R k43 43 w' w.heap.size (fun _ => True) v0_ (twoL l0 l1).1 ∧ Below w.heap.size w w' := by
  by_cases hm : meet l0 l1 = true
  · rw [ComposeT.two_yes hm]
    obtain ⟨g0, g1, g2⟩ := meet_iff.1 hm
    exact two_yes A0 c0 l0 A1 c1 l1 w h0 hc0 h1 hc1 hl0 hl1 g0 g1 g2
  · rw [ComposeT.two_no hm]
    cases g0 : good l0 with
    | false => exact two_no1 A0 c0 l0 A1 c1 l1 w h0 hc0 h1 hc1 hl0 hl1 g0
    | true =>
      cases g1 : good l1 with
      | false => exact two_no2 A0 c0 l0 A1 c1 l1 w h0 hc0 h1 hc1 hl0 hl1 g0 g1
      | true => exact two_no3 A0 c0 l0 A1 c1 l1 w h0 hc0 h1 hc1 hl0 hl1 g0 g1 (fun e => hm (meet_iff.2 ⟨g0, g1, e⟩))
end Go.Proofs.Ytbfdplmgefcogaa.ComposeW
end

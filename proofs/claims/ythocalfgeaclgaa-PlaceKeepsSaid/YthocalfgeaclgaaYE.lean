import Derived.Test.YthocalfgeaclgaaYD
import Derived.Test.YthocalfgeaclgaaYA
import Derived.Test.YthocalfgeaclgaaYB
import Derived.Test.YthocalfgeaclgaaWWords
import Derived.Test.YthocalfgeaclgaaWMore
import Derived.Deep.Slices
import Derived.ChangeArms
import Derived.OpenShut
import Derived.ShutString
-- MERGED YthocalfgeaclgaaPvariorumlaw06Light
section

namespace Go.Proofs.Ythocalfgeaclgaa.P
open Go.RowKit Go.Proofs.YthocalfgeaclgaaW.PrintWords Go.Proofs.YthocalfgeaclgaaW.PrintLast Go.Proofs.YthocalfgeaclgaaW.PrintMore
attribute [local go_sem] max2_int min2_int max_two min_two max_three min_three max_four min_four
set_option linter.unusedVariables false
set_option linter.unusedSimpArgs false
def jj5.l0 : Nat → List (S37) → Int → Int → Option (Bool)
 | 0, _, _, _ => none
 | k + 1, x8, x9, x10 => if x10 < x9 then (if 0 ≤ x10 then (if x10 < (x8.length : Int) then (if (((rd_T37 x8 x10).f1).size : Int) > 200 then (some false) else (jj5.l0 k x8 x9 (wrap64 (x10 + 1)))) else (none)) else (none)) else (some true)
def jj5.f (k : Nat) (l0 : List (S37)) : Option (Bool) := if (l0.length : Int) > 100 then (some false) else (jj5.l0 k l0 (l0.length : Int) 0)
theorem jj5.mono_l : ∀ k, (∀ y0 y1 y2, LeO (jj5.l0 k y0 y1 y2) (jj5.l0 (k + 1) y0 y1 y2))
 | 0 => fun _ _ _ r h => by simp [jj5.l0] at h
 | k + 1 => by
  have ih0 := jj5.mono_l k
  ·intro y0 y1 y2
   unfold jj5.l0
   repeat' first
   | (with_reducible exact ih0 _ _ _)
   | (with_reducible exact LeO.refl _)
   | (with_reducible exact LeO.none _)
   | (with_reducible refine LeO.ite ?_ ?_)
   | (with_reducible refine LeO.bind ?_ (fun _ => ?_))
   | exact ih0 _ _ _
   | exact LeO.none _
   | refine LeO.ite ?_ ?_
   | refine LeO.bind ?_ (fun _ => ?_)
theorem jj5.mono : ∀ a0 k, LeO (jj5.f k a0) (jj5.f (k + 1) a0) := by
 intro a0 k
 have ih0 := jj5.mono_l k
 unfold jj5.f
 repeat' first
   | (with_reducible exact ih0 _ _ _)
   | (with_reducible exact LeO.refl _)
   | (with_reducible exact LeO.none _)
   | (with_reducible refine LeO.ite ?_ ?_)
   | (with_reducible refine LeO.bind ?_ (fun _ => ?_))
   | exact ih0 _ _ _
   | exact LeO.none _
   | refine LeO.ite ?_ ?_
   | refine LeO.bind ?_ (fun _ => ?_)
set_option maxHeartbeats 8000000 in
set_option maxRecDepth 100000 in
theorem jj5.calls (k : Nat) (A0 : Option Addr) (c0 : Nat) (l0 : List (S37)) (r : Bool) (w : World) (hr0 : Kd.C k37 w A0 l0.length l0) (hc0 : l0.length ≤ c0) (h : jj5.f k l0 = some r) :
  Calls Try.prog 21 #[.slice A0 l0.length c0] w fun e w' => e = .returned (.bool r) ∧ Below w.heap.size w w' := by
 have hu37 := Try.underlying37
 have HR0 := Aside0.mk hr0
 have HC0 := Aside0.mk hc0
 clear hr0 hc0
 have HB := Aside0.mk (Below.refl w.heap.size w)
 have H : (if (l0.length : Int) > 100 then (some false) else (jj5.l0 k l0 (l0.length : Int) 0)) = some r := h
 clear h
 by_cases c2 : (l0.length : Int) > 100
 ·rw [if_pos c2] at H
  have c2b0 : decide (100 < (l0.length : Int)) = true := decide_eq_true c2
  have c2b1 : decide (100 < l0.length) = true := decide_eq_true (by omega)
  clear c2
  obtain rfl := Option.some.inj H
  go_enter Try.func21, Try.ntmps21
  go_wp2
  go_ret
  exact ⟨by first | rfl | (simp [errW_none, errW_some] <;> rfl) | (simp [*, errW_none, errW_some] <;> rfl), by repeat (first | (with_reducible first | exact HB.out | apply below_alloc | apply pw_below_drewN | apply below_drew1) | exact HB.out)⟩
 ·rw [if_neg c2] at H
  have c2b0 : decide (100 < (l0.length : Int)) = false := decide_eq_false c2
  have c2b1 : decide (100 < l0.length) = false := decide_eq_false (by omega)
  clear c2
  have H' := Aside0.mk H
  clear H
  go_enter Try.func21, Try.ntmps21
  go_wp2
  go_loopg [10] k (fun kq v10 w' => ∃ (x10_1 : Int), v10 = .int .i64 x10_1 ∧ Aside0 (jj5.l0 kq l0 (l0.length : Int) x10_1 = some r) ∧ Aside0 (kq ≤ k) ∧ Aside0 (Below w.heap.size w w'))
  case atStart => exact ⟨(0), (by first | rfl | (simp; done) | (simp [*]; done)), H', ⟨Nat.le_refl _⟩, ⟨by repeat (first | (with_reducible first | exact HB.out | apply below_alloc | apply pw_below_drewN | apply below_drew1) | exact HB.out)⟩⟩
  case round =>
   clear H'
   try clear c2
   try clear c2b0
   try clear c2b1
   try clear p2
   obtain ⟨x10_1, rfl, HA, HK1, HB⟩ := hrel
   cases gk with
   | zero => exact absurd HA.out (by simp [jj5.l0])
   | succ k1 =>
    have H := HA.out
    clear HA
    simp only [jj5.l0] at H
    by_cases c3 : x10_1 < (l0.length : Int)
    ·rw [if_pos c3] at H
     have c3b0 : decide (x10_1 < (l0.length : Int)) = true := decide_eq_true c3
     clear c3
     by_cases c4 : 0 ≤ x10_1
     ·rw [if_pos c4] at H
      have c4b0 : decide (0 ≤ x10_1) = true := decide_eq_true c4
      clear c4
      by_cases c5 : x10_1 < (l0.length : Int)
      ·rw [if_pos c5] at H
       have c5b0 : decide (x10_1 < (l0.length : Int)) = true := decide_eq_true c5
       clear c5
       by_cases c6 : (((rd_T37 l0 x10_1).f1).size : Int) > 200
       ·rw [if_pos c6] at H
        have c6b0 : decide (200 < (((rd_T37 l0 x10_1).f1).size : Int)) = true := decide_eq_true c6
        have c6b1 : decide (200 < ((rd_T37 l0 x10_1).f1).size) = true := decide_eq_true (by omega)
        clear c6
        obtain rfl := Option.some.inj H
        have p112 : 0 ≤ (x10_1 : Int) := of_decide_eq_true (by first | (with_reducible assumption) | assumption)
        have q112 : x10_1 < (l0.length : Int) := of_decide_eq_true (by first | (with_reducible assumption) | assumption)
        obtain ⟨ad112, e112, hx112_0, hx112_1, hx112_2⟩ := at_T37 HR0.out x10_1 p112 q112
        cases e112
        replace hx112_0 := (HB.out.cell (World.block_lt_of_cell? w _ hx112_0)).trans hx112_0
        replace hx112_1 := (HB.out.cell (World.block_lt_of_cell? w _ hx112_1)).trans hx112_1
        replace hx112_2 := (HB.out.cell (World.block_lt_of_cell? w _ hx112_2)).trans hx112_2
        replace p112 := eq_true p112
        replace q112 := eq_true q112
        go_wp2_with (first | ((with_reducible refine gate_dst (N := 4) rfl ?_); refine box_event ?hg (N := 4) ?hd (cs := #[.int .i64 0, .string (⟨#[]⟩ : ByteArray), .int .i64 0]) (t := 37) ?hr ?_; (case hd => rfl); (case hg => rfl); (case hr => first | (go_simp; done) | (go_simp; rfl)); intro gb113 hg w7 hbox hb; have n0_ := Aside0.mk (below_step (by repeat (first | (with_reducible first | exact HB.out | apply below_alloc | apply pw_below_drewN | apply below_drew1) | exact HB.out)) hb); have n1_ := Aside0.mk (hbox); have n2_ := Aside0.mk ((by rw [hg]; exact (below_size (by repeat (first | (with_reducible first | exact HB.out | apply below_alloc | apply pw_below_drewN | apply below_drew1) | exact HB.out))) : w.heap.size ≤ gb113)); have n3_ := Aside0.mk ((by rw [hg]; exact (below_size (by repeat (first | (with_reducible first | exact HB.out | apply below_alloc | apply pw_below_drewN | apply below_drew1) | exact HB.out))) : w.heap.size ≤ gb113)); clear HB; have HB := n0_; have BK113 := n1_; have GW113 := n2_; have GE113 := n3_; clear n0_ n1_ n2_ n3_; clear hb hbox hg; have hcz8_0 : w7.cell? ⟨gb113, 0, none⟩ = some (.int .i64 0) := (blk_cell BK113.out 0).trans rfl; have hcz8_1 : w7.cell? ⟨gb113, 1, none⟩ = some (.string (⟨#[]⟩ : ByteArray)) := (blk_cell BK113.out 1).trans rfl; have hcz8_2 : w7.cell? ⟨gb113, 2, none⟩ = some (.int .i64 0) := (blk_cell BK113.out 2).trans rfl; have hfz8_0 := blk_frozen BK113.out 0; have hfz8_1 := blk_frozen BK113.out 1; have hfz8_2 := blk_frozen BK113.out 2))
        go_ret
        exact ⟨by first | rfl | (simp [errW_none, errW_some] <;> rfl) | (simp [*, errW_none, errW_some] <;> rfl), by repeat (first | (with_reducible first | exact HB.out | apply below_alloc | apply pw_below_drewN | apply below_drew1 | refine below_set ?_ GE113.out) | exact HB.out)⟩
       ·rw [if_neg c6] at H
        have c6b0 : decide (200 < (((rd_T37 l0 x10_1).f1).size : Int)) = false := decide_eq_false c6
        have c6b1 : decide (200 < ((rd_T37 l0 x10_1).f1).size) = false := decide_eq_false (by omega)
        clear c6
        have H' := Aside0.mk H
        clear H
        have p112 : 0 ≤ (x10_1 : Int) := of_decide_eq_true (by first | (with_reducible assumption) | assumption)
        have q112 : x10_1 < (l0.length : Int) := of_decide_eq_true (by first | (with_reducible assumption) | assumption)
        obtain ⟨ad112, e112, hx112_0, hx112_1, hx112_2⟩ := at_T37 HR0.out x10_1 p112 q112
        cases e112
        replace hx112_0 := (HB.out.cell (World.block_lt_of_cell? w _ hx112_0)).trans hx112_0
        replace hx112_1 := (HB.out.cell (World.block_lt_of_cell? w _ hx112_1)).trans hx112_1
        replace hx112_2 := (HB.out.cell (World.block_lt_of_cell? w _ hx112_2)).trans hx112_2
        replace p112 := eq_true p112
        replace q112 := eq_true q112
        go_wp2_with (first | ((with_reducible refine gate_dst (N := 4) rfl ?_); refine box_event ?hg (N := 4) ?hd (cs := #[.int .i64 0, .string (⟨#[]⟩ : ByteArray), .int .i64 0]) (t := 37) ?hr ?_; (case hd => rfl); (case hg => rfl); (case hr => first | (go_simp; done) | (go_simp; rfl)); intro gb113 hg w9 hbox hb; have n0_ := Aside0.mk (below_step (by repeat (first | (with_reducible first | exact HB.out | apply below_alloc | apply pw_below_drewN | apply below_drew1) | exact HB.out)) hb); have n1_ := Aside0.mk (hbox); have n2_ := Aside0.mk ((by rw [hg]; exact (below_size (by repeat (first | (with_reducible first | exact HB.out | apply below_alloc | apply pw_below_drewN | apply below_drew1) | exact HB.out))) : w.heap.size ≤ gb113)); have n3_ := Aside0.mk ((by rw [hg]; exact (below_size (by repeat (first | (with_reducible first | exact HB.out | apply below_alloc | apply pw_below_drewN | apply below_drew1) | exact HB.out))) : w.heap.size ≤ gb113)); clear HB; have HB := n0_; have BK113 := n1_; have GW113 := n2_; have GE113 := n3_; clear n0_ n1_ n2_ n3_; clear hb hbox hg; have hcz10_0 : w9.cell? ⟨gb113, 0, none⟩ = some (.int .i64 0) := (blk_cell BK113.out 0).trans rfl; have hcz10_1 : w9.cell? ⟨gb113, 1, none⟩ = some (.string (⟨#[]⟩ : ByteArray)) := (blk_cell BK113.out 1).trans rfl; have hcz10_2 : w9.cell? ⟨gb113, 2, none⟩ = some (.int .i64 0) := (blk_cell BK113.out 2).trans rfl; have hfz10_0 := blk_frozen BK113.out 0; have hfz10_1 := blk_frozen BK113.out 1; have hfz10_2 := blk_frozen BK113.out 2))
        go_roundg k1
        case measure => have := HK1.out; omega
        case rel => exact ⟨(wrap64 (x10_1 + 1)), (by first | rfl | (simp; done) | (simp [*]; done)), H', ⟨by have := HK1.out; omega⟩, ⟨by repeat (first | (with_reducible first | exact HB.out | apply below_alloc | apply pw_below_drewN | apply below_drew1 | refine below_set ?_ GE113.out) | exact HB.out)⟩⟩
      ·rw [if_neg c5] at H
       exact absurd H (by simp)
     ·rw [if_neg c4] at H
      exact absurd H (by simp)
    ·rw [if_neg c3] at H
     have c3b0 : decide (x10_1 < (l0.length : Int)) = false := decide_eq_false c3
     clear c3
     obtain rfl := Option.some.inj H
     go_wp2
     go_ret
     exact ⟨by first | rfl | (simp [errW_none, errW_some] <;> rfl) | (simp [*, errW_none, errW_some] <;> rfl), by repeat (first | (with_reducible first | exact HB.out | apply below_alloc | apply pw_below_drewN | apply below_drew1) | exact HB.out)⟩
end Go.Proofs.Ythocalfgeaclgaa.P
end
-- MERGED YthocalfgeaclgaaLightF
section

namespace Go.Proofs.Ythocalfgeaclgaa.LightF
open Go.RowKit Go.Proofs.Ythocalfgeaclgaa.P Go.Proofs.YthocalfgeaclgaaW.PrintWords Go.Proofs.YthocalfgeaclgaaW.PrintLast Go.Proofs.YthocalfgeaclgaaW.PrintMore Go.Proofs.Ythocalfgeaclgaa.EditL Go.Proofs.Ythocalfgeaclgaa.EditK
set_option linter.unusedSimpArgs false
set_option linter.unusedVariables false
theorem light_l (l : List Rn) (hl : l.length ≤ 140737488351232) : ∀ (suf pre : List Rn) (k : Nat), l = pre ++ suf → suf.length < k → ∃ b, jj5.l0 k l (l.length : Int) (pre.length : Int) = some b ∧ (b = true → ∀ r ∈ suf, r.f1.size ≤ 200) := by
 intro suf
 induction suf with
 | nil =>
  intro pre k hfe hk
  obtain ⟨k, rfl⟩ : ∃ m, k = m + 1 := ⟨k - 1, by omega⟩
  have : l.length = pre.length := by rw [hfe]; simp
  simp only [jj5.l0]
  rw [if_neg (by omega)]
  exact ⟨true, rfl, fun _ r hr => by cases hr⟩
 | cons r suf ih =>
  intro pre k hfe hk
  obtain ⟨k, rfl⟩ : ∃ m, k = m + 1 := ⟨k - 1, by omega⟩
  obtain ⟨hl2, hn, hlt⟩ := snoc hfe
  obtain ⟨b, hb, hb2⟩ := ih (pre ++ [r]) k hl2 (by simp at hk; omega)
  rw [hn] at hb
  simp only [jj5.l0]
  rw [if_pos hlt, if_pos (by omega), if_pos hlt, rd_at hfe, w64 (x := (pre.length : Int) + 1) (by omega) (by omega), hb]
  by_cases h : (r.f1.size : Int) > 200
  ·rw [if_pos h]; exact ⟨false, rfl, fun h => by cases h⟩
  ·rw [if_neg h]
   refine ⟨b, rfl, fun e x hx => ?_⟩
   rcases List.mem_cons.1 hx with rfl | hx
   ·omega
   ·exact hb2 e x hx
theorem light_f (l : List Rn) (k : Nat) (hk : 100 < k) : ∃ b, jj5.f k l = some b ∧ (b = true → l.length ≤ 100 ∧ ∀ r ∈ l, r.f1.size ≤ 200) := by
 unfold jj5.f
 by_cases h : (l.length : Int) > 100
 ·rw [if_pos h]; exact ⟨false, rfl, fun h => by cases h⟩
 ·rw [if_neg h]
  obtain ⟨b, h1, h2⟩ := light_l l (by omega) l [] k rfl (by omega)
  exact ⟨b, h1, fun e => ⟨by omega, h2 e⟩⟩
def mk (x : Int × ByteArray × Int) : Rn := ⟨x.1, x.2.1, x.2.2⟩
end Go.Proofs.Ythocalfgeaclgaa.LightF
end
-- MERGED YthocalfgeaclgaaEditH1
section

namespace Go.Proofs.Ythocalfgeaclgaa.EditH1
open Go.RowKit Go.Proofs.Ythocalfgeaclgaa.P Go.Proofs.YthocalfgeaclgaaW.PrintWords Go.Proofs.YthocalfgeaclgaaW.PrintLast Go.Proofs.YthocalfgeaclgaaW.PrintMore Go.Proofs.Ythocalfgeaclgaa.EditL Go.Proofs.Ythocalfgeaclgaa.EditK Go.Proofs.Ythocalfgeaclgaa.EditF Go.Proofs.Ythocalfgeaclgaa.EditG
set_option linter.unusedSimpArgs false
set_option linter.unusedVariables false
theorem rgood_f {l : List Rn} (hb : l.length ≤ 140737488351232) : jj2.f l = some (good l) := by unfold jj2.f; rw [if_pos hb]
theorem rin_f {l : List Rn} (hb : l.length ≤ 140737488351232) (k : Nat) (hk : l.length < k) : jj3.f k l = some (if good l then inL l else 0) := by
 unfold jj3.f
 rw [rgood_f hb, Option.bind_some]
 cases h : good l with
 | false => rfl
 | true =>
  obtain ⟨_, _, h2, h3⟩ := good_ok h
  rw [if_pos rfl, rsums_f hb h3 k hk, Option.bind_some, h2]; rfl
theorem rout_f {l : List Rn} (hb : l.length ≤ 140737488351232) (k : Nat) (hk : l.length < k) : jj4.f k l = some (if good l then outL l else 0) := by
 unfold jj4.f
 rw [rgood_f hb, Option.bind_some]
 cases h : good l with
 | false => rfl
 | true =>
  obtain ⟨_, _, h2, h3⟩ := good_ok h
  rw [if_pos rfl, rsums_f hb h3 k hk, Option.bind_some, h2]; rfl
end Go.Proofs.Ythocalfgeaclgaa.EditH1
end
-- MERGED YthocalfgeaclgaaPvariorumlaw09Few
section

namespace Go.Proofs.Ythocalfgeaclgaa.P
open Go.RowKit Go.Proofs.YthocalfgeaclgaaW.PrintWords Go.Proofs.YthocalfgeaclgaaW.PrintLast Go.Proofs.YthocalfgeaclgaaW.PrintMore
attribute [local go_sem] max2_int min2_int max_two min_two max_three min_three max_four min_four
set_option linter.unusedVariables false
set_option linter.unusedSimpArgs false
def jj6.f (k : Nat) (l0 : List (S37)) : Option (Bool) := (jj5.f k l0).bind fun t114 => (if t114 = true then ((jj2.f l0).bind fun t115 => (if t115 = true then ((jj3.f k l0).bind fun t116 => (if t116 ≤ 3000 then ((jj4.f k l0).bind fun t117 => (some (decide (t117 ≤ 3000)))) else (some false))) else (some true))) else (some false))
theorem jj6.mono : ∀ a0 k, LeO (jj6.f k a0) (jj6.f (k + 1) a0) := by
 intro a0 k
 unfold jj6.f
 repeat' first
   | (with_reducible exact jj5.mono _ _)
   | (with_reducible exact jj3.mono _ _)
   | (with_reducible exact jj4.mono _ _)
   | (with_reducible exact LeO.refl _)
   | (with_reducible exact LeO.none _)
   | (with_reducible refine LeO.ite ?_ ?_)
   | (with_reducible refine LeO.bind ?_ (fun _ => ?_))
   | exact jj5.mono _ _
   | exact jj3.mono _ _
   | exact jj4.mono _ _
   | exact LeO.none _
   | refine LeO.ite ?_ ?_
   | refine LeO.bind ?_ (fun _ => ?_)
set_option maxHeartbeats 8000000 in
set_option maxRecDepth 100000 in
theorem jj6.calls (k : Nat) (A0 : Option Addr) (c0 : Nat) (l0 : List (S37)) (r : Bool) (w : World) (hr0 : Kd.C k37 w A0 l0.length l0) (hc0 : l0.length ≤ c0) (h : jj6.f k l0 = some r) :
  Calls Try.prog 12 #[.slice A0 l0.length c0] w fun e w' => e = .returned (.bool r) ∧ Below w.heap.size w w' := by
 have HR0 := Aside0.mk hr0
 have HC0 := Aside0.mk hc0
 clear hr0 hc0
 have HB := Aside0.mk (Below.refl w.heap.size w)
 have H : ((jj5.f k l0).bind fun t114 => (if t114 = true then ((jj2.f l0).bind fun t115 => (if t115 = true then ((jj3.f k l0).bind fun t116 => (if t116 ≤ 3000 then ((jj4.f k l0).bind fun t117 => (some (decide (t117 ≤ 3000)))) else (some false))) else (some true))) else (some false))) = some r := h
 clear h
 replace H := Option.bind_eq_some_iff.mp H
 obtain ⟨t114, A20, H⟩ := H
 replace H : (if t114 = true then ((jj2.f l0).bind fun t115 => (if t115 = true then ((jj3.f k l0).bind fun t116 => (if t116 ≤ 3000 then ((jj4.f k l0).bind fun t117 => (some (decide (t117 ≤ 3000)))) else (some false))) else (some true))) else (some false)) = some r := H
 have A2 := Aside0.mk A20
 clear A20
 by_cases c3 : t114 = true
 ·subst c3
  have H1 : ((jj2.f l0).bind fun t115 => (if t115 = true then ((jj3.f k l0).bind fun t116 => (if t116 ≤ 3000 then ((jj4.f k l0).bind fun t117 => (some (decide (t117 ≤ 3000)))) else (some false))) else (some true))) = some r := by rw [if_pos rfl] at H; exact H
  clear H
  have H := H1
  clear H1
  replace H := Option.bind_eq_some_iff.mp H
  obtain ⟨t115, A40, H⟩ := H
  replace H : (if t115 = true then ((jj3.f k l0).bind fun t116 => (if t116 ≤ 3000 then ((jj4.f k l0).bind fun t117 => (some (decide (t117 ≤ 3000)))) else (some false))) else (some true)) = some r := H
  have A4 := Aside0.mk A40
  clear A40
  by_cases c5 : t115 = true
  ·subst c5
   have H1 : ((jj3.f k l0).bind fun t116 => (if t116 ≤ 3000 then ((jj4.f k l0).bind fun t117 => (some (decide (t117 ≤ 3000)))) else (some false))) = some r := by rw [if_pos rfl] at H; exact H
   clear H
   have H := H1
   clear H1
   replace H := Option.bind_eq_some_iff.mp H
   obtain ⟨t116, A60, H⟩ := H
   replace H : (if t116 ≤ 3000 then ((jj4.f k l0).bind fun t117 => (some (decide (t117 ≤ 3000)))) else (some false)) = some r := H
   have A6 := Aside0.mk A60
   clear A60
   by_cases c7 : t116 ≤ 3000
   ·rw [if_pos c7] at H
    have c7b0 : decide (t116 ≤ 3000) = true := decide_eq_true c7
    clear c7
    replace H := Option.bind_eq_some_iff.mp H
    obtain ⟨t117, A80, H⟩ := H
    replace H : (some (decide (t117 ≤ 3000))) = some r := H
    have A8 := Aside0.mk A80
    clear A80
    obtain rfl := Option.some.inj H
    go_enter Try.func12, Try.ntmps12
    go_wp2_with (first | ((with_reducible refine gate_callee (f := 21) rfl ?_); refine goesL_ (some 4) rfl rfl Try.func21 (by kernel_rfl) rfl #[.slice A0 l0.length c0] rfl (by (try simp only [List.map_toArray, List.map_cons, List.map_nil]); first | done | rfl | (simp only [List.length_drop, List.length_take]; rfl)) ?_; (with_reducible refine (jj5.calls k _ _ l0 true _ ?side1 ?side2 A2.out).mono ?_); (case side1 => repeat (first | exact HR0.out | (with_reducible refine Kd.C_alloc ?_ _) | (with_reducible refine Kd.C_drewN ?_ _) | (with_reducible refine Kd.C_drew ?_))); (case side2 => exact HC0.out); rintro e w9 ⟨rfl, hb⟩; refine ⟨_, rfl, ?_⟩; have n0_ := Aside0.mk (below_step (by repeat (first | (with_reducible first | exact HB.out | apply below_alloc | apply pw_below_drewN | apply below_drew1) | exact HB.out)) hb); clear HB; have HB := n0_; clear n0_; (try clear hb); (try clear hb2); (try clear hk); (try clear hi)) | (go_at_call 18; (with_reducible refine (jj2.calls _ _ l0 true _ ?side1 ?side2 A4.out).mono ?_); (case side1 => repeat (first | exact (Kd.C_below HR0.out HB.out) | (with_reducible refine Kd.C_alloc ?_ _) | (with_reducible refine Kd.C_drewN ?_ _) | (with_reducible refine Kd.C_drew ?_))); (case side2 => exact HC0.out); rintro e w10 ⟨rfl, hb⟩; have n0_ := Aside0.mk (below_step (by repeat (first | (with_reducible first | exact HB.out | apply below_alloc | apply pw_below_drewN | apply below_drew1) | exact HB.out)) hb); clear HB; have HB := n0_; clear n0_; (try clear hb); (try clear hb2); (try clear hk); (try clear hi)) | (go_at_call 19; (with_reducible refine (jj3.calls k _ _ l0 t116 _ ?side1 ?side2 A6.out).mono ?_); (case side1 => repeat (first | exact (Kd.C_below HR0.out HB.out) | (with_reducible refine Kd.C_alloc ?_ _) | (with_reducible refine Kd.C_drewN ?_ _) | (with_reducible refine Kd.C_drew ?_))); (case side2 => exact HC0.out); rintro e w11 ⟨rfl, hb⟩; have n0_ := Aside0.mk (below_step (by repeat (first | (with_reducible first | exact HB.out | apply below_alloc | apply pw_below_drewN | apply below_drew1) | exact HB.out)) hb); clear HB; have HB := n0_; clear n0_; (try clear hb); (try clear hb2); (try clear hk); (try clear hi)) | (go_at_call 20; (with_reducible refine (jj4.calls k _ _ l0 t117 _ ?side1 ?side2 A8.out).mono ?_); (case side1 => repeat (first | exact (Kd.C_below HR0.out HB.out) | (with_reducible refine Kd.C_alloc ?_ _) | (with_reducible refine Kd.C_drewN ?_ _) | (with_reducible refine Kd.C_drew ?_))); (case side2 => exact HC0.out); rintro e w12 ⟨rfl, hb⟩; have n0_ := Aside0.mk (below_step (by repeat (first | (with_reducible first | exact HB.out | apply below_alloc | apply pw_below_drewN | apply below_drew1) | exact HB.out)) hb); clear HB; have HB := n0_; clear n0_; (try clear hb); (try clear hb2); (try clear hk); (try clear hi)))
    go_ret
    exact ⟨by first | rfl | (simp [errW_none, errW_some] <;> rfl) | (simp [*, errW_none, errW_some] <;> rfl), by repeat (first | (with_reducible first | exact HB.out | apply below_alloc | apply pw_below_drewN | apply below_drew1) | exact HB.out)⟩
   ·rw [if_neg c7] at H
    have c7b0 : decide (t116 ≤ 3000) = false := decide_eq_false c7
    clear c7
    obtain rfl := Option.some.inj H
    go_enter Try.func12, Try.ntmps12
    go_wp2_with (first | ((with_reducible refine gate_callee (f := 21) rfl ?_); refine goesL_ (some 4) rfl rfl Try.func21 (by kernel_rfl) rfl #[.slice A0 l0.length c0] rfl (by (try simp only [List.map_toArray, List.map_cons, List.map_nil]); first | done | rfl | (simp only [List.length_drop, List.length_take]; rfl)) ?_; (with_reducible refine (jj5.calls k _ _ l0 true _ ?side1 ?side2 A2.out).mono ?_); (case side1 => repeat (first | exact HR0.out | (with_reducible refine Kd.C_alloc ?_ _) | (with_reducible refine Kd.C_drewN ?_ _) | (with_reducible refine Kd.C_drew ?_))); (case side2 => exact HC0.out); rintro e w13 ⟨rfl, hb⟩; refine ⟨_, rfl, ?_⟩; have n0_ := Aside0.mk (below_step (by repeat (first | (with_reducible first | exact HB.out | apply below_alloc | apply pw_below_drewN | apply below_drew1) | exact HB.out)) hb); clear HB; have HB := n0_; clear n0_; (try clear hb); (try clear hb2); (try clear hk); (try clear hi)) | (go_at_call 18; (with_reducible refine (jj2.calls _ _ l0 true _ ?side1 ?side2 A4.out).mono ?_); (case side1 => repeat (first | exact (Kd.C_below HR0.out HB.out) | (with_reducible refine Kd.C_alloc ?_ _) | (with_reducible refine Kd.C_drewN ?_ _) | (with_reducible refine Kd.C_drew ?_))); (case side2 => exact HC0.out); rintro e w14 ⟨rfl, hb⟩; have n0_ := Aside0.mk (below_step (by repeat (first | (with_reducible first | exact HB.out | apply below_alloc | apply pw_below_drewN | apply below_drew1) | exact HB.out)) hb); clear HB; have HB := n0_; clear n0_; (try clear hb); (try clear hb2); (try clear hk); (try clear hi)) | (go_at_call 19; (with_reducible refine (jj3.calls k _ _ l0 t116 _ ?side1 ?side2 A6.out).mono ?_); (case side1 => repeat (first | exact (Kd.C_below HR0.out HB.out) | (with_reducible refine Kd.C_alloc ?_ _) | (with_reducible refine Kd.C_drewN ?_ _) | (with_reducible refine Kd.C_drew ?_))); (case side2 => exact HC0.out); rintro e w15 ⟨rfl, hb⟩; have n0_ := Aside0.mk (below_step (by repeat (first | (with_reducible first | exact HB.out | apply below_alloc | apply pw_below_drewN | apply below_drew1) | exact HB.out)) hb); clear HB; have HB := n0_; clear n0_; (try clear hb); (try clear hb2); (try clear hk); (try clear hi)))
    go_ret
    exact ⟨by first | rfl | (simp [errW_none, errW_some] <;> rfl) | (simp [*, errW_none, errW_some] <;> rfl), by repeat (first | (with_reducible first | exact HB.out | apply below_alloc | apply pw_below_drewN | apply below_drew1) | exact HB.out)⟩
  ·replace c5 := Bool.eq_false_iff.mpr c5
   subst c5
   have H1 : (some true) = some r := by rw [if_neg (show ¬ (false = true) by decide)] at H; exact H
   clear H
   have H := H1
   clear H1
   obtain rfl := Option.some.inj H
   go_enter Try.func12, Try.ntmps12
   go_wp2_with (first | ((with_reducible refine gate_callee (f := 21) rfl ?_); refine goesL_ (some 4) rfl rfl Try.func21 (by kernel_rfl) rfl #[.slice A0 l0.length c0] rfl (by (try simp only [List.map_toArray, List.map_cons, List.map_nil]); first | done | rfl | (simp only [List.length_drop, List.length_take]; rfl)) ?_; (with_reducible refine (jj5.calls k _ _ l0 true _ ?side1 ?side2 A2.out).mono ?_); (case side1 => repeat (first | exact HR0.out | (with_reducible refine Kd.C_alloc ?_ _) | (with_reducible refine Kd.C_drewN ?_ _) | (with_reducible refine Kd.C_drew ?_))); (case side2 => exact HC0.out); rintro e w16 ⟨rfl, hb⟩; refine ⟨_, rfl, ?_⟩; have n0_ := Aside0.mk (below_step (by repeat (first | (with_reducible first | exact HB.out | apply below_alloc | apply pw_below_drewN | apply below_drew1) | exact HB.out)) hb); clear HB; have HB := n0_; clear n0_; (try clear hb); (try clear hb2); (try clear hk); (try clear hi)) | (go_at_call 18; (with_reducible refine (jj2.calls _ _ l0 false _ ?side1 ?side2 A4.out).mono ?_); (case side1 => repeat (first | exact (Kd.C_below HR0.out HB.out) | (with_reducible refine Kd.C_alloc ?_ _) | (with_reducible refine Kd.C_drewN ?_ _) | (with_reducible refine Kd.C_drew ?_))); (case side2 => exact HC0.out); rintro e w17 ⟨rfl, hb⟩; have n0_ := Aside0.mk (below_step (by repeat (first | (with_reducible first | exact HB.out | apply below_alloc | apply pw_below_drewN | apply below_drew1) | exact HB.out)) hb); clear HB; have HB := n0_; clear n0_; (try clear hb); (try clear hb2); (try clear hk); (try clear hi)))
   go_ret
   exact ⟨by first | rfl | (simp [errW_none, errW_some] <;> rfl) | (simp [*, errW_none, errW_some] <;> rfl), by repeat (first | (with_reducible first | exact HB.out | apply below_alloc | apply pw_below_drewN | apply below_drew1) | exact HB.out)⟩
 ·replace c3 := Bool.eq_false_iff.mpr c3
  subst c3
  have H1 : (some false) = some r := by rw [if_neg (show ¬ (false = true) by decide)] at H; exact H
  clear H
  have H := H1
  clear H1
  obtain rfl := Option.some.inj H
  go_enter Try.func12, Try.ntmps12
  go_wp2_with (first | ((with_reducible refine gate_callee (f := 21) rfl ?_); refine goesL_ (some 4) rfl rfl Try.func21 (by kernel_rfl) rfl #[.slice A0 l0.length c0] rfl (by (try simp only [List.map_toArray, List.map_cons, List.map_nil]); first | done | rfl | (simp only [List.length_drop, List.length_take]; rfl)) ?_; (with_reducible refine (jj5.calls k _ _ l0 false _ ?side1 ?side2 A2.out).mono ?_); (case side1 => repeat (first | exact HR0.out | (with_reducible refine Kd.C_alloc ?_ _) | (with_reducible refine Kd.C_drewN ?_ _) | (with_reducible refine Kd.C_drew ?_))); (case side2 => exact HC0.out); rintro e w18 ⟨rfl, hb⟩; refine ⟨_, rfl, ?_⟩; have n0_ := Aside0.mk (below_step (by repeat (first | (with_reducible first | exact HB.out | apply below_alloc | apply pw_below_drewN | apply below_drew1) | exact HB.out)) hb); clear HB; have HB := n0_; clear n0_; (try clear hb); (try clear hb2); (try clear hk); (try clear hi)))
  go_ret
  exact ⟨by first | rfl | (simp [errW_none, errW_some] <;> rfl) | (simp [*, errW_none, errW_some] <;> rfl), by repeat (first | (with_reducible first | exact HB.out | apply below_alloc | apply pw_below_drewN | apply below_drew1) | exact HB.out)⟩
end Go.Proofs.Ythocalfgeaclgaa.P
end
-- MERGED YthocalfgeaclgaaPPart1
section

namespace Go.Proofs.Ythocalfgeaclgaa.P
open Go.RowKit Go.Proofs.YthocalfgeaclgaaW.PrintWords Go.Proofs.YthocalfgeaclgaaW.PrintLast Go.Proofs.YthocalfgeaclgaaW.PrintMore
attribute [local go_sem] max2_int min2_int max_two min_two max_three min_three max_four min_four
set_option linter.unusedVariables false
set_option linter.unusedSimpArgs false
theorem eqA24 (d : Nat) (w : World) (x0 y0 : Int) (x1 y1 : Int) :
  (Op.equalIn (d + 2) 24 (.agg #[.int .i64 x0, .int .i64 x1]) (.agg #[.int .i64 y0, .int .i64 y1])).run Try.prog w = .ok (x0 == y0 && (x1 == y1)) w := by
 refine eqA_of Try.underlying24 (by kernel_rfl) ?_
 refine eqf_cons (by rfl) (by go_simp; rfl) (by go_simp; rfl) (by go_simp) ?_
 exact eqf_last (by rfl) (by go_simp; rfl) (by go_simp; rfl) (by go_simp)
end Go.Proofs.Ythocalfgeaclgaa.P
end
-- MERGED YthocalfgeaclgaaPvariorumlaw10span
section

namespace Go.Proofs.Ythocalfgeaclgaa.P
open Go.RowKit Go.Proofs.YthocalfgeaclgaaW.PrintWords Go.Proofs.YthocalfgeaclgaaW.PrintLast Go.Proofs.YthocalfgeaclgaaW.PrintMore
attribute [local go_sem] max2_int min2_int max_two min_two max_three min_three max_four min_four
set_option linter.unusedVariables false
set_option linter.unusedSimpArgs false
def jj12.f (a0 : Int) (a1 : Int) : Option (Int × Int) := some (a0, a1)
set_option maxHeartbeats 8000000 in
set_option maxRecDepth 100000 in
theorem jj12.calls (a0 : Int) (a1 : Int) (r1 : Int) (r2 : Int) (w : World) (h : jj12.f a0 a1 = some (r1, r2)) :
  Calls Try.prog 49 #[.int .i64 a0, .int .i64 a1] w fun e w' => e = .returned (.agg #[.int .i64 r1, .int .i64 r2]) ∧ Below w.heap.size w w' := by
 have hu24 := Try.underlying24
 have HB := Aside0.mk (Below.refl w.heap.size w)
 have H : (some (a0, a1)) = some (r1, r2) := h
 clear h
 simp only [Option.some.injEq, Prod.mk.injEq] at H
 obtain ⟨rfl, rfl⟩ := H
 go_enter Try.func49, Try.ntmps49
 go_wp2_with (first | ((with_reducible refine gate_dst (N := 4) rfl ?_); refine box_event ?hg (N := 4) ?hd (cs := #[.int .i64 0, .int .i64 0]) (t := 24) ?hr ?_; (case hd => rfl); (case hg => rfl); (case hr => first | (go_simp; done) | (go_simp; rfl)); intro gb131 hg w3 hbox hb; have n0_ := Aside0.mk (below_step (by repeat (first | (with_reducible first | exact HB.out | apply below_alloc | apply pw_below_drewN | apply below_drew1) | exact HB.out)) hb); have n1_ := Aside0.mk (hbox); have n2_ := Aside0.mk ((by rw [hg]; exact (below_size (by repeat (first | (with_reducible first | exact HB.out | apply below_alloc | apply pw_below_drewN | apply below_drew1) | exact HB.out))) : w.heap.size ≤ gb131)); have n3_ := Aside0.mk ((by rw [hg]; exact (below_size (by repeat (first | (with_reducible first | exact HB.out | apply below_alloc | apply pw_below_drewN | apply below_drew1) | exact HB.out))) : w.heap.size ≤ gb131)); clear HB; have HB := n0_; have BK131 := n1_; have GW131 := n2_; have GE131 := n3_; clear n0_ n1_ n2_ n3_; clear hb hbox hg; have hcz4_0 : w3.cell? ⟨gb131, 0, none⟩ = some (.int .i64 0) := (blk_cell BK131.out 0).trans rfl; have hcz4_1 : w3.cell? ⟨gb131, 1, none⟩ = some (.int .i64 0) := (blk_cell BK131.out 1).trans rfl; have hfz4_0 := blk_frozen BK131.out 0; have hfz4_1 := blk_frozen BK131.out 1))
 refine bodyPost_ret (results_cell_row rfl _ _ gb131 24 #[.int .i64 a0, .int .i64 a1] (0, 0) _ rfl (by (with_reducible repeat (first | refine blk_drewN ?_ _ | refine blk_drew ?_ | refine blk_alloc ?_ _)); refine blk_put (cs := #[.int .i64 a0, .int .i64 0]) ?_ 1 _ rfl; (with_reducible repeat (first | refine blk_drewN ?_ _ | refine blk_drew ?_ | refine blk_alloc ?_ _)); refine blk_put (cs := #[.int .i64 0, .int .i64 0]) ?_ 0 _ rfl; (with_reducible repeat (first | refine blk_drewN ?_ _ | refine blk_drew ?_ | refine blk_alloc ?_ _)); exact BK131.out) Try.underlying24 rfl (by kernel_rfl)) rfl ?_
 exact ⟨by first | rfl | (simp [errW_none, errW_some] <;> rfl) | (simp [*, errW_none, errW_some] <;> rfl), by repeat (first | (with_reducible first | exact HB.out | apply below_alloc | apply pw_below_drewN | apply below_drew1 | refine below_set ?_ GE131.out) | exact HB.out)⟩
end Go.Proofs.Ythocalfgeaclgaa.P
end
-- MERGED YthocalfgeaclgaaPvariorumlaw10lives
section

namespace Go.Proofs.Ythocalfgeaclgaa.P
open Go.RowKit Go.Proofs.YthocalfgeaclgaaW.PrintWords Go.Proofs.YthocalfgeaclgaaW.PrintLast Go.Proofs.YthocalfgeaclgaaW.PrintMore
attribute [local go_sem] max2_int min2_int max_two min_two max_three min_three max_four min_four
set_option linter.unusedVariables false
set_option linter.unusedSimpArgs false
attribute [local go_sem high] eqA24
def jj38.f  : Option (Bool) := (some (([(⟨1, (⟨#[]⟩ : ByteArray), 0⟩ : S37), (⟨0, (⟨#[120, 121]⟩ : ByteArray), 0⟩ : S37), (⟨0, (⟨#[]⟩ : ByteArray), 2⟩ : S37), (⟨1, (⟨#[]⟩ : ByteArray), 0⟩ : S37)] : List (S37)) : List (S37))).bind fun y132 => ((jj23.f y132 1 false).bind fun bt135 => ((jj23.f y132 1 true).bind fun bt137 => ((jj12.f 1 3).bind fun bt139 => ((jj25.f y132 bt139.1 bt139.2).bind fun bt141 => ((jj12.f 0 4).bind fun bt145 => ((jj25.f y132 bt145.1 bt145.2).bind fun bt147 => (if bt135.1 = 1 then (if bt137.1 = 3 then (if bt137.2 = true then ((jj12.f 1 1).bind fun bt151 => (if (bt141.1 == bt151.1 && (bt141.2.1 == bt151.2)) = true then ((jj12.f 0 4).bind fun bt153 => (if (bt147.1 == bt153.1 && (bt147.2.1 == bt153.2)) = true then (some bt147.2.2) else (some false))) else (some false))) else (some false)) else (some false)) else (some false))))))))
def jj38.T6 : Bool × List (List Nat × List Nat) := (true, [([], []), ([0], [0]), ([1], [1]), ([2], [2]), ([3, 2], [2, 3]), ([2, 4], [2, 4]), ([5, 2], [5]), ([6], [6]), ([6, 7], [6, 7]), ([8, 6], [8]), ([9], [9]), ([9, 9], [9]), ([10, 11, 9], [9, 10, 11]), ([9, 12], [9, 12]), ([13, 11], [13]), ([14], [14]), ([14, 14], [14]), ([15, 16, 14], [14, 15, 16]), ([14, 17], [14, 17]), ([18, 16], [18]), ([19], [19]), ([19, 20], [19, 20]), ([21, 19, 0, 1, 2, 3, 4, 5, 6, 7, 8, 9, 10, 11, 12, 13, 14, 15, 16, 17, 18, 19, 20, 21], [21])])
def jj38.B6 : List Nat := [0, 1, 3, 7, 15, 31, 63, 127, 255, 511, 1023, 1023, 4095, 8191, 16383, 32767, 32767, 131071, 262143, 524287, 1048575, 2097151, 4194303]
theorem jj38.tab6 : rtab .any (opsOf Try.f13 6) = jj38.T6 := by kernel_rfl
theorem jj38.bits6 : waitsOk jj38.T6.2 jj38.B6 = true := by kernel_rfl
set_option maxHeartbeats 8000000 in
set_option maxRecDepth 100000 in
theorem jj38.calls  (r : Bool) (w : World) (h : jj38.f  = some r) :
  Calls Try.prog 13 #[] w fun e w' => e = .returned (.bool r) ∧ Below w.heap.size w w' := by
 have HR1_ := Aside0.mk (show r = true from (Option.some.inj ((show jj38.f  = some true from rfl).symm.trans h)).symm)
 have hu37 := Try.underlying37
 have hu24 := Try.underlying24
 have HB := Aside0.mk (Below.refl w.heap.size w)
 have H : ((some (([(⟨1, (⟨#[]⟩ : ByteArray), 0⟩ : S37), (⟨0, (⟨#[120, 121]⟩ : ByteArray), 0⟩ : S37), (⟨0, (⟨#[]⟩ : ByteArray), 2⟩ : S37), (⟨1, (⟨#[]⟩ : ByteArray), 0⟩ : S37)] : List (S37)) : List (S37))).bind fun y132 => ((jj23.f y132 1 false).bind fun bt135 => ((jj23.f y132 1 true).bind fun bt137 => ((jj12.f 1 3).bind fun bt139 => ((jj25.f y132 bt139.1 bt139.2).bind fun bt141 => ((jj12.f 0 4).bind fun bt145 => ((jj25.f y132 bt145.1 bt145.2).bind fun bt147 => (if bt135.1 = 1 then (if bt137.1 = 3 then (if bt137.2 = true then ((jj12.f 1 1).bind fun bt151 => (if (bt141.1 == bt151.1 && (bt141.2.1 == bt151.2)) = true then ((jj12.f 0 4).bind fun bt153 => (if (bt147.1 == bt153.1 && (bt147.2.1 == bt153.2)) = true then (some bt147.2.2) else (some false))) else (some false))) else (some false)) else (some false)) else (some false))))))))) = some r := h
 clear h
 obtain ⟨y132, hy132⟩ : ∃ y_ : List (S37), y_ = (([(⟨1, (⟨#[]⟩ : ByteArray), 0⟩ : S37), (⟨0, (⟨#[120, 121]⟩ : ByteArray), 0⟩ : S37), (⟨0, (⟨#[]⟩ : ByteArray), 2⟩ : S37), (⟨1, (⟨#[]⟩ : ByteArray), 0⟩ : S37)] : List (S37))) := ⟨_, rfl⟩
 replace H : ((jj23.f y132 1 false).bind fun bt135 => ((jj23.f y132 1 true).bind fun bt137 => ((jj12.f 1 3).bind fun bt139 => ((jj25.f y132 bt139.1 bt139.2).bind fun bt141 => ((jj12.f 0 4).bind fun bt145 => ((jj25.f y132 bt145.1 bt145.2).bind fun bt147 => (if bt135.1 = 1 then (if bt137.1 = 3 then (if bt137.2 = true then ((jj12.f 1 1).bind fun bt151 => (if (bt141.1 == bt151.1 && (bt141.2.1 == bt151.2)) = true then ((jj12.f 0 4).bind fun bt153 => (if (bt147.1 == bt153.1 && (bt147.2.1 == bt153.2)) = true then (some bt147.2.2) else (some false))) else (some false))) else (some false)) else (some false)) else (some false)))))))) = some r := by (have H2_ := (Option.bind_some _ _).symm.trans H; rw [hy132]; with_reducible exact H2_)
 have Ny132 := Aside0.mk hy132
 clear hy132
 replace H := Option.bind_eq_some_iff.mp H
 obtain ⟨⟨t135, t136⟩, A10, H⟩ := H
 replace H : ((jj23.f y132 1 true).bind fun bt137 => ((jj12.f 1 3).bind fun bt139 => ((jj25.f y132 bt139.1 bt139.2).bind fun bt141 => ((jj12.f 0 4).bind fun bt145 => ((jj25.f y132 bt145.1 bt145.2).bind fun bt147 => (if t135 = 1 then (if bt137.1 = 3 then (if bt137.2 = true then ((jj12.f 1 1).bind fun bt151 => (if (bt141.1 == bt151.1 && (bt141.2.1 == bt151.2)) = true then ((jj12.f 0 4).bind fun bt153 => (if (bt147.1 == bt153.1 && (bt147.2.1 == bt153.2)) = true then (some bt147.2.2) else (some false))) else (some false))) else (some false)) else (some false)) else (some false))))))) = some r := H
 have A1 := Aside0.mk A10
 clear A10
 replace H := Option.bind_eq_some_iff.mp H
 obtain ⟨⟨t137, t138⟩, A20, H⟩ := H
 replace H : ((jj12.f 1 3).bind fun bt139 => ((jj25.f y132 bt139.1 bt139.2).bind fun bt141 => ((jj12.f 0 4).bind fun bt145 => ((jj25.f y132 bt145.1 bt145.2).bind fun bt147 => (if t135 = 1 then (if t137 = 3 then (if t138 = true then ((jj12.f 1 1).bind fun bt151 => (if (bt141.1 == bt151.1 && (bt141.2.1 == bt151.2)) = true then ((jj12.f 0 4).bind fun bt153 => (if (bt147.1 == bt153.1 && (bt147.2.1 == bt153.2)) = true then (some bt147.2.2) else (some false))) else (some false))) else (some false)) else (some false)) else (some false)))))) = some r := H
 have A2 := Aside0.mk A20
 clear A20
 replace H := Option.bind_eq_some_iff.mp H
 obtain ⟨⟨t139, t140⟩, A30, H⟩ := H
 replace H : ((jj25.f y132 t139 t140).bind fun bt141 => ((jj12.f 0 4).bind fun bt145 => ((jj25.f y132 bt145.1 bt145.2).bind fun bt147 => (if t135 = 1 then (if t137 = 3 then (if t138 = true then ((jj12.f 1 1).bind fun bt151 => (if (bt141.1 == bt151.1 && (bt141.2.1 == bt151.2)) = true then ((jj12.f 0 4).bind fun bt153 => (if (bt147.1 == bt153.1 && (bt147.2.1 == bt153.2)) = true then (some bt147.2.2) else (some false))) else (some false))) else (some false)) else (some false)) else (some false))))) = some r := H
 have A3 := Aside0.mk A30
 clear A30
 replace H := Option.bind_eq_some_iff.mp H
 obtain ⟨⟨t141, t142, t143⟩, A40, H⟩ := H
 replace H : ((jj12.f 0 4).bind fun bt145 => ((jj25.f y132 bt145.1 bt145.2).bind fun bt147 => (if t135 = 1 then (if t137 = 3 then (if t138 = true then ((jj12.f 1 1).bind fun bt151 => (if (t141 == bt151.1 && (t142 == bt151.2)) = true then ((jj12.f 0 4).bind fun bt153 => (if (bt147.1 == bt153.1 && (bt147.2.1 == bt153.2)) = true then (some bt147.2.2) else (some false))) else (some false))) else (some false)) else (some false)) else (some false)))) = some r := H
 have A4 := Aside0.mk A40
 clear A40
 replace H := Option.bind_eq_some_iff.mp H
 obtain ⟨⟨t145, t146⟩, A50, H⟩ := H
 replace H : ((jj25.f y132 t145 t146).bind fun bt147 => (if t135 = 1 then (if t137 = 3 then (if t138 = true then ((jj12.f 1 1).bind fun bt151 => (if (t141 == bt151.1 && (t142 == bt151.2)) = true then ((jj12.f 0 4).bind fun bt153 => (if (bt147.1 == bt153.1 && (bt147.2.1 == bt153.2)) = true then (some bt147.2.2) else (some false))) else (some false))) else (some false)) else (some false)) else (some false))) = some r := H
 have A5 := Aside0.mk A50
 clear A50
 replace H := Option.bind_eq_some_iff.mp H
 obtain ⟨⟨t147, t148, t149⟩, A60, H⟩ := H
 replace H : (if t135 = 1 then (if t137 = 3 then (if t138 = true then ((jj12.f 1 1).bind fun bt151 => (if (t141 == bt151.1 && (t142 == bt151.2)) = true then ((jj12.f 0 4).bind fun bt153 => (if (t147 == bt153.1 && (t148 == bt153.2)) = true then (some t149) else (some false))) else (some false))) else (some false)) else (some false)) else (some false)) = some r := H
 have A6 := Aside0.mk A60
 clear A60
 by_cases c7 : t135 = 1
 ·rw [if_pos c7] at H
  have c7b0 : (t135 == 1) = true := beq_iff_eq.mpr c7
  have c7b1 : (t135 != 1) = false := bne_eq_false_iff_eq.mpr c7
  clear c7
  by_cases c8 : t137 = 3
  ·rw [if_pos c8] at H
   have c8b0 : (t137 == 3) = true := beq_iff_eq.mpr c8
   have c8b1 : (t137 != 3) = false := bne_eq_false_iff_eq.mpr c8
   clear c8
   by_cases c9 : t138 = true
   ·subst c9
    have H1 : ((jj12.f 1 1).bind fun bt151 => (if (t141 == bt151.1 && (t142 == bt151.2)) = true then ((jj12.f 0 4).bind fun bt153 => (if (t147 == bt153.1 && (t148 == bt153.2)) = true then (some t149) else (some false))) else (some false))) = some r := by rw [if_pos rfl] at H; exact H
    clear H
    have H := H1
    clear H1
    replace H := Option.bind_eq_some_iff.mp H
    obtain ⟨⟨t151, t152⟩, A100, H⟩ := H
    replace H : (if (t141 == t151 && (t142 == t152)) = true then ((jj12.f 0 4).bind fun bt153 => (if (t147 == bt153.1 && (t148 == bt153.2)) = true then (some t149) else (some false))) else (some false)) = some r := H
    have A10 := Aside0.mk A100
    clear A100
    by_cases c11 : (t141 == t151 && (t142 == t152)) = true
    ·rw [if_pos c11] at H
     have c11b0 : (t141 == t151 && (t142 == t152)) = true := c11
     (try (have c11b1 : decide (t141 = t151 && (t142 == t152)) = true := by simpa using c11))
     (try (have c11b2 : (t141 == t151 && (t142 == t152)) = true := by simpa using c11))
     clear c11
     replace H := Option.bind_eq_some_iff.mp H
     obtain ⟨⟨t153, t154⟩, A120, H⟩ := H
     replace H : (if (t147 == t153 && (t148 == t154)) = true then (some t149) else (some false)) = some r := H
     have A12 := Aside0.mk A120
     clear A120
     by_cases c13 : (t147 == t153 && (t148 == t154)) = true
     ·rw [if_pos c13] at H
      have c13b0 : (t147 == t153 && (t148 == t154)) = true := c13
      (try (have c13b1 : decide (t147 = t153 && (t148 == t154)) = true := by simpa using c13))
      (try (have c13b2 : (t147 == t153 && (t148 == t154)) = true := by simpa using c13))
      clear c13
      obtain rfl := Option.some.inj H
      go_enter Try.func13, Try.ntmps13
      try go_wp2_with (first | ((with_reducible refine gate_dst (N := 14) rfl ?_); refine Kd.R_lit k37 _ 37 ?hg (N := 14) ?hd (xs := ([(⟨1, (⟨#[]⟩ : ByteArray), 0⟩ : S37), (⟨0, (⟨#[120, 121]⟩ : ByteArray), 0⟩ : S37), (⟨0, (⟨#[]⟩ : ByteArray), 2⟩ : S37), (⟨1, (⟨#[]⟩ : ByteArray), 0⟩ : S37)] : List (S37))) (inner := [.int .i64 1, .string (⟨#[]⟩ : ByteArray), .int .i64 0, .int .i64 0, .string (⟨#[120, 121]⟩ : ByteArray), .int .i64 0, .int .i64 0, .string (⟨#[]⟩ : ByteArray), .int .i64 2, .int .i64 1, .string (⟨#[]⟩ : ByteArray), .int .i64 0]) (ok := fun _ => True) (okp := fun _ => True) ?hr ?hp (fun _ hk => hk) trivial (Below.refl _ _) (Nat.le_refl _) (by simp) ?_; (case hd => rfl); (case hg => rfl); (case hr => (go_simp; done)); (case hp => exact (Reps.c3 (show Kd.M k37 _ _ _ (⟨1, (⟨#[]⟩ : ByteArray), 0⟩ : S37) [.int .i64 1, .string (⟨#[]⟩ : ByteArray), .int .i64 0] from (k37_mkM _ _ _ (⟨1, (⟨#[]⟩ : ByteArray), 0⟩ : S37) )) (Reps.c3 (show Kd.M k37 _ _ _ (⟨0, (⟨#[120, 121]⟩ : ByteArray), 0⟩ : S37) [.int .i64 0, .string (⟨#[120, 121]⟩ : ByteArray), .int .i64 0] from (k37_mkM _ _ _ (⟨0, (⟨#[120, 121]⟩ : ByteArray), 0⟩ : S37) )) (Reps.c3 (show Kd.M k37 _ _ _ (⟨0, (⟨#[]⟩ : ByteArray), 2⟩ : S37) [.int .i64 0, .string (⟨#[]⟩ : ByteArray), .int .i64 2] from (k37_mkM _ _ _ (⟨0, (⟨#[]⟩ : ByteArray), 2⟩ : S37) )) (Reps.c3 (show Kd.M k37 _ _ _ (⟨1, (⟨#[]⟩ : ByteArray), 0⟩ : S37) [.int .i64 1, .string (⟨#[]⟩ : ByteArray), .int .i64 0] from (k37_mkM _ _ _ (⟨1, (⟨#[]⟩ : ByteArray), 0⟩ : S37) )) (Reps.none _ _)))))); intro v133 w14 ho15 hb hg_ hnew_; clear hg_ hnew_; ((rw [← Ny132.out] at ho15)); have n0_ := Aside0.mk (Kd.R_lower ho15 (below_size (by repeat ((with_reducible (exact HB.out)))))); have n1_ := Aside0.mk (below_step (by repeat ((with_reducible (exact HB.out)))) hb); clear HB; have HO134 := n0_; have HB := n1_; clear n0_ n1_; clear hb ho15; obtain ⟨Ao16, co16, eo16⟩ := Kd.R_slice HO134.out; subst eo16) | ((with_reducible refine gate_callee (f := 14) rfl ?_); refine goesL_ (some 17) rfl rfl Try.func14 (by kernel_rfl) rfl #[.slice Ao16 y132.length co16, .int .i64 1, .bool false] rfl (by (try simp only [List.map_toArray, List.map_cons, List.map_nil]); (rfl)) ?_; (with_reducible refine (jj23.calls _ _ y132 1 false t135 t136 _ ?side1 ?side2 A1.out).mono ?_); (case side1 => repeat ((exact (Kd.R_reads' HO134.out).2.2))); (case side2 => exact (Kd.R_reads' HO134.out).2.1); rintro e w17 ⟨rfl, hb⟩; refine ⟨_, rfl, ?_⟩; have n0_ := Aside0.mk (Kd.R_below (by (with_reducible repeat ((apply Kd.R_drew))); exact HO134.out) hb); have n1_ := Aside0.mk (below_step (by repeat ((with_reducible (exact HB.out)))) hb); clear HO134; clear HB; have HO134 := n0_; have HB := n1_; clear n0_ n1_; (try clear hb); (try clear hb2); (try clear hk); (try clear hi)) | ((with_reducible refine gate_callee (f := 14) rfl ?_); refine goesL_ (some 22) rfl rfl Try.func14 (by kernel_rfl) rfl #[.slice Ao16 y132.length co16, .int .i64 1, .bool true] rfl (by (try simp only [List.map_toArray, List.map_cons, List.map_nil]); (rfl)) ?_; (with_reducible refine (jj23.calls _ _ y132 1 true t137 true _ ?side1 ?side2 A2.out).mono ?_); (case side1 => repeat ((exact (Kd.R_reads' HO134.out).2.2))); (case side2 => exact (Kd.R_reads' HO134.out).2.1); rintro e w18 ⟨rfl, hb⟩; refine ⟨_, rfl, ?_⟩; have n0_ := Aside0.mk (Kd.R_below (by (with_reducible repeat ((apply Kd.R_drew))); exact HO134.out) hb); have n1_ := Aside0.mk (below_step (by repeat ((with_reducible (exact HB.out)))) hb); clear HO134; clear HB; have HO134 := n0_; have HB := n1_; clear n0_ n1_; (try clear hb); (try clear hb2); (try clear hk); (try clear hi)) | ((with_reducible refine gate_callee (f := 49) rfl ?_); refine goesL_ (some 27) rfl rfl Try.func49 (by kernel_rfl) rfl #[.int .i64 1, .int .i64 3] rfl (by (try simp only [List.map_toArray, List.map_cons, List.map_nil]); (rfl)) ?_; (with_reducible refine (jj12.calls 1 3 t139 t140 _ A3.out).mono ?_); rintro e w19 ⟨rfl, hb⟩; refine ⟨_, rfl, ?_⟩; have n0_ := Aside0.mk (Kd.R_below (by (with_reducible repeat ((apply Kd.R_drew))); exact HO134.out) hb); have n1_ := Aside0.mk (below_step (by repeat ((with_reducible (exact HB.out)))) hb); clear HO134; clear HB; have HO134 := n0_; have HB := n1_; clear n0_ n1_; (try clear hb); (try clear hb2); (try clear hk); (try clear hi)) | ((with_reducible refine gate_callee (f := 16) rfl ?_); refine goesL_ (some 28) rfl rfl Try.func16 (by kernel_rfl) rfl #[.slice Ao16 y132.length co16, .agg #[.int .i64 t139, .int .i64 t140]] rfl (by (try simp only [List.map_toArray, List.map_cons, List.map_nil]); (rfl)) ?_; (with_reducible refine (jj25.calls _ _ y132 t139 t140 t141 t142 t143 _ ?side1 ?side2 A4.out).mono ?_); (case side1 => repeat ((exact (Kd.R_reads' HO134.out).2.2))); (case side2 => exact (Kd.R_reads' HO134.out).2.1); rintro e w20 ⟨rfl, hb⟩; refine ⟨_, rfl, ?_⟩; have n0_ := Aside0.mk (Kd.R_below (by (with_reducible repeat ((apply Kd.R_drew))); exact HO134.out) hb); have n1_ := Aside0.mk (below_step (by repeat ((with_reducible (exact HB.out)))) hb); clear HO134; clear HB; have HO134 := n0_; have HB := n1_; clear n0_ n1_; (try clear hb); (try clear hb2); (try clear hk); (try clear hi)) | ((with_reducible refine gate_dst (N := 6) rfl ?_); refine box_event ?hg (N := 6) ?hd (cs := #[.int .i64 0, .int .i64 0]) (t := 24) ?hr ?_; (case hd => rfl); (case hg => rfl); (case hr => (go_simp; done)); intro gb144 hg w21 hbox hb; have n0_ := Aside0.mk (Kd.R_below (by (with_reducible repeat ((apply Kd.R_drew))); exact HO134.out) hb); have n1_ := Aside0.mk (below_step (by repeat ((with_reducible (exact HB.out)))) hb); have n2_ := Aside0.mk (hbox); have n3_ := Aside0.mk ((by rw [hg]; exact (below_size (by repeat ((with_reducible (exact HB.out))))) : w.heap.size ≤ gb144)); have n4_ := Aside0.mk ((by rw [hg]; exact (below_size (by repeat ((with_reducible (exact HB.out))))) : w.heap.size ≤ gb144)); clear HO134; clear HB; have HO134 := n0_; have HB := n1_; have BK144 := n2_; have GW144 := n3_; have GE144 := n4_; clear n0_ n1_ n2_ n3_ n4_; clear hb hbox hg; have hcz22_0 : w21.cell? ⟨gb144, 0, none⟩ = some (.int .i64 0) := (blk_cell BK144.out 0).trans rfl; have hcz22_1 : w21.cell? ⟨gb144, 1, none⟩ = some (.int .i64 0) := (blk_cell BK144.out 1).trans rfl; have hfz22_0 := blk_frozen BK144.out 0; have hfz22_1 := blk_frozen BK144.out 1) | ((with_reducible refine gate_callee (f := 49) rfl ?_); refine goesL_ (some 33) rfl rfl Try.func49 (by kernel_rfl) rfl #[.int .i64 0, .int .i64 4] rfl (by (try simp only [List.map_toArray, List.map_cons, List.map_nil]); (rfl)) ?_; (with_reducible refine (jj12.calls 0 4 t145 t146 _ A5.out).mono ?_); rintro e w23 ⟨rfl, hb⟩; refine ⟨_, rfl, ?_⟩; have n0_ := Aside0.mk (Kd.R_below (by (with_reducible repeat ((apply Kd.R_drew))); exact (Kd.R_mono (Kd.R_far (p := ⟨gb144, 1, none⟩) (Kd.R_far (p := ⟨gb144, 0, none⟩) (Kd.R_types HO134.out BK144.out (by decide)) (fun _ hk => hk.2) (.int .i64 t141)) (fun _ hk => hk.2) (.int .i64 t142)) (fun _ h_ => h_.1))) hb); have n1_ := Aside0.mk (blk_below (g := gb144) (o := .cells #[.int .i64 t141, .int .i64 t142] 24 (0, 0)) (by (with_reducible repeat ((refine blk_drew ?_))); refine blk_put (cs := #[.int .i64 t141, .int .i64 0]) ?_ 1 _ rfl; (with_reducible repeat ((refine blk_drew ?_))); refine blk_put (cs := #[.int .i64 0, .int .i64 0]) ?_ 0 _ rfl; (with_reducible repeat ((refine blk_drew ?_))); exact BK144.out) hb); have n2_ := Aside0.mk (below_step (by repeat ((with_reducible first | exact HB.out | refine below_set ?_ GE144.out))) hb); clear HO134; clear BK144; clear HB; have HO134 := n0_; have BK144 := n1_; have HB := n2_; clear n0_ n1_ n2_; (try clear hb); (try clear hb2); (try clear hk); (try clear hi)) | ((with_reducible refine gate_callee (f := 16) rfl ?_); refine goesL_ (some 34) rfl rfl Try.func16 (by kernel_rfl) rfl #[.slice Ao16 y132.length co16, .agg #[.int .i64 t145, .int .i64 t146]] rfl (by (try simp only [List.map_toArray, List.map_cons, List.map_nil]); (rfl)) ?_; (with_reducible refine (jj25.calls _ _ y132 t145 t146 t147 t148 t149 _ ?side1 ?side2 A6.out).mono ?_); (case side1 => repeat ((exact (Kd.R_reads' HO134.out).2.2))); (case side2 => exact (Kd.R_reads' HO134.out).2.1); rintro e w24 ⟨rfl, hb⟩; refine ⟨_, rfl, ?_⟩; have n0_ := Aside0.mk (Kd.R_below (by (with_reducible repeat ((apply Kd.R_drew))); exact HO134.out) hb); have n1_ := Aside0.mk (blk_below (g := gb144) (o := .cells #[.int .i64 t141, .int .i64 t142] 24 (0, 0)) (by (with_reducible repeat ((refine blk_drew ?_))); exact BK144.out) hb); have n2_ := Aside0.mk (below_step (by repeat ((with_reducible (exact HB.out)))) hb); clear HO134; clear BK144; clear HB; have HO134 := n0_; have BK144 := n1_; have HB := n2_; clear n0_ n1_ n2_; (try clear hb); (try clear hb2); (try clear hk); (try clear hi)) | ((with_reducible refine gate_dst (N := 8) rfl ?_); refine box_event ?hg (N := 8) ?hd (cs := #[.int .i64 0, .int .i64 0]) (t := 24) ?hr ?_; (case hd => rfl); (case hg => rfl); (case hr => (go_simp; done)); intro gb150 hg w25 hbox hb; have n0_ := Aside0.mk (Kd.R_below (by (with_reducible repeat ((apply Kd.R_drew))); exact HO134.out) hb); have n1_ := Aside0.mk (blk_below (g := gb144) (o := .cells #[.int .i64 t141, .int .i64 t142] 24 (0, 0)) (by (with_reducible repeat ((refine blk_drew ?_))); exact BK144.out) hb); have n2_ := Aside0.mk (below_step (by repeat ((with_reducible (exact HB.out)))) hb); have n3_ := Aside0.mk (hbox); have n4_ := Aside0.mk ((by rw [hg]; exact (below_size (by repeat ((with_reducible (exact HB.out))))) : w.heap.size ≤ gb150)); have n5_ := Aside0.mk ((by rw [hg]; exact (below_size (by repeat ((with_reducible (exact HB.out))))) : w.heap.size ≤ gb150)); have n6_ := Aside0.mk ((by rw [hg]; exact Nat.ne_of_lt (blk_lt (g := gb144) (o := .cells #[.int .i64 t141, .int .i64 t142] 24 (0, 0)) (by (with_reducible repeat ((refine blk_drew ?_))); exact BK144.out)) : gb144 ≠ gb150)); have n7_ := Aside0.mk ((by rw [hg]; exact Nat.ne_of_gt (blk_lt (g := gb144) (o := .cells #[.int .i64 t141, .int .i64 t142] 24 (0, 0)) (by (with_reducible repeat ((refine blk_drew ?_))); exact BK144.out)) : gb150 ≠ gb144)); clear HO134; clear BK144; clear HB; have HO134 := n0_; have BK144 := n1_; have HB := n2_; have BK150 := n3_; have GW150 := n4_; have GE150 := n5_; have NB144_150 := n6_; have NB150_144 := n7_; clear n0_ n1_ n2_ n3_ n4_ n5_ n6_ n7_; clear hb hbox hg; have hnb26 := NB150_144.out; have hnc26 := NB144_150.out; have hcz27_0 : w25.cell? ⟨gb150, 0, none⟩ = some (.int .i64 0) := (blk_cell BK150.out 0).trans rfl; have hcz27_1 : w25.cell? ⟨gb150, 1, none⟩ = some (.int .i64 0) := (blk_cell BK150.out 1).trans rfl; have hfz27_0 := blk_frozen BK150.out 0; have hfz27_1 := blk_frozen BK150.out 1))
      have n0_ : Aside0 (Kd.R k37 37 ((w25.setCell ⟨gb150, 0, none⟩ (.int .i64 t147)).setCell ⟨gb150, 1, none⟩ (.int .i64 t148)) w.heap.size (fun _ => True) (.slice Ao16 y132.length co16) y132) := ⟨by (with_reducible repeat ((apply Kd.R_drew))); exact Kd.R_mono (Kd.R_far (p := ⟨gb150, 1, none⟩) (Kd.R_far (p := ⟨gb150, 0, none⟩) (Kd.R_types HO134.out BK150.out (by decide)) (fun _ hk => hk.2) (.int .i64 t147)) (fun _ hk => hk.2) (.int .i64 t148)) (fun _ hk => trivial)⟩
      have n1_ : Aside0 (((w25.setCell ⟨gb150, 0, none⟩ (.int .i64 t147)).setCell ⟨gb150, 1, none⟩ (.int .i64 t148)).heap[gb144]? = some (.cells #[.int .i64 t141, .int .i64 t142] 24 (0, 0))) := ⟨by (with_reducible repeat ((refine blk_drew ?_))); refine blk_far ?_ NB144_150.out _; (with_reducible repeat ((refine blk_drew ?_))); refine blk_far ?_ NB144_150.out _; (with_reducible repeat ((refine blk_drew ?_))); exact BK144.out⟩
      have n2_ : Aside0 (((w25.setCell ⟨gb150, 0, none⟩ (.int .i64 t147)).setCell ⟨gb150, 1, none⟩ (.int .i64 t148)).heap[gb150]? = some (.cells #[.int .i64 t147, .int .i64 t148] 24 (0, 0))) := ⟨by (with_reducible repeat ((refine blk_drew ?_))); refine blk_put (cs := #[.int .i64 t147, .int .i64 0]) ?_ 1 _ rfl; (with_reducible repeat ((refine blk_drew ?_))); refine blk_put (cs := #[.int .i64 0, .int .i64 0]) ?_ 0 _ rfl; (with_reducible repeat ((refine blk_drew ?_))); exact BK150.out⟩
      have n3_ : Aside0 (Below w.heap.size w ((w25.setCell ⟨gb150, 0, none⟩ (.int .i64 t147)).setCell ⟨gb150, 1, none⟩ (.int .i64 t148))) := ⟨by repeat ((with_reducible first | exact HB.out | refine below_set ?_ GE150.out))⟩
      (try clear HO134)
      (try clear BK144)
      (try clear BK150)
      (try clear HB)
      generalize ((w25.setCell ⟨gb150, 0, none⟩ (.int .i64 t147)).setCell ⟨gb150, 1, none⟩ (.int .i64 t148)) = w28 at n0_ n1_ n2_ n3_ ⊢
      have HO134 := n0_
      have BK144 := n1_
      have BK150 := n2_
      have HB := n3_
      clear n0_ n1_ n2_ n3_
      have n0_ := Aside0.mk (Kd.R_drew HO134.out)
      have n1_ := Aside0.mk (blk_drew BK144.out)
      have n2_ := Aside0.mk (blk_drew BK150.out)
      have n3_ := Aside0.mk (below_drew1 HB.out)
      clear HO134
      clear BK144
      clear BK150
      clear HB
      have HO134 := n0_
      have BK144 := n1_
      have BK150 := n2_
      have HB := n3_
      clear n0_ n1_ n2_ n3_
      refine start_ (n := 23) (S := fun w' => w'.cell? ⟨gb144, 0, none⟩ = some (.int .i64 t141) ∧ w'.cell? ⟨gb144, 1, none⟩ = some (.int .i64 t142) ∧ w'.cell? ⟨gb150, 0, none⟩ = some (.int .i64 t147) ∧ w'.cell? ⟨gb150, 1, none⟩ = some (.int .i64 t148)) (ds := []) #[false, false, false, false, false, false, false, false, false, false, false, false, false, false, false, false, false, false, false, false, false, false, false] (by kernel_rfl) rfl rfl ⟨(blk_cell BK144.out 0).trans rfl, (blk_cell BK144.out 1).trans rfl, (blk_cell BK150.out 0).trans rfl, (blk_cell BK150.out 1).trans rfl⟩ (fun hHeld => ?_); refine with_tabW jj38.tab6 jj38.bits6 (fun HT_ HW_ => ?_)
      generalize w28.drew = w29 at HO134 BK144 BK150 HB hHeld ⊢
      refine pure_ (i := 0) (N := some 37) (v := ?_) (a' := ?_) #[true, false, false, false, false, false, false, false, false, false, false, false, false, false, false, false, false, false, false, false, false, false, false] rfl rfl (any_of HT_.out (by kernel_rfl)) (fun _ _ _ h => h) (Or.inl ⟨by rfl, ?_⟩) ?_ ?_
      rotate_left
      ·intro w'
       go_simp
       with_reducible rfl
      rotate_left
      ·simp only [Act.put, List.setIfInBounds_toArray, List.set_cons_zero, List.set_cons_succ, i64_w, i32_w]
       rfl
      refine pure_ (i := 1) (N := some 38) (v := ?_) (a' := ?_) #[true, true, false, false, false, false, false, false, false, false, false, false, false, false, false, false, false, false, false, false, false, false, false] rfl rfl (any_of HT_.out (by kernel_rfl)) (fun _ _ _ h => h) (Or.inl ⟨by rfl, ?_⟩) ?_ ?_
      rotate_left
      ·intro w'
       go_simp
       with_reducible rfl
      rotate_left
      ·simp only [Act.put, List.setIfInBounds_toArray, List.set_cons_zero, List.set_cons_succ, i64_w, i32_w]
       rfl
      refine pure_ (i := 2) (N := some 39) (v := ?_) (a' := ?_) #[true, true, true, false, false, false, false, false, false, false, false, false, false, false, false, false, false, false, false, false, false, false, false] rfl rfl (any_of HT_.out (by kernel_rfl)) (fun _ _ _ h => h) (Or.inl ⟨by rfl, ?_⟩) ?_ ?_
      rotate_left
      ·intro w'
       go_simp
       with_reducible rfl
      rotate_left
      ·simp only [Act.put, List.setIfInBounds_toArray, List.set_cons_zero, List.set_cons_succ, i64_w, i32_w]
       rfl
      refine pure_ (i := 3) (N := some 40) (v := ?_) (a' := ?_) #[true, true, true, true, false, false, false, false, false, false, false, false, false, false, false, false, false, false, false, false, false, false, false] rfl rfl (any_of HT_.out (by kernel_rfl)) (fun _ _ _ h => h) (Or.inl ⟨by rfl, ?_⟩) ?_ ?_
      rotate_left
      ·intro w'
       go_simp
       with_reducible rfl
      rotate_left
      ·simp only [Act.put, List.setIfInBounds_toArray, List.set_cons_zero, List.set_cons_succ, i64_w, i32_w]
       rfl
      refine pure_ (i := 4) (N := some 41) (v := ?_) (a' := ?_) #[true, true, true, true, true, false, false, false, false, false, false, false, false, false, false, false, false, false, false, false, false, false, false] rfl rfl (any_of HT_.out (by kernel_rfl)) (fun _ _ _ h => h) (Or.inl ⟨by rfl, ?_⟩) ?_ ?_
      rotate_left
      ·intro w'
       go_simp
       with_reducible rfl
      rotate_left
      ·simp only [Act.put, List.setIfInBounds_toArray, List.set_cons_zero, List.set_cons_succ, i64_w, i32_w]
       rfl
      refine pure_ (i := 5) (N := some 42) (v := ?_) (a' := ?_) #[true, true, true, true, true, true, false, false, false, false, false, false, false, false, false, false, false, false, false, false, false, false, false] rfl rfl (any_of HT_.out (by kernel_rfl)) (fun _ _ _ h => h) (Or.inl ⟨by rfl, ?_⟩) ?_ ?_
      rotate_left
      ·intro w'
       go_simp
       with_reducible rfl
      rotate_left
      ·simp only [Act.put, List.setIfInBounds_toArray, List.set_cons_zero, List.set_cons_succ, i64_w, i32_w]
       rfl
      refine pure_ (i := 6) (N := some 43) (v := ?_) (a' := ?_) #[true, true, true, true, true, true, true, false, false, false, false, false, false, false, false, false, false, false, false, false, false, false, false] rfl rfl (any_of HT_.out (by kernel_rfl)) (fun _ _ _ h => h) (Or.inl ⟨by rfl, ?_⟩) ?_ ?_
      rotate_left
      ·intro w'
       go_simp
       with_reducible rfl
      rotate_left
      ·simp only [Act.put, List.setIfInBounds_toArray, List.set_cons_zero, List.set_cons_succ, i64_w, i32_w]
       rfl
      refine pure_ (i := 7) (N := some 44) (v := ?_) (a' := ?_) #[true, true, true, true, true, true, true, true, false, false, false, false, false, false, false, false, false, false, false, false, false, false, false] rfl rfl (any_of HT_.out (by kernel_rfl)) (fun _ _ _ h => h) (Or.inl ⟨by rfl, ?_⟩) ?_ ?_
      rotate_left
      ·intro w'
       go_simp
       with_reducible rfl
      rotate_left
      ·simp only [Act.put, List.setIfInBounds_toArray, List.set_cons_zero, List.set_cons_succ, i64_w, i32_w]
       rfl
      refine pure_ (i := 8) (N := some 45) (v := ?_) (a' := ?_) #[true, true, true, true, true, true, true, true, true, false, false, false, false, false, false, false, false, false, false, false, false, false, false] rfl rfl (any_of HT_.out (by kernel_rfl)) (fun _ _ _ h => h) (Or.inl ⟨by rfl, ?_⟩) ?_ ?_
      rotate_left
      ·intro w'
       go_simp
       with_reducible rfl
      rotate_left
      ·simp only [Act.put, List.setIfInBounds_toArray, List.set_cons_zero, List.set_cons_succ, i64_w, i32_w]
       rfl
      refine pure_ (i := 9) (N := some 46) (v := ?_) (a' := ?_) #[true, true, true, true, true, true, true, true, true, true, false, false, false, false, false, false, false, false, false, false, false, false, false] rfl rfl (any_of HT_.out (by kernel_rfl)) (fun _ _ _ h => h) (Or.inl ⟨by rfl, ?_⟩) ?_ ?_
      rotate_left
      ·intro w'
       go_simp
       with_reducible rfl
      rotate_left
      ·simp only [Act.put, List.setIfInBounds_toArray, List.set_cons_zero, List.set_cons_succ, i64_w, i32_w]
       rfl
      refine take_ (i := 10) (N := some 47) (v := ?_) (a' := ?_) #[true, true, true, true, true, true, true, true, true, true, true, false, false, false, false, false, false, false, false, false, false, false, false] rfl rfl (take_ofW HT_.out HW_.out (by kernel_rfl)) (fun _ _ _ h => h) (Or.inl ⟨by rfl, ?_⟩) hHeld ?_ ?_
      rotate_left
      ·rintro w' ⟨s0, s1, s2, s3⟩
       go_simp
       with_reducible rfl
      rotate_left
      ·simp only [Act.put, List.setIfInBounds_toArray, List.set_cons_zero, List.set_cons_succ, i64_w, i32_w]
       rfl
      refine one_ (i := 11) (N := some 48) #[true, true, true, true, true, true, true, true, true, true, true, true, false, false, false, false, false, false, false, false, false, false, false] rfl rfl (one_of HT_.out (by kernel_rfl)) (by decide) (fun K hK => ?_)
      refine goes_ Try.func49 (by kernel_rfl) rfl #[.int .i64 1, .int .i64 1] (by rfl) rfl rfl (by (try simp only [List.map_toArray, List.map_cons, List.map_nil]); (rfl)) ?_
      with_reducible refine (jj12.calls 1 1 t151 t152 _ A10.out).mono ?_
      rintro e w30 ⟨rfl, hb⟩
      refine ⟨_, rfl, ?_⟩
      have n0_ := Aside0.mk (Kd.R_below (by (with_reducible repeat ((apply Kd.R_drew))); exact HO134.out) hb)
      have n1_ := Aside0.mk (blk_below (g := gb144) (o := .cells #[.int .i64 t141, .int .i64 t142] 24 (0, 0)) (by (with_reducible repeat ((refine blk_drew ?_))); exact BK144.out) hb)
      have n2_ := Aside0.mk (blk_below (g := gb150) (o := .cells #[.int .i64 t147, .int .i64 t148] 24 (0, 0)) (by (with_reducible repeat ((refine blk_drew ?_))); exact BK150.out) hb)
      have n3_ := Aside0.mk (below_step (by repeat ((with_reducible (exact HB.out)))) hb)
      clear HO134
      clear BK144
      clear BK150
      clear HB
      have HO134 := n0_
      have BK144 := n1_
      have BK150 := n2_
      have HB := n3_
      clear n0_ n1_ n2_ n3_
      (try clear hb)
      (try clear hb2)
      (try clear hk)
      (try clear hi)
      refine hK.out _ _ ⟨(blk_cell BK144.out 0).trans rfl, (blk_cell BK144.out 1).trans rfl, (blk_cell BK150.out 0).trans rfl, (blk_cell BK150.out 1).trans rfl⟩ (fun hHeld => ?_)
      clear hK K
      refine norm_ (a' := ?_) ?_ ?_
      rotate_left
      ·show Act.put _ (some 48) _ = _
       simp only [Act.put, List.setIfInBounds_toArray, List.set_cons_zero, List.set_cons_succ, i64_w, i32_w]
       rfl
      refine pure_ (i := 12) (N := some 49) (v := ?_) (a' := ?_) #[true, true, true, true, true, true, true, true, true, true, true, true, true, false, false, false, false, false, false, false, false, false, false] rfl rfl (any_of HT_.out (by kernel_rfl)) (fun _ _ _ h => h) (Or.inl ⟨by rfl, ?_⟩) ?_ ?_
      rotate_left
      ·intro w'
       go_simp
       with_reducible rfl
      rotate_left
      ·simp only [Act.put, List.setIfInBounds_toArray, List.set_cons_zero, List.set_cons_succ, i64_w, i32_w]
       rfl
      refine pure_ (i := 13) (N := some 50) (v := ?_) (a' := ?_) #[true, true, true, true, true, true, true, true, true, true, true, true, true, true, false, false, false, false, false, false, false, false, false] rfl rfl (any_of HT_.out (by kernel_rfl)) (fun _ _ _ h => h) (Or.inl ⟨by rfl, ?_⟩) ?_ ?_
      rotate_left
      ·intro w'
       go_simp
       with_reducible rfl
      rotate_left
      ·simp only [Act.put, List.setIfInBounds_toArray, List.set_cons_zero, List.set_cons_succ, i64_w, i32_w]
       rfl
      refine pure_ (i := 14) (N := some 51) (v := ?_) (a' := ?_) #[true, true, true, true, true, true, true, true, true, true, true, true, true, true, true, false, false, false, false, false, false, false, false] rfl rfl (any_of HT_.out (by kernel_rfl)) (fun _ _ _ h => h) (Or.inl ⟨by rfl, ?_⟩) ?_ ?_
      rotate_left
      ·intro w'
       go_simp
       with_reducible rfl
      rotate_left
      ·simp only [Act.put, List.setIfInBounds_toArray, List.set_cons_zero, List.set_cons_succ, i64_w, i32_w]
       rfl
      refine take_ (i := 15) (N := some 52) (v := ?_) (a' := ?_) #[true, true, true, true, true, true, true, true, true, true, true, true, true, true, true, true, false, false, false, false, false, false, false] rfl rfl (take_ofW HT_.out HW_.out (by kernel_rfl)) (fun _ _ _ h => h) (Or.inl ⟨by rfl, ?_⟩) hHeld ?_ ?_
      rotate_left
      ·rintro w' ⟨s0, s1, s2, s3⟩
       go_simp
       with_reducible rfl
      rotate_left
      ·simp only [Act.put, List.setIfInBounds_toArray, List.set_cons_zero, List.set_cons_succ, i64_w, i32_w]
       rfl
      refine one_ (i := 16) (N := some 53) #[true, true, true, true, true, true, true, true, true, true, true, true, true, true, true, true, true, false, false, false, false, false, false] rfl rfl (one_of HT_.out (by kernel_rfl)) (by decide) (fun K hK => ?_)
      refine goes_ Try.func49 (by kernel_rfl) rfl #[.int .i64 0, .int .i64 4] (by rfl) rfl rfl (by (try simp only [List.map_toArray, List.map_cons, List.map_nil]); (rfl)) ?_
      with_reducible refine (jj12.calls 0 4 t153 t154 _ A12.out).mono ?_
      rintro e w31 ⟨rfl, hb⟩
      refine ⟨_, rfl, ?_⟩
      have n0_ := Aside0.mk (Kd.R_below (by (with_reducible repeat ((apply Kd.R_drew))); exact HO134.out) hb)
      have n1_ := Aside0.mk (blk_below (g := gb144) (o := .cells #[.int .i64 t141, .int .i64 t142] 24 (0, 0)) (by (with_reducible repeat ((refine blk_drew ?_))); exact BK144.out) hb)
      have n2_ := Aside0.mk (blk_below (g := gb150) (o := .cells #[.int .i64 t147, .int .i64 t148] 24 (0, 0)) (by (with_reducible repeat ((refine blk_drew ?_))); exact BK150.out) hb)
      have n3_ := Aside0.mk (below_step (by repeat ((with_reducible (exact HB.out)))) hb)
      clear HO134
      clear BK144
      clear BK150
      clear HB
      have HO134 := n0_
      have BK144 := n1_
      have BK150 := n2_
      have HB := n3_
      clear n0_ n1_ n2_ n3_
      (try clear hb)
      (try clear hb2)
      (try clear hk)
      (try clear hi)
      refine hK.out _ _ ⟨(blk_cell BK144.out 0).trans rfl, (blk_cell BK144.out 1).trans rfl, (blk_cell BK150.out 0).trans rfl, (blk_cell BK150.out 1).trans rfl⟩ (fun hHeld => ?_)
      clear hK K
      refine norm_ (a' := ?_) ?_ ?_
      rotate_left
      ·show Act.put _ (some 53) _ = _
       simp only [Act.put, List.setIfInBounds_toArray, List.set_cons_zero, List.set_cons_succ, i64_w, i32_w]
       rfl
      refine pure_ (i := 17) (N := some 54) (v := ?_) (a' := ?_) #[true, true, true, true, true, true, true, true, true, true, true, true, true, true, true, true, true, true, false, false, false, false, false] rfl rfl (any_of HT_.out (by kernel_rfl)) (fun _ _ _ h => h) (Or.inl ⟨by rfl, ?_⟩) ?_ ?_
      rotate_left
      ·intro w'
       go_simp
       with_reducible rfl
      rotate_left
      ·simp only [Act.put, List.setIfInBounds_toArray, List.set_cons_zero, List.set_cons_succ, i64_w, i32_w]
       rfl
      refine pure_ (i := 18) (N := some 55) (v := ?_) (a' := ?_) #[true, true, true, true, true, true, true, true, true, true, true, true, true, true, true, true, true, true, true, false, false, false, false] rfl rfl (any_of HT_.out (by kernel_rfl)) (fun _ _ _ h => h) (Or.inl ⟨by rfl, ?_⟩) ?_ ?_
      rotate_left
      ·intro w'
       go_simp
       with_reducible rfl
      rotate_left
      ·simp only [Act.put, List.setIfInBounds_toArray, List.set_cons_zero, List.set_cons_succ, i64_w, i32_w]
       rfl
      refine pure_ (i := 19) (N := some 56) (v := ?_) (a' := ?_) #[true, true, true, true, true, true, true, true, true, true, true, true, true, true, true, true, true, true, true, true, false, false, false] rfl rfl (any_of HT_.out (by kernel_rfl)) (fun _ _ _ h => h) (Or.inl ⟨by rfl, ?_⟩) ?_ ?_
      rotate_left
      ·intro w'
       go_simp
       with_reducible rfl
      rotate_left
      ·simp only [Act.put, List.setIfInBounds_toArray, List.set_cons_zero, List.set_cons_succ, i64_w, i32_w]
       rfl
      refine pure_ (i := 20) (N := some 57) (v := ?_) (a' := ?_) #[true, true, true, true, true, true, true, true, true, true, true, true, true, true, true, true, true, true, true, true, true, false, false] rfl rfl (any_of HT_.out (by kernel_rfl)) (fun _ _ _ h => h) (Or.inl ⟨by rfl, ?_⟩) ?_ ?_
      rotate_left
      ·intro w'
       go_simp
       with_reducible rfl
      rotate_left
      ·simp only [Act.put, List.setIfInBounds_toArray, List.set_cons_zero, List.set_cons_succ, i64_w, i32_w]
       rfl
      refine pure_ (i := 21) (N := some 58) (v := ?_) (a' := ?_) #[true, true, true, true, true, true, true, true, true, true, true, true, true, true, true, true, true, true, true, true, true, true, false] rfl rfl (any_of HT_.out (by kernel_rfl)) (fun _ _ _ h => h) (Or.inl ⟨by rfl, ?_⟩) ?_ ?_
      rotate_left
      ·intro w'
       go_simp
       with_reducible rfl
      rotate_left
      ·simp only [Act.put, List.setIfInBounds_toArray, List.set_cons_zero, List.set_cons_succ, i64_w, i32_w]
       rfl
      refine pure_ (i := 22) (N := some 0) (v := ?_) (a' := ?_) #[true, true, true, true, true, true, true, true, true, true, true, true, true, true, true, true, true, true, true, true, true, true, true] rfl rfl (any_of HT_.out (by kernel_rfl)) (fun _ _ _ h => h) (Or.inl ⟨by rfl, ?_⟩) ?_ ?_
      rotate_left
      ·intro w'
       go_simp
       with_reducible rfl
      rotate_left
      ·simp only [Act.put, List.setIfInBounds_toArray, List.set_cons_zero, List.set_cons_succ, i64_w, i32_w]
       rfl
      refine done_ (done_of HT_.out (by kernel_rfl)) ?_
      try go_wp2
      go_ret
      exact ⟨by (rfl), by repeat ((with_reducible (exact HB.out)))⟩
     ·rw [if_neg c13] at H
      have c13b0 : (t147 == t153 && (t148 == t154)) = false := by simpa using c13
      (try (have c13b1 : decide (t147 = t153 && (t148 == t154)) = false := by simpa using c13))
      (try (have c13b2 : (t147 == t153 && (t148 == t154)) = false := by simpa using c13))
      (try (have c13b3 : ¬ (t147 = t153 && (t148 == t154)) := by simpa using c13))
      clear c13
      exact absurd (Option.some.inj (show some false = some r from H)) (by rw [HR1_.out]; decide)
    ·rw [if_neg c11] at H
     have c11b0 : (t141 == t151 && (t142 == t152)) = false := by simpa using c11
     (try (have c11b1 : decide (t141 = t151 && (t142 == t152)) = false := by simpa using c11))
     (try (have c11b2 : (t141 == t151 && (t142 == t152)) = false := by simpa using c11))
     (try (have c11b3 : ¬ (t141 = t151 && (t142 == t152)) := by simpa using c11))
     clear c11
     exact absurd (Option.some.inj (show some false = some r from H)) (by rw [HR1_.out]; decide)
   ·replace c9 := Bool.eq_false_iff.mpr c9
    subst c9
    have H1 : (some false) = some r := by rw [if_neg (show ¬ (false = true) by decide)] at H; exact H
    clear H
    have H := H1
    clear H1
    exact absurd (Option.some.inj (show some false = some r from H)) (by rw [HR1_.out]; decide)
  ·rw [if_neg c8] at H
   have c8b0 : (t137 == 3) = false := beq_eq_false_iff_ne.mpr c8
   have c8b1 : (t137 != 3) = true := bne_iff_ne.mpr c8
   exact absurd (Option.some.inj (show some false = some r from H)) (by rw [HR1_.out]; decide)
 ·rw [if_neg c7] at H
  have c7b0 : (t135 == 1) = false := beq_eq_false_iff_ne.mpr c7
  have c7b1 : (t135 != 1) = true := bne_iff_ne.mpr c7
  exact absurd (Option.some.inj (show some false = some r from H)) (by rw [HR1_.out]; decide)
end Go.Proofs.Ythocalfgeaclgaa.P
end
-- MERGED YthocalfgeaclgaaPlaceF
section

namespace Go.Proofs.Ythocalfgeaclgaa.PlaceF
open Go.RowKit Go.Proofs.Ythocalfgeaclgaa.P Go.Proofs.YthocalfgeaclgaaW.PrintWords Go.Proofs.YthocalfgeaclgaaW.PrintLast Go.Proofs.YthocalfgeaclgaaW.PrintMore Go.Proofs.Ythocalfgeaclgaa.EditL Go.Proofs.Ythocalfgeaclgaa.EditK Go.Proofs.Ythocalfgeaclgaa.EditF Go.Proofs.Ythocalfgeaclgaa.EditG Go.Proofs.Ythocalfgeaclgaa.EditH1 Go.Proofs.Ythocalfgeaclgaa.PlaceI Go.Proofs.Ythocalfgeaclgaa.PlaceM Go.Proofs.Ythocalfgeaclgaa.PlaceC Go.Proofs.Ythocalfgeaclgaa.PlaceS Go.Proofs.Ythocalfgeaclgaa.PlaceL
set_option linter.unusedSimpArgs false
set_option linter.unusedVariables false
theorem few_f (l : List Rn) (k : Nat) (hk : 200 < k) : ∃ b, jj6.f k l = some b ∧ (b = true → l.length ≤ 100 ∧ (good l = true → inL l ≤ 3000 ∧ outL l ≤ 3000)) := by
 unfold jj6.f
 obtain ⟨b, h1, h2⟩ := LightF.light_f l k (by omega)
 rw [h1, Option.bind_some]
 cases b with
 | false => exact ⟨false, rfl, fun h => by cases h⟩
 | true =>
  obtain ⟨hl, _⟩ := h2 rfl
  rw [if_pos rfl, rgood_f (by omega), Option.bind_some]
  cases hg : good l with
  | false => exact ⟨true, rfl, fun _ => ⟨hl, fun h => by cases h⟩⟩
  | true =>
   rw [if_pos rfl, rin_f (by omega) _ (by omega), Option.bind_some, hg, if_pos rfl]
   by_cases h : inL l ≤ 3000
   ·rw [if_pos h, rout_f (by omega) _ (by omega), Option.bind_some, hg, if_pos rfl]
    exact ⟨_, rfl, fun e => ⟨hl, fun _ => ⟨h, of_decide_eq_true e⟩⟩⟩
   ·rw [if_neg h]; exact ⟨false, rfl, fun h => by cases h⟩
set_option maxRecDepth 100000 in
theorem lives_f : jj38.f = some true := by rfl
theorem lives_b : (jj38.f.bind fun t => some t) = some true := by rw [lives_f]; rfl
theorem pmove_f {l : List Rn} (hl : l.length ≤ 140737488351232) (a : Int) (b : Bool) : jj23.f l a b = some (moveL l a b) := by unfold jj23.f; rw [if_pos hl]
theorem pspan_f {l : List Rn} (hl : l.length ≤ 140737488351232) (a b : Int) : jj25.f l a b = some ((spanL l a b).1.1, (spanL l a b).1.2, (spanL l a b).2) := by unfold jj25.f; rw [if_pos hl]
end Go.Proofs.Ythocalfgeaclgaa.PlaceF
end
-- MERGED YthocalfgeaclgaaMaps1
section

namespace Go.Proofs.Ythocalfgeaclgaa.Maps1
open Go.RowKit Go.Proofs.YthocalfgeaclgaaW.PrintWords Go.Proofs.YthocalfgeaclgaaW.PrintLast Go.Proofs.YthocalfgeaclgaaW.PrintMore
theorem C_map {α β : Type} {d : Kd α} {d' : Kd β} {w : World} {A : Option Addr} {n : Nat} {xs : List α} (hs : d.sz = d'.sz) (f : α → β) (hK : ∀ x cs, d.K w x cs → d'.K w (f x) cs) (h : Kd.C d w A n xs) : Kd.C d' w A n (xs.map f) := by
 refine ⟨by rw [List.length_map]; exact h.1, h.2.1, fun hp => ?_⟩
 obtain ⟨ad, e, hr⟩ := h.2.2 hp
 refine ⟨ad, e, fun j p hj => ?_⟩
 rw [List.getElem?_map] at hj
 cases hx : xs[j]? with
 | none => rw [hx] at hj; cases hj
 | some x =>
  rw [hx] at hj
  obtain rfl := Option.some.inj hj
  obtain ⟨c, h1, h2, h3⟩ := hr j x hx
  exact ⟨c, by rw [h1, hs], hK x c h2, fun i u hu => by rw [← hs]; exact h3 i u hu⟩
theorem K_slice_map {α β : Type} {d : Kd α} {d' : Kd β} {w : World} {e : Nat} (hs : d.sz = d'.sz) (f : α → β) (hK : ∀ x cs, d.K w x cs → d'.K w (f x) cs) (xs : List α) (cs : List Value) (h : (Kd.slice e d).K w xs cs) : (Kd.slice e d').K w (xs.map f) cs := by
 obtain ⟨A, c, rfl, h1, h2⟩ := h
 exact ⟨A, c, by rw [List.length_map], by rw [List.length_map]; exact h1, by rw [List.length_map]; exact C_map hs f hK h2⟩
end Go.Proofs.Ythocalfgeaclgaa.Maps1
end
-- MERGED YthocalfgeaclgaaOpens
section

namespace Go.Proofs.Ythocalfgeaclgaa.Opens
open Go.ChangeShapes Go.WideShapes Go.Deep Go.RowKit Go.Proofs.YthocalfgeaclgaaW.PrintWords
def Opens {α : Type} (P : Program) (t : TypeId) (d : Kd α) (ok : α → Prop) : Prop :=
 P.cellsOf t = d.sz ∧ ∀ (H : Type) (enc : TypeId × Value → H) (w : World) (base : Nat) (sp : Nat → Bool) (held : Bool) (fuel : Nat) (cs : List Value) (x : DataW H × List MemPlace),
  DataW.trod enc P w base sp held fuel t cs = some x → ∃ a : α, d.K w a cs ∧ ok a
theorem list_of {α : Type} (Q : Nat → α → Prop) : ∀ len : Nat, (∀ i, i < len → ∃ x, Q i x) → ∃ l : List α, l.length = len ∧ ∀ i x, l[i]? = some x → Q i x
 | 0, _ => ⟨[], rfl, fun i x hx => by simp at hx⟩
 | k + 1, each => by
  obtain ⟨l, hl, hf⟩ := list_of Q k (fun i hi => each i (by omega))
  obtain ⟨x, h1⟩ := each k (by omega)
  refine ⟨l ++ [x], by simp [hl], fun i y hy => ?_⟩
  by_cases hik : i < l.length
  ·rw [List.getElem?_append_left hik] at hy
   exact hf i y hy
  ·rw [List.getElem?_append_right (by omega)] at hy
   have hi0 : i - l.length = 0 := by
    rcases Nat.eq_zero_or_pos (i - l.length) with h | h
    ·exact h
    ·rw [List.getElem?_eq_none (by simp; omega)] at hy; cases hy
   rw [hi0] at hy
   obtain rfl : x = y := by simpa using hy
   obtain rfl : i = k := by omega
   exact h1
section
variable {P : Program} {t e : TypeId} {α β γ δ : Type}
theorem int_ {k : IntKind} (ht : P.underlying t = some (.int k)) (hc : P.cellsOf t = 1) : Opens P t (Kd.int k) (fun n => (Lit.int k n).wf = true) :=
 ⟨hc, fun _ _ _ _ _ _ _ _ _ h => by
  obtain ⟨n, rfl, _, hw⟩ := DataW.trod_int ht h
  exact ⟨n, rfl, hw⟩⟩
theorem string_ (ht : P.underlying t = some .string) (hc : P.cellsOf t = 1) : Opens P t Kd.string (fun s => s.size ≤ maxLen) :=
 ⟨hc, fun _ _ _ _ _ _ _ _ _ h => by
  obtain ⟨n, rfl, _, hw⟩ := DataW.trod_string ht h
  exact ⟨n, rfl, hw⟩⟩
theorem bool_ (ht : P.underlying t = some .bool) (hc : P.cellsOf t = 1) : Opens P t Kd.bool (fun _ => True) :=
 ⟨hc, fun _ _ _ _ _ _ _ _ _ h => by
  obtain ⟨n, rfl, _⟩ := DataW.trod_bool ht h
  exact ⟨n, rfl, trivial⟩⟩
theorem slice_ {d : Kd α} {ok : α → Prop} (ht : P.underlying t = some (.slice e)) (hc : P.cellsOf t = 1) (he : Opens P e d ok) : Opens P t (Kd.slice e d) (fun l => l.length ≤ maxLen ∧ ∀ x ∈ l, ok x) := by
 refine ⟨hc, fun H enc w base sp held fuel cs x h => ?_⟩
 rcases open_slice ht h with ⟨rfl, _⟩ | ⟨a, len, cap, m, n, D, Pl, rfl, hb, hl, hm, hmm, _, hi⟩
 ·refine ⟨[], ⟨none, 0, rfl, Nat.le_refl _, rfl, Nat.zero_le _, fun h => absurd h (by simp)⟩, Nat.zero_le _, fun _ h => by cases h⟩
 ·have hlm : len ≤ m := by rw [hmm]; split <;> omega
  have each : ∀ i, i < len → ∃ (x : α) (cs' : List Value), w.cells? base (a.add (i * P.cellsOf e)) (P.cellsOf e) = some cs' ∧ d.K w x cs' ∧ ok x := by
   intro i hlt
   obtain ⟨cs', h1, h2⟩ := hi i (by omega)
   obtain ⟨x, h3, h4⟩ := he.2 H enc w base sp held n cs' _ h2
   exact ⟨x, cs', h1, h3, h4⟩
  have hex := list_of (fun i x => ∃ cs' : List Value, w.cells? base (a.add (i * P.cellsOf e)) (P.cellsOf e) = some cs' ∧ d.K w x cs' ∧ ok x) len each
  obtain ⟨l, hll, hf⟩ := hex
  subst hll
  refine ⟨l, ⟨some a, cap, rfl, hl, rfl, ?_, fun _ => ⟨a, rfl, fun j p hj => ?_⟩⟩, by omega, fun x hx => ?_⟩
  ·unfold maxLen at hm; omega
  ·obtain ⟨cs', h1, h2, _⟩ := hf j p hj
   obtain ⟨_, h3, h4⟩ := World.cells?_some h1
   refine ⟨cs', d.K_len h2, h2, fun i u hu => ?_⟩
   have hil : i < P.cellsOf e := by
    have := (List.getElem?_eq_some_iff.1 hu).1
    omega
   rw [← Go.Deep.add_add, ← he.1, h4 i hil, hu]
  ·obtain ⟨i, hi⟩ := List.getElem?_of_mem hx
   obtain ⟨_, _, _, h⟩ := hf i x hi
   exact h
theorem struct2_ {d0 : Kd α} {d1 : Kd β} {ok0 : α → Prop} {ok1 : β → Prop} {f0 f1 : Field} (ht : P.underlying t = some (.struct #[f0, f1])) (hc : P.cellsOf t = d0.sz + d1.sz) (h0 : Opens P f0.type d0 ok0) (h1 : Opens P f1.type d1 ok1) (o0 : f0.offset = 0) (o1 : f1.offset = d0.sz) :
  Opens P t (Kd.pair d0 d1) (fun x => ok0 x.1 ∧ ok1 x.2) := by
 refine ⟨hc, fun H enc w base sp held fuel cs x h => ?_⟩
 obtain ⟨ys, n, _, _, hl, hyl, hf⟩ := DataW.trod_struct ht h
 have g0 := hf 0 f0 rfl
 have g1 := hf 1 f1 rfl
 simp only [List.size_toArray, List.length_cons, List.length_nil] at hyl
 rw [List.getElem?_eq_getElem (by omega)] at g0 g1
 obtain ⟨a, ka, oa⟩ := h0.2 _ _ _ _ _ _ _ _ _ g0
 obtain ⟨b, kb, ob⟩ := h1.2 _ _ _ _ _ _ _ _ _ g1
 refine ⟨(a, b), ⟨_, _, ?_, ka, kb⟩, oa, ob⟩
 rw [o0, o1, h0.1, h1.1, List.drop_zero]
 rw [hc] at hl
 have e1 : (cs.drop d0.sz).take d1.sz = cs.drop d0.sz := List.take_of_length_le (by rw [List.length_drop]; omega)
 rw [e1, List.take_append_drop]
theorem struct3_ {d0 : Kd α} {d1 : Kd β} {d2 : Kd γ} {ok0 : α → Prop} {ok1 : β → Prop} {ok2 : γ → Prop} {f0 f1 f2 : Field} (ht : P.underlying t = some (.struct #[f0, f1, f2])) (hc : P.cellsOf t = d0.sz + (d1.sz + d2.sz)) (h0 : Opens P f0.type d0 ok0) (h1 : Opens P f1.type d1 ok1) (h2 : Opens P f2.type d2 ok2)
  (o0 : f0.offset = 0) (o1 : f1.offset = d0.sz) (o2 : f2.offset = d0.sz + d1.sz) : Opens P t (Kd.pair d0 (Kd.pair d1 d2)) (fun x => ok0 x.1 ∧ ok1 x.2.1 ∧ ok2 x.2.2) := by
 refine ⟨hc, fun H enc w base sp held fuel cs x h => ?_⟩
 obtain ⟨ys, n, _, _, hl, hyl, hf⟩ := DataW.trod_struct ht h
 have g0 := hf 0 f0 rfl
 have g1 := hf 1 f1 rfl
 have g2 := hf 2 f2 rfl
 simp only [List.size_toArray, List.length_cons, List.length_nil] at hyl
 rw [List.getElem?_eq_getElem (by omega)] at g0 g1 g2
 obtain ⟨a, ka, oa⟩ := h0.2 _ _ _ _ _ _ _ _ _ g0
 obtain ⟨b, kb, ob⟩ := h1.2 _ _ _ _ _ _ _ _ _ g1
 obtain ⟨c, kc, oc⟩ := h2.2 _ _ _ _ _ _ _ _ _ g2
 refine ⟨(a, b, c), ⟨_, _, ?_, ka, _, _, rfl, kb, kc⟩, oa, ob, oc⟩
 rw [o0, o1, o2, h0.1, h1.1, h2.1, List.drop_zero]
 rw [hc] at hl
 have e1 : (cs.drop (d0.sz + d1.sz)).take d2.sz = cs.drop (d0.sz + d1.sz) := List.take_of_length_le (by rw [List.length_drop]; omega)
 rw [e1, ← List.drop_drop, List.take_append_drop, List.take_append_drop]
theorem struct4_ {d0 : Kd α} {d1 : Kd β} {d2 : Kd γ} {d3 : Kd δ} {ok0 : α → Prop} {ok1 : β → Prop} {ok2 : γ → Prop} {ok3 : δ → Prop} {f0 f1 f2 f3 : Field} (ht : P.underlying t = some (.struct #[f0, f1, f2, f3])) (hc : P.cellsOf t = d0.sz + (d1.sz + (d2.sz + d3.sz)))
  (h0 : Opens P f0.type d0 ok0) (h1 : Opens P f1.type d1 ok1) (h2 : Opens P f2.type d2 ok2) (h3 : Opens P f3.type d3 ok3) (o0 : f0.offset = 0) (o1 : f1.offset = d0.sz) (o2 : f2.offset = d0.sz + d1.sz) (o3 : f3.offset = d0.sz + d1.sz + d2.sz) :
  Opens P t (Kd.pair d0 (Kd.pair d1 (Kd.pair d2 d3))) (fun x => ok0 x.1 ∧ ok1 x.2.1 ∧ ok2 x.2.2.1 ∧ ok3 x.2.2.2) := by
 refine ⟨hc, fun H enc w base sp held fuel cs x h => ?_⟩
 obtain ⟨ys, n, _, _, hl, hyl, hf⟩ := DataW.trod_struct ht h
 have g0 := hf 0 f0 rfl
 have g1 := hf 1 f1 rfl
 have g2 := hf 2 f2 rfl
 have g3 := hf 3 f3 rfl
 simp only [List.size_toArray, List.length_cons, List.length_nil] at hyl
 rw [List.getElem?_eq_getElem (by omega)] at g0 g1 g2 g3
 obtain ⟨a, ka, oa⟩ := h0.2 _ _ _ _ _ _ _ _ _ g0
 obtain ⟨b, kb, ob⟩ := h1.2 _ _ _ _ _ _ _ _ _ g1
 obtain ⟨c, kc, oc⟩ := h2.2 _ _ _ _ _ _ _ _ _ g2
 obtain ⟨q, kq, oq⟩ := h3.2 _ _ _ _ _ _ _ _ _ g3
 refine ⟨(a, b, c, q), ⟨_, _, ?_, ka, _, _, rfl, kb, _, _, rfl, kc, kq⟩, oa, ob, oc, oq⟩
 rw [o0, o1, o2, o3, h0.1, h1.1, h2.1, h3.1, List.drop_zero]
 rw [hc] at hl
 have e1 : (cs.drop (d0.sz + d1.sz + d2.sz)).take d3.sz = cs.drop (d0.sz + d1.sz + d2.sz) := List.take_of_length_le (by rw [List.length_drop]; omega)
 rw [e1, ← List.drop_drop (i := d2.sz), List.take_append_drop, ← List.drop_drop, List.take_append_drop, List.take_append_drop]
theorem arg_ {d : Kd α} {ok : α → Prop} (ho : Opens P t d ok) {H : Type} {enc : TypeId × Value → H} {w : World} {base : Nat} {sp : Nat → Bool} {held : Bool} {v : Value} {x : DataW H} {ps : List MemPlace} (h : DataW.Trod enc P w base sp held t v x ps) : ∃ a : α, d.K w a v.cells.toList ∧ ok a := by
 obtain ⟨fuel, hf⟩ := h
 exact ho.2 _ _ _ _ _ _ _ _ _ hf
end
theorem slice_shape {α : Type} {e : Nat} {d : Kd α} {w : World} {a : Option Addr} {n c : Nat} {l : List α} (h : (Kd.slice e d).K w l (Value.slice a n c).cells.toList) : n = l.length ∧ l.length ≤ c ∧ Kd.C d w a l.length l := by
 obtain ⟨A, c', e1, hc, hC⟩ := h
 simp only [Value.cells, List.cons.injEq, Value.slice.injEq] at e1
 obtain ⟨⟨rfl, rfl, rfl⟩, _⟩ := e1
 exact ⟨rfl, hc, hC⟩
end Go.Proofs.Ythocalfgeaclgaa.Opens
end

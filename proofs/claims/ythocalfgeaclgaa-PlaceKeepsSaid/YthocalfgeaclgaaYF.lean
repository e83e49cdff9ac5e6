import Derived.Test.YthocalfgeaclgaaYE
import Derived.Test.YthocalfgeaclgaaYA
import Derived.Test.YthocalfgeaclgaaYB
-- MERGED YthocalfgeaclgaaPvariorumref09Adds
section

namespace Go.Proofs.Ythocalfgeaclgaa.P
open Go.RowKit Go.Proofs.YthocalfgeaclgaaW.PrintWords Go.Proofs.YthocalfgeaclgaaW.PrintLast Go.Proofs.YthocalfgeaclgaaW.PrintMore
attribute [local go_sem] max2_int min2_int max_two min_two max_three min_three max_four min_four
set_option linter.unusedVariables false
set_option linter.unusedSimpArgs false
mutual
def jj13.l0 : Nat → List (S37) → List ByteArray → Int → Option (List ByteArray)
 | 0, _, _, _ => none
 | k + 1, x0, x3, x4 => if x4 < (x0.length : Int) then (if 0 ≤ (wrap64 ((x3.length : Int) - 1)) then (if (wrap64 ((x3.length : Int) - 1)) < (x3.length : Int) then (if 0 ≤ x4 then (if (rdOf ByteArray.empty x3 (wrap64 ((x3.length : Int) - 1))).size + ((rd_T37 x0 x4).f1).size ≤ 9223372036854775807 then (jj13.l1 k x0 (x3.set ((wrap64 ((x3.length : Int) - 1)) : Int).toNat ((rdOf ByteArray.empty x3 (wrap64 ((x3.length : Int) - 1))) ++ ((rd_T37 x0 x4).f1))) x4 0) else (none)) else (none)) else (none)) else (none)) else (some x3)
def jj13.l1 : Nat → List (S37) → List ByteArray → Int → Int → Option (List ByteArray)
 | 0, _, _, _, _ => none
 | k + 1, x0, x3, x4, x6 => if 0 ≤ x4 then (if x4 < (x0.length : Int) then (if x6 < (wrap64 (((rd_T37 x0 x4).f0) + ((rd_T37 x0 x4).f2))) then (if x3.length < 8796093022208 then (jj13.l1 k x0 (x3 ++ [(⟨#[]⟩ : ByteArray)]) x4 (wrap64 (x6 + 1))) else (none)) else (jj13.l0 k x0 x3 (wrap64 (x4 + 1)))) else (none)) else (none)
end
def jj13.f (k : Nat) (l0 : List (S37)) : Option (List ByteArray) := jj13.l0 k l0 (([(⟨#[]⟩ : ByteArray)] : List ByteArray)) 0
theorem jj13.mono_l : ∀ k, (∀ y0 y1 y2, LeO (jj13.l0 k y0 y1 y2) (jj13.l0 (k + 1) y0 y1 y2)) ∧ (∀ y0 y1 y2 y3, LeO (jj13.l1 k y0 y1 y2 y3) (jj13.l1 (k + 1) y0 y1 y2 y3))
 | 0 => ⟨fun _ _ _ r h => by simp [jj13.l0] at h, fun _ _ _ _ r h => by simp [jj13.l1] at h⟩
 | k + 1 => by
  obtain ⟨ih0, ih1⟩ := jj13.mono_l k
  refine ⟨?_, ?_⟩
  ·intro y0 y1 y2
   unfold jj13.l0
   repeat' first | (with_reducible exact ih1 _ _ _ _) | (with_reducible exact LeO.refl _) | (with_reducible refine LeO.ite ?_ ?_)
  ·intro y0 y1 y2 y3
   unfold jj13.l1
   repeat' first | (with_reducible exact ih0 _ _ _) | (with_reducible exact ih1 _ _ _ _) | (with_reducible exact LeO.refl _) | (with_reducible refine LeO.ite ?_ ?_)
theorem jj13.mono : ∀ a0 k, LeO (jj13.f k a0) (jj13.f (k + 1) a0) := by
 intro a0 k
 obtain ⟨ih0, ih1⟩ := jj13.mono_l k
 unfold jj13.f
 repeat' (with_reducible exact ih0 _ _ _)
def jj13.T6 : Bool × List (List Nat × List Nat) := (true, [([], []), ([], []), ([], []), ([], []), ([2, 3], [2, 3]), ([4], [4]), ([], []), ([], []), ([6, 7], [6, 7]), ([8], [8]), ([9], [9]), ([5, 10], [5, 10]), ([0, 1, 0, 1, 2, 3, 4, 5, 6, 7, 8, 9, 10, 11], [0, 1]), ([12, 11, 0, 1, 2, 3, 4, 5, 6, 7, 8, 9, 10, 11], [11, 12])])
def jj13.B6 : List Nat := [0, 0, 0, 0, 12, 28, 0, 0, 192, 448, 960, 2044, 4095, 8191]
theorem jj13.tab6 : rtab .any (opsOf Try.f40 6) = jj13.T6 := by kernel_rfl
theorem jj13.bits6 : waitsOk jj13.T6.2 jj13.B6 = true := by kernel_rfl
def jj13.T8 : Bool × List (List Nat × List Nat) := (true, [([], []), ([], []), ([], []), ([1, 2], [1, 2]), ([3], [3]), ([4], [4]), ([], []), ([], []), ([6, 7], [6, 7]), ([8], [8]), ([9], [9]), ([5, 10], [5, 10]), ([0, 11], [0, 11])])
def jj13.B8 : List Nat := [0, 0, 0, 6, 14, 30, 0, 0, 192, 448, 960, 2046, 4095]
theorem jj13.tab8 : rtab .any (opsOf Try.f40 8) = jj13.T8 := by kernel_rfl
theorem jj13.bits8 : waitsOk jj13.T8.2 jj13.B8 = true := by kernel_rfl
set_option maxHeartbeats 8000000 in
set_option maxRecDepth 100000 in
theorem jj13.calls (k : Nat) (A0 : Option Addr) (c0 : Nat) (l0 : List (S37)) (r : List ByteArray) (w : World) (hr0 : Kd.C k37 w A0 l0.length l0) (hc0 : l0.length ≤ c0) (h : jj13.f k l0 = some r) :
  Calls Try.prog 40 #[.slice A0 l0.length c0] w fun e w' => ∃ v0_ : Value, e = .returned (v0_) ∧ Kd.R Kd.string 9 w' w.heap.size (fun _ => True) v0_ r ∧ Below w.heap.size w w' := by
 have HR0 := Aside0.mk hr0
 have HC0 := Aside0.mk hc0
 clear hr0 hc0
 have HB := Aside0.mk (Below.refl w.heap.size w)
 have H : (jj13.l0 k l0 (([(⟨#[]⟩ : ByteArray)] : List ByteArray)) 0) = some r := h
 clear h
 obtain ⟨y155, hy155⟩ : ∃ y_ : List ByteArray, y_ = (([(⟨#[]⟩ : ByteArray)] : List ByteArray)) := ⟨_, rfl⟩
 replace H : (jj13.l0 k l0 y155 0) = some r := by (rw [hy155]; with_reducible exact H)
 have Ny155 := Aside0.mk hy155
 clear hy155
 have H' := Aside0.mk H
 clear H
 go_enter Try.func40, Try.ntmps40
 go_wp2_with (first | ((with_reducible refine gate_dst (N := 7) rfl ?_); refine Kd.R_lit Kd.string _ 9 ?hg (N := 7) ?hd (xs := ([(⟨#[]⟩ : ByteArray)] : List ByteArray)) (inner := [.string (⟨#[]⟩ : ByteArray)]) (ok := fun _ => True) (okp := fun _ => True) ?hr ?hp (fun _ hk => hk) trivial (Below.refl _ _) (Nat.le_refl _) (by simp) ?_; (case hd => rfl); (case hg => rfl); (case hr => (go_simp; done)); (case hp => exact (Reps.one (show Kd.M Kd.string _ _ _ (⟨#[]⟩ : ByteArray) [.string (⟨#[]⟩ : ByteArray)] from rfl) (Reps.none _ _))); intro v156 w2 ho3 hb hg_ hnew_; clear hg_ hnew_; ((rw [← Ny155.out] at ho3)); have n0_ := Aside0.mk (Kd.R_lower ho3 (below_size (by repeat ((with_reducible (exact HB.out)))))); have n1_ := Aside0.mk (below_step (by repeat ((with_reducible (exact HB.out)))) hb); clear HB; have HO157 := n0_; have HB := n1_; clear n0_ n1_; clear hb ho3))
 go_loopg [3, 4] k (fun kq v3 v4 w' => ∃ (x3_1 : List ByteArray) (x4_1 : Int), v4 = .int .i64 x4_1 ∧ Aside0 (jj13.l0 kq l0 x3_1 x4_1 = some r) ∧ Aside0 (kq ≤ k) ∧ Aside0 (Kd.R Kd.string 9 w' w.heap.size (fun _ => True) v3 x3_1) ∧ Aside0 (Below w.heap.size w w'))
 case atStart => exact ⟨(y155), (0), (by (rfl)), H', ⟨Nat.le_refl _⟩, ⟨by (with_reducible repeat ((apply Kd.R_drew))); exact HO157.out⟩, ⟨by repeat ((with_reducible (exact HB.out)))⟩⟩
 case round =>
  clear H'
  try clear p2
  obtain ⟨x3_1, x4_1, rfl, HA, HK1, HO_3, HB⟩ := hrel
  cases gk with
  | zero => exact absurd HA.out (by simp [jj13.l0])
  | succ k1 =>
   have H := HA.out
   clear HA
   simp only [jj13.l0] at H
   by_cases c4 : x4_1 < (l0.length : Int)
   ·rw [if_pos c4] at H
    have c4b0 : decide (x4_1 < (l0.length : Int)) = true := decide_eq_true c4
    clear c4
    obtain ⟨ji5, hji5⟩ : ∃ j_ : Int, (wrap64 ((x3_1.length : Int) - 1)) = j_ := ⟨_, rfl⟩
    replace H : (if 0 ≤ (ji5) then (if (ji5) < (x3_1.length : Int) then (if 0 ≤ x4_1 then (if (rdOf ByteArray.empty x3_1 (ji5)).size + ((rd_T37 l0 x4_1).f1).size ≤ 9223372036854775807 then (jj13.l1 k1 l0 (x3_1.set ((ji5) : Int).toNat ((rdOf ByteArray.empty x3_1 (ji5)) ++ ((rd_T37 l0 x4_1).f1))) x4_1 0) else (none)) else (none)) else (none)) else (none)) = some r := by (rw [hji5] at H; exact H)
    have hji5w : (IntKind.i64.wrap ((x3_1.length : Int) - 1)) = ji5 := (i64_w _).trans hji5
    by_cases c6 : 0 ≤ (ji5)
    ·rw [if_pos c6] at H
     have c6b0 : decide (0 ≤ (ji5)) = true := decide_eq_true c6
     clear c6
     by_cases c7 : (ji5) < (x3_1.length : Int)
     ·rw [if_pos c7] at H
      have c7b0 : decide ((ji5) < (x3_1.length : Int)) = true := decide_eq_true c7
      clear c7
      by_cases c8 : 0 ≤ x4_1
      ·rw [if_pos c8] at H
       have c8b0 : decide (0 ≤ x4_1) = true := decide_eq_true c8
       clear c8
       by_cases c9 : (rdOf ByteArray.empty x3_1 (ji5)).size + ((rd_T37 l0 x4_1).f1).size ≤ 9223372036854775807
       ·rw [if_pos c9] at H
        have c9b0 := eq_true c9
        have c9b1 : decide ((rdOf ByteArray.empty x3_1 (ji5)).size + ((rd_T37 l0 x4_1).f1).size ≤ 9223372036854775807) = true := decide_eq_true c9
        try have c9b2 : (9223372036854775807 < (rdOf ByteArray.empty x3_1 (ji5)).size + ((rd_T37 l0 x4_1).f1).size) = False := eq_false (Nat.not_lt.2 c9)
        obtain ⟨y160, hy160⟩ : ∃ y_ : List ByteArray, y_ = (x3_1.set ((ji5) : Int).toNat ((rdOf ByteArray.empty x3_1 (ji5)) ++ ((rd_T37 l0 x4_1).f1))) := ⟨_, rfl⟩
        replace H : (jj13.l1 k1 l0 y160 x4_1 0) = some r := by (rw [hy160]; with_reducible exact H)
        have Ny160 := Aside0.mk hy160
        clear hy160
        have H' := Aside0.mk H
        clear H
        obtain ⟨Ao11, co11, eo11⟩ := Kd.R_slice HO_3.out
        subst eo11
        try go_wp2
        have n0_ := Aside0.mk (Kd.R_drew HO_3.out)
        have n1_ := Aside0.mk (below_drew1 HB.out)
        clear HO_3
        clear HB
        have HO_3 := n0_
        have HB := n1_
        clear n0_ n1_
        have p158 : 0 ≤ ((ji5) : Int) := of_decide_eq_true (by (with_reducible assumption))
        have q158 : (ji5) < (x3_1.length : Int) := of_decide_eq_true (by (with_reducible assumption))
        obtain ⟨ad158, e158, hx158_0⟩ := Kd.at_string (Kd.R_reads' HO_3.out).2.2 (ji5) p158 q158
        cases e158
        replace p158 := eq_true p158
        replace q158 := eq_true q158
        have p159 : 0 ≤ (x4_1 : Int) := of_decide_eq_true (by (with_reducible assumption))
        have q159 : x4_1 < (l0.length : Int) := of_decide_eq_true (by (with_reducible assumption))
        obtain ⟨ad159, e159, hx159_0, hx159_1, hx159_2⟩ := at_T37 HR0.out x4_1 p159 q159
        have hw159_2 := hx159_2
        have hw159_1 := hx159_1
        have hw159_0 := hx159_0
        cases e159
        replace hx159_0 := (HB.out.cell (World.block_lt_of_cell? w _ hx159_0)).trans hx159_0
        replace hx159_1 := (HB.out.cell (World.block_lt_of_cell? w _ hx159_1)).trans hx159_1
        replace hx159_2 := (HB.out.cell (World.block_lt_of_cell? w _ hx159_2)).trans hx159_2
        replace p159 := eq_true p159
        replace q159 := eq_true q159
        have p10 : 0 ≤ ((ji5) : Int) := of_decide_eq_true (by (with_reducible assumption))
        have q10 : ((ji5) : Int) < ((x3_1.length : Int) : Int) := of_decide_eq_true (by (with_reducible assumption))
        obtain ⟨go10, co10, eo10, gb10, gl10, cl10, HG10⟩ := Kd.R_form HO_3.out (by omega)
        ((cases eo10))
        have GB10 := Aside0.mk gb10
        have GG10 := Aside0.mk HG10
        clear gb10 gl10 HG10
        ((simp only [add_plain] at hx158_0))
        obtain ⟨hx10_0, hf10_0⟩ := Kd.R_celln (⟨#[]⟩ : ByteArray) HO_3.out ((ji5) : Int) p10 q10
        replace p10 := eq_true p10
        replace q10 := eq_true q10
        have HP13 := Kd.R_putn HO_3.out ((ji5) : Int) ((rdOf ByteArray.empty x3_1 (ji5)) ++ ((rd_T37 l0 x4_1).f1))
        rw [← Ny160.out] at HP13
        have HQ13 := Aside0.mk HP13
        clear HP13
        refine start_ (n := 14) (S := fun w' => w'.cell? ⟨go10, ((ji5)).toNat, none⟩ = some (.string (rdOf ByteArray.empty x3_1 (ji5))) ∧ w'.cell? (ad159.add ((x4_1).toNat * 3)) = some (.int .i64 ((rd_T37 l0 x4_1).f0)) ∧ w'.cell? ⟨(ad159.add ((x4_1).toNat * 3)).block, (ad159.add ((x4_1).toNat * 3)).off + 1, none⟩ = some (.string ((rd_T37 l0 x4_1).f1)) ∧ w'.cell? ⟨(ad159.add ((x4_1).toNat * 3)).block, (ad159.add ((x4_1).toNat * 3)).off + 2, none⟩ = some (.int .i64 ((rd_T37 l0 x4_1).f2))) (ds := [13]) #[false, false, false, false, false, false, false, false, false, false, false, false, false, false] (by kernel_rfl) rfl rfl ⟨hx158_0, ((HB.out.cell (World.block_lt_of_cell? w _ hw159_0)).trans hw159_0), ((HB.out.cell (World.block_lt_of_cell? w _ hw159_1)).trans hw159_1), ((HB.out.cell (World.block_lt_of_cell? w _ hw159_2)).trans hw159_2)⟩ (fun hHeld => ?_); refine with_tabW jj13.tab6 jj13.bits6 (fun HT_ HW_ => ?_)
        generalize wr.drew = w12 at HO_3 HB GG10 HQ13 hf10_0 hx10_0 hx158_0 hx159_0 hx159_1 hx159_2 hHeld ⊢
        refine pure_ (i := 0) (N := some 17) (v := ?_) (a' := ?_) #[true, false, false, false, false, false, false, false, false, false, false, false, false, false] rfl rfl (any_of HT_.out (by kernel_rfl)) (fun _ _ _ h => h) (Or.inl ⟨by rfl, ?_⟩) ?_ ?_
        rotate_left
        ·intro w'
         go_simp
         with_reducible rfl
        rotate_left
        ·simp only [Act.put, List.setIfInBounds_toArray, List.set_cons_zero, List.set_cons_succ, i64_w, i32_w]
         rfl
        refine pure_ (i := 1) (N := some 18) (v := ?_) (a' := ?_) #[true, true, false, false, false, false, false, false, false, false, false, false, false, false] rfl rfl (any_of HT_.out (by kernel_rfl)) (fun _ _ _ h => h) (Or.inl ⟨by rfl, ?_⟩) ?_ ?_
        rotate_left
        ·intro w'
         go_simp
         with_reducible rfl
        rotate_left
        ·simp only [Act.put, List.setIfInBounds_toArray, List.set_cons_zero, List.set_cons_succ, i64_w, i32_w]
         rfl
        refine pure_ (i := 2) (N := some 19) (v := ?_) (a' := ?_) #[true, true, true, false, false, false, false, false, false, false, false, false, false, false] rfl rfl (any_of HT_.out (by kernel_rfl)) (fun _ _ _ h => h) (Or.inl ⟨by rfl, ?_⟩) ?_ ?_
        rotate_left
        ·intro w'
         go_simp
         with_reducible rfl
        rotate_left
        ·simp only [Act.put, List.setIfInBounds_toArray, List.set_cons_zero, List.set_cons_succ, i64_w, i32_w]
         rfl
        refine pure_ (i := 3) (N := some 20) (v := ?_) (a' := ?_) #[true, true, true, true, false, false, false, false, false, false, false, false, false, false] rfl rfl (any_of HT_.out (by kernel_rfl)) (fun _ _ _ h => h) (Or.inl ⟨by rfl, ?_⟩) ?_ ?_
        rotate_left
        ·intro w'
         go_simp
         with_reducible rfl
        rotate_left
        ·simp only [Act.put, List.setIfInBounds_toArray, List.set_cons_zero, List.set_cons_succ, i64_w, i32_w]
         rfl
        refine pure_ (i := 4) (N := some 21) (v := ?_) (a' := ?_) #[true, true, true, true, true, false, false, false, false, false, false, false, false, false] rfl rfl (any_of HT_.out (by kernel_rfl)) (fun _ _ _ h => h) (Or.inl ⟨by rfl, ?_⟩) ?_ ?_
        rotate_left
        ·intro w'
         go_simp
         with_reducible rfl
        rotate_left
        ·simp only [Act.put, List.setIfInBounds_toArray, List.set_cons_zero, List.set_cons_succ, i64_w, i32_w]
         rfl
        refine pure_ (i := 6) (N := some 23) (v := ?_) (a' := ?_) #[true, true, true, true, true, false, true, false, false, false, false, false, false, false] rfl rfl (any_of HT_.out (by kernel_rfl)) (fun _ _ _ h => h) (Or.inl ⟨by rfl, ?_⟩) ?_ ?_
        rotate_left
        ·intro w'
         go_simp
         with_reducible rfl
        rotate_left
        ·simp only [Act.put, List.setIfInBounds_toArray, List.set_cons_zero, List.set_cons_succ, i64_w, i32_w]
         rfl
        refine pure_ (i := 7) (N := some 24) (v := ?_) (a' := ?_) #[true, true, true, true, true, false, true, true, false, false, false, false, false, false] rfl rfl (any_of HT_.out (by kernel_rfl)) (fun _ _ _ h => h) (Or.inl ⟨by rfl, ?_⟩) ?_ ?_
        rotate_left
        ·intro w'
         go_simp
         with_reducible rfl
        rotate_left
        ·simp only [Act.put, List.setIfInBounds_toArray, List.set_cons_zero, List.set_cons_succ, i64_w, i32_w]
         rfl
        refine pure_ (i := 8) (N := some 25) (v := ?_) (a' := ?_) #[true, true, true, true, true, false, true, true, true, false, false, false, false, false] rfl rfl (any_of HT_.out (by kernel_rfl)) (fun _ _ _ h => h) (Or.inl ⟨by rfl, ?_⟩) ?_ ?_
        rotate_left
        ·intro w'
         go_simp
         with_reducible rfl
        rotate_left
        ·simp only [Act.put, List.setIfInBounds_toArray, List.set_cons_zero, List.set_cons_succ, i64_w, i32_w]
         rfl
        refine pure_ (i := 9) (N := some 26) (v := ?_) (a' := ?_) #[true, true, true, true, true, false, true, true, true, true, false, false, false, false] rfl rfl (any_of HT_.out (by kernel_rfl)) (fun _ _ _ h => h) (Or.inl ⟨by rfl, ?_⟩) ?_ ?_
        rotate_left
        ·intro w'
         go_simp
         with_reducible rfl
        rotate_left
        ·simp only [Act.put, List.setIfInBounds_toArray, List.set_cons_zero, List.set_cons_succ, i64_w, i32_w]
         rfl
        refine take_ (i := 5) (N := some 22) (v := ?_) (a' := ?_) #[true, true, true, true, true, true, true, true, true, true, false, false, false, false] rfl rfl (take_ofW HT_.out HW_.out (by kernel_rfl)) (fun _ _ _ h => h) (Or.inl ⟨by rfl, ?_⟩) hHeld ?_ ?_
        rotate_left
        ·rintro w' ⟨s0, s1, s2, s3⟩
         go_simp
         with_reducible rfl
        rotate_left
        ·simp only [Act.put, List.setIfInBounds_toArray, List.set_cons_zero, List.set_cons_succ, i64_w, i32_w]
         rfl
        refine take_ (i := 10) (N := some 27) (v := ?_) (a' := ?_) #[true, true, true, true, true, true, true, true, true, true, true, false, false, false] rfl rfl (take_ofW HT_.out HW_.out (by kernel_rfl)) (fun _ _ _ h => h) (Or.inl ⟨by rfl, ?_⟩) hHeld ?_ ?_
        rotate_left
        ·rintro w' ⟨s0, s1, s2, s3⟩
         go_simp
         with_reducible rfl
        rotate_left
        ·simp only [Act.put, List.setIfInBounds_toArray, List.set_cons_zero, List.set_cons_succ, i64_w, i32_w]
         rfl
        refine pure_ (i := 11) (N := some 28) (v := ?_) (a' := ?_) #[true, true, true, true, true, true, true, true, true, true, true, true, false, false] rfl rfl (any_of HT_.out (by kernel_rfl)) (fun _ _ _ h => h) (Or.inl ⟨by rfl, ?_⟩) ?_ ?_
        rotate_left
        ·intro w'
         go_simp
         with_reducible rfl
        rotate_left
        ·simp only [Act.put, List.setIfInBounds_toArray, List.set_cons_zero, List.set_cons_succ, i64_w, i32_w]
         rfl
        refine pure_ (i := 12) (N := some 29) (v := ?_) (a' := ?_) #[true, true, true, true, true, true, true, true, true, true, true, true, true, false] rfl rfl (any_of HT_.out (by kernel_rfl)) (fun _ _ _ h => h) (Or.inl ⟨by rfl, ?_⟩) ?_ ?_
        rotate_left
        ·intro w'
         go_simp
         with_reducible rfl
        rotate_left
        ·simp only [Act.put, List.setIfInBounds_toArray, List.set_cons_zero, List.set_cons_succ, i64_w, i32_w]
         rfl
        refine last_ (i := 13) (N := none) #[true, true, true, true, true, true, true, true, true, true, true, true, true, true] rfl rfl (one_of HT_.out (by kernel_rfl)) (by decide) (fun K hK => ?_)
        refine skip_ (w1 := ?_) (by rfl) rfl ?_ ?_
        rotate_left
        ·go_simp
         rfl
        refine hK.out _ _ ?_
        clear hK K
        refine done_ (done_of HT_.out (by kernel_rfl)) ?_
        try go_wp2
        go_loopg [3, 6] k1 (fun kq v3 v6 w' => ∃ (x3_2 : List ByteArray) (x6_2 : Int), v6 = .int .i64 x6_2 ∧ Aside0 (jj13.l1 kq l0 x3_2 x4_1 x6_2 = some r) ∧ Aside0 (kq ≤ k1) ∧ Aside0 (Kd.R Kd.string 9 w' w.heap.size (fun _ => True) v3 x3_2) ∧ Aside0 (Below w.heap.size w w'))
        case atStart => exact ⟨(y160), (0), (by (rfl)), H', ⟨Nat.le_refl _⟩, ⟨by (with_reducible repeat ((apply Kd.R_drew))); exact HQ13.out⟩, ⟨by repeat ((with_reducible first | exact HB.out | refine below_set ?_ GB10.out))⟩⟩
        case round =>
         clear H'
         try clear p1
         try clear q1
         try clear hx1
         try clear hf1
         try clear p2
         try clear c4
         try clear c4b0
         try clear c6
         try clear c6b0
         try clear p6
         try clear c7
         try clear c7b0
         try clear c8
         try clear c8b0
         try clear c9
         try clear c9b0
         try clear c9b1
         try clear c9b2
         try clear p10
         try clear q10
         try clear hx10
         try clear hf10
         try clear hx10_0
         try clear hx158_0
         try clear hx159_0
         try clear hx159_1
         try clear hx159_2
         try clear p10
         try clear p158
         try clear p159
         try clear p2
         try clear q10
         try clear q158
         try clear q159
         obtain ⟨x3_2, x6_2, rfl, HA, HK2, HO_3, HB⟩ := hrel
         cases gk with
         | zero => exact absurd HA.out (by simp [jj13.l1])
         | succ k2 =>
          have H := HA.out
          clear HA
          simp only [jj13.l1] at H
          by_cases c14 : 0 ≤ x4_1
          ·rw [if_pos c14] at H
           have c14b0 : decide (0 ≤ x4_1) = true := decide_eq_true c14
           clear c14
           by_cases c15 : x4_1 < (l0.length : Int)
           ·rw [if_pos c15] at H
            have c15b0 : decide (x4_1 < (l0.length : Int)) = true := decide_eq_true c15
            clear c15
            by_cases c16 : x6_2 < (wrap64 (((rd_T37 l0 x4_1).f0) + ((rd_T37 l0 x4_1).f2)))
            ·rw [if_pos c16] at H
             have c16b0 : decide (x6_2 < (wrap64 (((rd_T37 l0 x4_1).f0) + ((rd_T37 l0 x4_1).f2)))) = true := decide_eq_true c16
             clear c16
             by_cases c17 : x3_2.length < 8796093022208
             ·rw [if_pos c17] at H
              have LMc17 := Aside0.mk c17
              clear c17
              obtain ⟨y163, hy163⟩ : ∃ y_ : List ByteArray, y_ = (x3_2 ++ [(⟨#[]⟩ : ByteArray)]) := ⟨_, rfl⟩
              replace H : (jj13.l1 k2 l0 y163 x4_1 (wrap64 (x6_2 + 1))) = some r := by (rw [hy163]; with_reducible exact H)
              have Ny163 := Aside0.mk hy163
              clear hy163
              have H' := Aside0.mk H
              clear H
              try go_wp2
              have n0_ := Aside0.mk (Kd.R_drew HO_3.out)
              have n1_ := Aside0.mk (below_drew1 HB.out)
              clear HO_3
              clear HB
              have HO_3 := n0_
              have HB := n1_
              clear n0_ n1_
              have p161 : 0 ≤ (x4_1 : Int) := of_decide_eq_true (by (with_reducible assumption))
              have q161 : x4_1 < (l0.length : Int) := of_decide_eq_true (by (with_reducible assumption))
              obtain ⟨ad161, e161, hx161_0, hx161_1, hx161_2⟩ := at_T37 HR0.out x4_1 p161 q161
              have hw161_2 := hx161_2
              have hw161_1 := hx161_1
              have hw161_0 := hx161_0
              obtain rfl : ad159 = ad161 := (by injection e161)
              replace hx161_0 := (HB.out.cell (World.block_lt_of_cell? w _ hx161_0)).trans hx161_0
              replace hx161_1 := (HB.out.cell (World.block_lt_of_cell? w _ hx161_1)).trans hx161_1
              replace hx161_2 := (HB.out.cell (World.block_lt_of_cell? w _ hx161_2)).trans hx161_2
              replace p161 := eq_true p161
              replace q161 := eq_true q161
              have p162 : 0 ≤ (x4_1 : Int) := of_decide_eq_true (by (with_reducible assumption))
              have q162 : x4_1 < (l0.length : Int) := of_decide_eq_true (by (with_reducible assumption))
              obtain ⟨ad162, e162, hx162_0, hx162_1, hx162_2⟩ := at_T37 HR0.out x4_1 p162 q162
              have hw162_2 := hx162_2
              have hw162_1 := hx162_1
              have hw162_0 := hx162_0
              obtain rfl : ad159 = ad162 := (by injection e162)
              replace hx162_0 := (HB.out.cell (World.block_lt_of_cell? w _ hx162_0)).trans hx162_0
              replace hx162_1 := (HB.out.cell (World.block_lt_of_cell? w _ hx162_1)).trans hx162_1
              replace hx162_2 := (HB.out.cell (World.block_lt_of_cell? w _ hx162_2)).trans hx162_2
              replace p162 := eq_true p162
              replace q162 := eq_true q162
              refine start_ (n := 13) (S := fun w' => w'.cell? (ad159.add ((x4_1).toNat * 3)) = some (.int .i64 ((rd_T37 l0 x4_1).f0)) ∧ w'.cell? ⟨(ad159.add ((x4_1).toNat * 3)).block, (ad159.add ((x4_1).toNat * 3)).off + 1, none⟩ = some (.string ((rd_T37 l0 x4_1).f1)) ∧ w'.cell? ⟨(ad159.add ((x4_1).toNat * 3)).block, (ad159.add ((x4_1).toNat * 3)).off + 2, none⟩ = some (.int .i64 ((rd_T37 l0 x4_1).f2)) ∧ w'.cell? (ad159.add ((x4_1).toNat * 3)) = some (.int .i64 ((rd_T37 l0 x4_1).f0)) ∧ w'.cell? ⟨(ad159.add ((x4_1).toNat * 3)).block, (ad159.add ((x4_1).toNat * 3)).off + 1, none⟩ = some (.string ((rd_T37 l0 x4_1).f1)) ∧ w'.cell? ⟨(ad159.add ((x4_1).toNat * 3)).block, (ad159.add ((x4_1).toNat * 3)).off + 2, none⟩ = some (.int .i64 ((rd_T37 l0 x4_1).f2))) (ds := []) #[false, false, false, false, false, false, false, false, false, false, false, false, false] (by kernel_rfl) rfl rfl ⟨((HB.out.cell (World.block_lt_of_cell? w _ hw161_0)).trans hw161_0), ((HB.out.cell (World.block_lt_of_cell? w _ hw161_1)).trans hw161_1), ((HB.out.cell (World.block_lt_of_cell? w _ hw161_2)).trans hw161_2), ((HB.out.cell (World.block_lt_of_cell? w _ hw162_0)).trans hw162_0), ((HB.out.cell (World.block_lt_of_cell? w _ hw162_1)).trans hw162_1), ((HB.out.cell (World.block_lt_of_cell? w _ hw162_2)).trans hw162_2)⟩ (fun hHeld => ?_); refine with_tabW jj13.tab8 jj13.bits8 (fun HT_ HW_ => ?_)
              generalize wr.drew = w18 at HO_3 HB hx161_0 hx161_1 hx161_2 hx162_0 hx162_1 hx162_2 hHeld ⊢
              refine pure_ (i := 0) (N := some 30) (v := ?_) (a' := ?_) #[true, false, false, false, false, false, false, false, false, false, false, false, false] rfl rfl (any_of HT_.out (by kernel_rfl)) (fun _ _ _ h => h) (Or.inl ⟨by rfl, ?_⟩) ?_ ?_
              rotate_left
              ·intro w'
               go_simp
               with_reducible rfl
              rotate_left
              ·simp only [Act.put, List.setIfInBounds_toArray, List.set_cons_zero, List.set_cons_succ, i64_w, i32_w]
               rfl
              refine pure_ (i := 1) (N := some 31) (v := ?_) (a' := ?_) #[true, true, false, false, false, false, false, false, false, false, false, false, false] rfl rfl (any_of HT_.out (by kernel_rfl)) (fun _ _ _ h => h) (Or.inl ⟨by rfl, ?_⟩) ?_ ?_
              rotate_left
              ·intro w'
               go_simp
               with_reducible rfl
              rotate_left
              ·simp only [Act.put, List.setIfInBounds_toArray, List.set_cons_zero, List.set_cons_succ, i64_w, i32_w]
               rfl
              refine pure_ (i := 2) (N := some 32) (v := ?_) (a' := ?_) #[true, true, true, false, false, false, false, false, false, false, false, false, false] rfl rfl (any_of HT_.out (by kernel_rfl)) (fun _ _ _ h => h) (Or.inl ⟨by rfl, ?_⟩) ?_ ?_
              rotate_left
              ·intro w'
               go_simp
               with_reducible rfl
              rotate_left
              ·simp only [Act.put, List.setIfInBounds_toArray, List.set_cons_zero, List.set_cons_succ, i64_w, i32_w]
               rfl
              refine pure_ (i := 3) (N := some 33) (v := ?_) (a' := ?_) #[true, true, true, true, false, false, false, false, false, false, false, false, false] rfl rfl (any_of HT_.out (by kernel_rfl)) (fun _ _ _ h => h) (Or.inl ⟨by rfl, ?_⟩) ?_ ?_
              rotate_left
              ·intro w'
               go_simp
               with_reducible rfl
              rotate_left
              ·simp only [Act.put, List.setIfInBounds_toArray, List.set_cons_zero, List.set_cons_succ, i64_w, i32_w]
               rfl
              refine pure_ (i := 4) (N := some 34) (v := ?_) (a' := ?_) #[true, true, true, true, true, false, false, false, false, false, false, false, false] rfl rfl (any_of HT_.out (by kernel_rfl)) (fun _ _ _ h => h) (Or.inl ⟨by rfl, ?_⟩) ?_ ?_
              rotate_left
              ·intro w'
               go_simp
               with_reducible rfl
              rotate_left
              ·simp only [Act.put, List.setIfInBounds_toArray, List.set_cons_zero, List.set_cons_succ, i64_w, i32_w]
               rfl
              refine pure_ (i := 6) (N := some 36) (v := ?_) (a' := ?_) #[true, true, true, true, true, false, true, false, false, false, false, false, false] rfl rfl (any_of HT_.out (by kernel_rfl)) (fun _ _ _ h => h) (Or.inl ⟨by rfl, ?_⟩) ?_ ?_
              rotate_left
              ·intro w'
               go_simp
               with_reducible rfl
              rotate_left
              ·simp only [Act.put, List.setIfInBounds_toArray, List.set_cons_zero, List.set_cons_succ, i64_w, i32_w]
               rfl
              refine pure_ (i := 7) (N := some 37) (v := ?_) (a' := ?_) #[true, true, true, true, true, false, true, true, false, false, false, false, false] rfl rfl (any_of HT_.out (by kernel_rfl)) (fun _ _ _ h => h) (Or.inl ⟨by rfl, ?_⟩) ?_ ?_
              rotate_left
              ·intro w'
               go_simp
               with_reducible rfl
              rotate_left
              ·simp only [Act.put, List.setIfInBounds_toArray, List.set_cons_zero, List.set_cons_succ, i64_w, i32_w]
               rfl
              refine pure_ (i := 8) (N := some 38) (v := ?_) (a' := ?_) #[true, true, true, true, true, false, true, true, true, false, false, false, false] rfl rfl (any_of HT_.out (by kernel_rfl)) (fun _ _ _ h => h) (Or.inl ⟨by rfl, ?_⟩) ?_ ?_
              rotate_left
              ·intro w'
               go_simp
               with_reducible rfl
              rotate_left
              ·simp only [Act.put, List.setIfInBounds_toArray, List.set_cons_zero, List.set_cons_succ, i64_w, i32_w]
               rfl
              refine pure_ (i := 9) (N := some 39) (v := ?_) (a' := ?_) #[true, true, true, true, true, false, true, true, true, true, false, false, false] rfl rfl (any_of HT_.out (by kernel_rfl)) (fun _ _ _ h => h) (Or.inl ⟨by rfl, ?_⟩) ?_ ?_
              rotate_left
              ·intro w'
               go_simp
               with_reducible rfl
              rotate_left
              ·simp only [Act.put, List.setIfInBounds_toArray, List.set_cons_zero, List.set_cons_succ, i64_w, i32_w]
               rfl
              refine take_ (i := 5) (N := some 35) (v := ?_) (a' := ?_) #[true, true, true, true, true, true, true, true, true, true, false, false, false] rfl rfl (take_ofW HT_.out HW_.out (by kernel_rfl)) (fun _ _ _ h => h) (Or.inl ⟨by rfl, ?_⟩) hHeld ?_ ?_
              rotate_left
              ·rintro w' ⟨s0, s1, s2, s3, s4, s5⟩
               go_simp
               with_reducible rfl
              rotate_left
              ·simp only [Act.put, List.setIfInBounds_toArray, List.set_cons_zero, List.set_cons_succ, i64_w, i32_w]
               rfl
              refine take_ (i := 10) (N := some 40) (v := ?_) (a' := ?_) #[true, true, true, true, true, true, true, true, true, true, true, false, false] rfl rfl (take_ofW HT_.out HW_.out (by kernel_rfl)) (fun _ _ _ h => h) (Or.inl ⟨by rfl, ?_⟩) hHeld ?_ ?_
              rotate_left
              ·rintro w' ⟨s0, s1, s2, s3, s4, s5⟩
               go_simp
               with_reducible rfl
              rotate_left
              ·simp only [Act.put, List.setIfInBounds_toArray, List.set_cons_zero, List.set_cons_succ, i64_w, i32_w]
               rfl
              refine pure_ (i := 11) (N := some 41) (v := ?_) (a' := ?_) #[true, true, true, true, true, true, true, true, true, true, true, true, false] rfl rfl (any_of HT_.out (by kernel_rfl)) (fun _ _ _ h => h) (Or.inl ⟨by rfl, ?_⟩) ?_ ?_
              rotate_left
              ·intro w'
               go_simp
               with_reducible rfl
              rotate_left
              ·simp only [Act.put, List.setIfInBounds_toArray, List.set_cons_zero, List.set_cons_succ, i64_w, i32_w]
               rfl
              refine pure_ (i := 12) (N := some 42) (v := ?_) (a' := ?_) #[true, true, true, true, true, true, true, true, true, true, true, true, true] rfl rfl (any_of HT_.out (by kernel_rfl)) (fun _ _ _ h => h) (Or.inl ⟨by rfl, ?_⟩) ?_ ?_
              rotate_left
              ·intro w'
               go_simp
               with_reducible rfl
              rotate_left
              ·simp only [Act.put, List.setIfInBounds_toArray, List.set_cons_zero, List.set_cons_succ, i64_w, i32_w]
               rfl
              refine done_ (done_of HT_.out (by kernel_rfl)) ?_
              try go_wp2_with (first | ((with_reducible refine gate_builtin (b := .append) (xs := #[.tmp 45, .tmp 46]) rfl ?_); at_builtin; refine Kd.R_append Kd.string (w0 := w) w.heap.size rfl (.tmp 45) (.tmp 46) 59 9 (.string ⟨#[]⟩) 16 rfl Try.underlying59 info9 rfl (by decide) (by omega) u3 x3_2 (⟨#[]⟩ : ByteArray) [.string (⟨#[]⟩ : ByteArray)] (fun _ => True) (fun _ => False) rfl rfl ?aP (fun _ hk => hk.elim) ?aF ?aO ?aB ?aS ?aL ?_; (case aP => exact rfl); (case aB => exact (by repeat ((with_reducible (exact HB.out))))); (case aF => exact (fun _ _ => trivial)); (case aO => exact (by (with_reducible repeat ((apply Kd.R_drew))); exact HO_3.out)); (case aS => exact (below_size (by repeat ((with_reducible (exact HB.out)))))); (case aL => have := LMc17.out; omega); intro v164 w19 ho hb hg hat; rw [← Ny163.out] at ho; have n0_ := Aside0.mk (hb); have n1_ := Aside0.mk (ho); clear HB; clear HO_3; have HB := n0_; have HO165 := n1_; clear n0_ n1_; clear ho hb hg hat))
              go_roundg k2
              case measure => have := HK1.out; have := HK2.out; omega
              case rel => exact ⟨(y163), (wrap64 (x6_2 + 1)), (by (rfl)), H', ⟨by have := HK1.out; have := HK2.out; omega⟩, ⟨by (with_reducible repeat ((apply Kd.R_drew))); exact HO165.out⟩, ⟨by repeat ((with_reducible (exact HB.out)))⟩⟩
             ·rw [if_neg c17] at H
              exact absurd H (by simp)
            ·rw [if_neg c16] at H
             have c16b0 : decide (x6_2 < (wrap64 (((rd_T37 l0 x4_1).f0) + ((rd_T37 l0 x4_1).f2)))) = false := decide_eq_false c16
             clear c16
             have H' := Aside0.mk H
             clear H
             try go_wp2
             have n0_ := Aside0.mk (Kd.R_drew HO_3.out)
             have n1_ := Aside0.mk (below_drew1 HB.out)
             clear HO_3
             clear HB
             have HO_3 := n0_
             have HB := n1_
             clear n0_ n1_
             have p161 : 0 ≤ (x4_1 : Int) := of_decide_eq_true (by (with_reducible assumption))
             have q161 : x4_1 < (l0.length : Int) := of_decide_eq_true (by (with_reducible assumption))
             obtain ⟨ad161, e161, hx161_0, hx161_1, hx161_2⟩ := at_T37 HR0.out x4_1 p161 q161
             have hw161_2 := hx161_2
             have hw161_1 := hx161_1
             have hw161_0 := hx161_0
             obtain rfl : ad159 = ad161 := (by injection e161)
             replace hx161_0 := (HB.out.cell (World.block_lt_of_cell? w _ hx161_0)).trans hx161_0
             replace hx161_1 := (HB.out.cell (World.block_lt_of_cell? w _ hx161_1)).trans hx161_1
             replace hx161_2 := (HB.out.cell (World.block_lt_of_cell? w _ hx161_2)).trans hx161_2
             replace p161 := eq_true p161
             replace q161 := eq_true q161
             have p162 : 0 ≤ (x4_1 : Int) := of_decide_eq_true (by (with_reducible assumption))
             have q162 : x4_1 < (l0.length : Int) := of_decide_eq_true (by (with_reducible assumption))
             obtain ⟨ad162, e162, hx162_0, hx162_1, hx162_2⟩ := at_T37 HR0.out x4_1 p162 q162
             have hw162_2 := hx162_2
             have hw162_1 := hx162_1
             have hw162_0 := hx162_0
             obtain rfl : ad159 = ad162 := (by injection e162)
             replace hx162_0 := (HB.out.cell (World.block_lt_of_cell? w _ hx162_0)).trans hx162_0
             replace hx162_1 := (HB.out.cell (World.block_lt_of_cell? w _ hx162_1)).trans hx162_1
             replace hx162_2 := (HB.out.cell (World.block_lt_of_cell? w _ hx162_2)).trans hx162_2
             replace p162 := eq_true p162
             replace q162 := eq_true q162
             refine start_ (n := 13) (S := fun w' => w'.cell? (ad159.add ((x4_1).toNat * 3)) = some (.int .i64 ((rd_T37 l0 x4_1).f0)) ∧ w'.cell? ⟨(ad159.add ((x4_1).toNat * 3)).block, (ad159.add ((x4_1).toNat * 3)).off + 1, none⟩ = some (.string ((rd_T37 l0 x4_1).f1)) ∧ w'.cell? ⟨(ad159.add ((x4_1).toNat * 3)).block, (ad159.add ((x4_1).toNat * 3)).off + 2, none⟩ = some (.int .i64 ((rd_T37 l0 x4_1).f2)) ∧ w'.cell? (ad159.add ((x4_1).toNat * 3)) = some (.int .i64 ((rd_T37 l0 x4_1).f0)) ∧ w'.cell? ⟨(ad159.add ((x4_1).toNat * 3)).block, (ad159.add ((x4_1).toNat * 3)).off + 1, none⟩ = some (.string ((rd_T37 l0 x4_1).f1)) ∧ w'.cell? ⟨(ad159.add ((x4_1).toNat * 3)).block, (ad159.add ((x4_1).toNat * 3)).off + 2, none⟩ = some (.int .i64 ((rd_T37 l0 x4_1).f2))) (ds := []) #[false, false, false, false, false, false, false, false, false, false, false, false, false] (by kernel_rfl) rfl rfl ⟨((HB.out.cell (World.block_lt_of_cell? w _ hw161_0)).trans hw161_0), ((HB.out.cell (World.block_lt_of_cell? w _ hw161_1)).trans hw161_1), ((HB.out.cell (World.block_lt_of_cell? w _ hw161_2)).trans hw161_2), ((HB.out.cell (World.block_lt_of_cell? w _ hw162_0)).trans hw162_0), ((HB.out.cell (World.block_lt_of_cell? w _ hw162_1)).trans hw162_1), ((HB.out.cell (World.block_lt_of_cell? w _ hw162_2)).trans hw162_2)⟩ (fun hHeld => ?_); refine with_tabW jj13.tab8 jj13.bits8 (fun HT_ HW_ => ?_)
             generalize wr.drew = w20 at HO_3 HB hx161_0 hx161_1 hx161_2 hx162_0 hx162_1 hx162_2 hHeld ⊢
             refine pure_ (i := 0) (N := some 30) (v := ?_) (a' := ?_) #[true, false, false, false, false, false, false, false, false, false, false, false, false] rfl rfl (any_of HT_.out (by kernel_rfl)) (fun _ _ _ h => h) (Or.inl ⟨by rfl, ?_⟩) ?_ ?_
             rotate_left
             ·intro w'
              go_simp
              with_reducible rfl
             rotate_left
             ·simp only [Act.put, List.setIfInBounds_toArray, List.set_cons_zero, List.set_cons_succ, i64_w, i32_w]
              rfl
             refine pure_ (i := 1) (N := some 31) (v := ?_) (a' := ?_) #[true, true, false, false, false, false, false, false, false, false, false, false, false] rfl rfl (any_of HT_.out (by kernel_rfl)) (fun _ _ _ h => h) (Or.inl ⟨by rfl, ?_⟩) ?_ ?_
             rotate_left
             ·intro w'
              go_simp
              with_reducible rfl
             rotate_left
             ·simp only [Act.put, List.setIfInBounds_toArray, List.set_cons_zero, List.set_cons_succ, i64_w, i32_w]
              rfl
             refine pure_ (i := 2) (N := some 32) (v := ?_) (a' := ?_) #[true, true, true, false, false, false, false, false, false, false, false, false, false] rfl rfl (any_of HT_.out (by kernel_rfl)) (fun _ _ _ h => h) (Or.inl ⟨by rfl, ?_⟩) ?_ ?_
             rotate_left
             ·intro w'
              go_simp
              with_reducible rfl
             rotate_left
             ·simp only [Act.put, List.setIfInBounds_toArray, List.set_cons_zero, List.set_cons_succ, i64_w, i32_w]
              rfl
             refine pure_ (i := 3) (N := some 33) (v := ?_) (a' := ?_) #[true, true, true, true, false, false, false, false, false, false, false, false, false] rfl rfl (any_of HT_.out (by kernel_rfl)) (fun _ _ _ h => h) (Or.inl ⟨by rfl, ?_⟩) ?_ ?_
             rotate_left
             ·intro w'
              go_simp
              with_reducible rfl
             rotate_left
             ·simp only [Act.put, List.setIfInBounds_toArray, List.set_cons_zero, List.set_cons_succ, i64_w, i32_w]
              rfl
             refine pure_ (i := 4) (N := some 34) (v := ?_) (a' := ?_) #[true, true, true, true, true, false, false, false, false, false, false, false, false] rfl rfl (any_of HT_.out (by kernel_rfl)) (fun _ _ _ h => h) (Or.inl ⟨by rfl, ?_⟩) ?_ ?_
             rotate_left
             ·intro w'
              go_simp
              with_reducible rfl
             rotate_left
             ·simp only [Act.put, List.setIfInBounds_toArray, List.set_cons_zero, List.set_cons_succ, i64_w, i32_w]
              rfl
             refine pure_ (i := 6) (N := some 36) (v := ?_) (a' := ?_) #[true, true, true, true, true, false, true, false, false, false, false, false, false] rfl rfl (any_of HT_.out (by kernel_rfl)) (fun _ _ _ h => h) (Or.inl ⟨by rfl, ?_⟩) ?_ ?_
             rotate_left
             ·intro w'
              go_simp
              with_reducible rfl
             rotate_left
             ·simp only [Act.put, List.setIfInBounds_toArray, List.set_cons_zero, List.set_cons_succ, i64_w, i32_w]
              rfl
             refine pure_ (i := 7) (N := some 37) (v := ?_) (a' := ?_) #[true, true, true, true, true, false, true, true, false, false, false, false, false] rfl rfl (any_of HT_.out (by kernel_rfl)) (fun _ _ _ h => h) (Or.inl ⟨by rfl, ?_⟩) ?_ ?_
             rotate_left
             ·intro w'
              go_simp
              with_reducible rfl
             rotate_left
             ·simp only [Act.put, List.setIfInBounds_toArray, List.set_cons_zero, List.set_cons_succ, i64_w, i32_w]
              rfl
             refine pure_ (i := 8) (N := some 38) (v := ?_) (a' := ?_) #[true, true, true, true, true, false, true, true, true, false, false, false, false] rfl rfl (any_of HT_.out (by kernel_rfl)) (fun _ _ _ h => h) (Or.inl ⟨by rfl, ?_⟩) ?_ ?_
             rotate_left
             ·intro w'
              go_simp
              with_reducible rfl
             rotate_left
             ·simp only [Act.put, List.setIfInBounds_toArray, List.set_cons_zero, List.set_cons_succ, i64_w, i32_w]
              rfl
             refine pure_ (i := 9) (N := some 39) (v := ?_) (a' := ?_) #[true, true, true, true, true, false, true, true, true, true, false, false, false] rfl rfl (any_of HT_.out (by kernel_rfl)) (fun _ _ _ h => h) (Or.inl ⟨by rfl, ?_⟩) ?_ ?_
             rotate_left
             ·intro w'
              go_simp
              with_reducible rfl
             rotate_left
             ·simp only [Act.put, List.setIfInBounds_toArray, List.set_cons_zero, List.set_cons_succ, i64_w, i32_w]
              rfl
             refine take_ (i := 5) (N := some 35) (v := ?_) (a' := ?_) #[true, true, true, true, true, true, true, true, true, true, false, false, false] rfl rfl (take_ofW HT_.out HW_.out (by kernel_rfl)) (fun _ _ _ h => h) (Or.inl ⟨by rfl, ?_⟩) hHeld ?_ ?_
             rotate_left
             ·rintro w' ⟨s0, s1, s2, s3, s4, s5⟩
              go_simp
              with_reducible rfl
             rotate_left
             ·simp only [Act.put, List.setIfInBounds_toArray, List.set_cons_zero, List.set_cons_succ, i64_w, i32_w]
              rfl
             refine take_ (i := 10) (N := some 40) (v := ?_) (a' := ?_) #[true, true, true, true, true, true, true, true, true, true, true, false, false] rfl rfl (take_ofW HT_.out HW_.out (by kernel_rfl)) (fun _ _ _ h => h) (Or.inl ⟨by rfl, ?_⟩) hHeld ?_ ?_
             rotate_left
             ·rintro w' ⟨s0, s1, s2, s3, s4, s5⟩
              go_simp
              with_reducible rfl
             rotate_left
             ·simp only [Act.put, List.setIfInBounds_toArray, List.set_cons_zero, List.set_cons_succ, i64_w, i32_w]
              rfl
             refine pure_ (i := 11) (N := some 41) (v := ?_) (a' := ?_) #[true, true, true, true, true, true, true, true, true, true, true, true, false] rfl rfl (any_of HT_.out (by kernel_rfl)) (fun _ _ _ h => h) (Or.inl ⟨by rfl, ?_⟩) ?_ ?_
             rotate_left
             ·intro w'
              go_simp
              with_reducible rfl
             rotate_left
             ·simp only [Act.put, List.setIfInBounds_toArray, List.set_cons_zero, List.set_cons_succ, i64_w, i32_w]
              rfl
             refine pure_ (i := 12) (N := some 42) (v := ?_) (a' := ?_) #[true, true, true, true, true, true, true, true, true, true, true, true, true] rfl rfl (any_of HT_.out (by kernel_rfl)) (fun _ _ _ h => h) (Or.inl ⟨by rfl, ?_⟩) ?_ ?_
             rotate_left
             ·intro w'
              go_simp
              with_reducible rfl
             rotate_left
             ·simp only [Act.put, List.setIfInBounds_toArray, List.set_cons_zero, List.set_cons_succ, i64_w, i32_w]
              rfl
             refine done_ (done_of HT_.out (by kernel_rfl)) ?_
             try go_wp2
             go_roundg k2
             case measure => have := HK1.out; have := HK2.out; omega
             case rel => exact ⟨(x3_2), (wrap64 (x4_1 + 1)), (by (rfl)), H', ⟨by have := HK1.out; have := HK2.out; omega⟩, ⟨by (with_reducible repeat ((apply Kd.R_drew))); exact HO_3.out⟩, ⟨by repeat ((with_reducible (exact HB.out)))⟩⟩
           ·rw [if_neg c15] at H
            exact absurd H (by simp)
          ·rw [if_neg c14] at H
           exact absurd H (by simp)
       ·rw [if_neg c9] at H
        exact absurd H (by simp)
      ·rw [if_neg c8] at H
       exact absurd H (by simp)
     ·rw [if_neg c7] at H
      exact absurd H (by simp)
    ·rw [if_neg c6] at H
     exact absurd H (by simp)
   ·rw [if_neg c4] at H
    have c4b0 : decide (x4_1 < (l0.length : Int)) = false := decide_eq_false c4
    clear c4
    obtain rfl := Option.some.inj H
    go_wp2
    go_ret
    exact ⟨_, by (rfl), by (with_reducible repeat ((apply Kd.R_drew))); exact HO_3.out, by repeat ((with_reducible (exact HB.out)))⟩
end Go.Proofs.Ythocalfgeaclgaa.P
end
-- MERGED YthocalfgeaclgaaPvariorumref09Drops
section

namespace Go.Proofs.Ythocalfgeaclgaa.P
open Go.RowKit Go.Proofs.YthocalfgeaclgaaW.PrintWords Go.Proofs.YthocalfgeaclgaaW.PrintLast Go.Proofs.YthocalfgeaclgaaW.PrintMore
attribute [local go_sem] max2_int min2_int max_two min_two max_three min_three max_four min_four
set_option linter.unusedVariables false
set_option linter.unusedSimpArgs false
mutual
def jj14.l0 : Nat → List (S37) → List Bool → Int → Option (List Bool)
 | 0, _, _, _ => none
 | k + 1, x0, x3, x4 => if x4 < (x0.length : Int) then (jj14.l1 k x0 x3 x4 0) else (some x3)
def jj14.l1 : Nat → List (S37) → List Bool → Int → Int → Option (List Bool)
 | 0, _, _, _, _ => none
 | k + 1, x0, x3, x4, x5 => if 0 ≤ x4 then (if x4 < (x0.length : Int) then (if x5 < ((rd_T37 x0 x4).f0) then (if x3.length < 140737488355328 then (jj14.l1 k x0 (x3 ++ [false]) x4 (wrap64 (x5 + 1))) else (none)) else (jj14.l2 k x0 x3 x4 0)) else (none)) else (none)
def jj14.l2 : Nat → List (S37) → List Bool → Int → Int → Option (List Bool)
 | 0, _, _, _, _ => none
 | k + 1, x0, x3, x4, x6 => if 0 ≤ x4 then (if x4 < (x0.length : Int) then (if x6 < ((rd_T37 x0 x4).f2) then (if x3.length < 140737488355328 then (jj14.l2 k x0 (x3 ++ [true]) x4 (wrap64 (x6 + 1))) else (none)) else (jj14.l0 k x0 x3 (wrap64 (x4 + 1)))) else (none)) else (none)
end
def jj14.f (k : Nat) (l0 : List (S37)) : Option (List Bool) := jj14.l0 k l0 ([] : List Bool) 0
theorem jj14.mono_l : ∀ k, (∀ y0 y1 y2, LeO (jj14.l0 k y0 y1 y2) (jj14.l0 (k + 1) y0 y1 y2)) ∧ (∀ y0 y1 y2 y3, LeO (jj14.l1 k y0 y1 y2 y3) (jj14.l1 (k + 1) y0 y1 y2 y3)) ∧ (∀ y0 y1 y2 y3, LeO (jj14.l2 k y0 y1 y2 y3) (jj14.l2 (k + 1) y0 y1 y2 y3))
 | 0 => ⟨fun _ _ _ r h => by simp [jj14.l0] at h, fun _ _ _ _ r h => by simp [jj14.l1] at h, fun _ _ _ _ r h => by simp [jj14.l2] at h⟩
 | k + 1 => by
  obtain ⟨ih0, ih1, ih2⟩ := jj14.mono_l k
  refine ⟨?_, ?_, ?_⟩
  ·intro y0 y1 y2
   unfold jj14.l0
   repeat' first | (with_reducible exact ih1 _ _ _ _) | (with_reducible exact LeO.refl _) | (with_reducible refine LeO.ite ?_ ?_)
  ·intro y0 y1 y2 y3
   unfold jj14.l1
   repeat' first | (with_reducible exact ih1 _ _ _ _) | (with_reducible exact ih2 _ _ _ _) | (with_reducible exact LeO.refl _) | (with_reducible refine LeO.ite ?_ ?_)
  ·intro y0 y1 y2 y3
   unfold jj14.l2
   repeat' first | (with_reducible exact ih0 _ _ _) | (with_reducible exact ih2 _ _ _ _) | (with_reducible exact LeO.refl _) | (with_reducible refine LeO.ite ?_ ?_)
theorem jj14.mono : ∀ a0 k, LeO (jj14.f k a0) (jj14.f (k + 1) a0) := by
 intro a0 k
 obtain ⟨ih0, ih1, ih2⟩ := jj14.mono_l k
 unfold jj14.f
 repeat' (with_reducible exact ih0 _ _ _)
set_option maxHeartbeats 8000000 in
set_option maxRecDepth 100000 in
theorem jj14.calls (k : Nat) (A0 : Option Addr) (c0 : Nat) (l0 : List (S37)) (r : List Bool) (w : World) (hr0 : Kd.C k37 w A0 l0.length l0) (hc0 : l0.length ≤ c0) (h : jj14.f k l0 = some r) :
  Calls Try.prog 41 #[.slice A0 l0.length c0] w fun e w' => ∃ v0_ : Value, e = .returned (v0_) ∧ Kd.R Kd.bool 4 w' w.heap.size (fun _ => True) v0_ r ∧ Below w.heap.size w w' := by
 have HR0 := Aside0.mk hr0
 have HC0 := Aside0.mk hc0
 clear hr0 hc0
 have HB := Aside0.mk (Below.refl w.heap.size w)
 have H : (jj14.l0 k l0 ([] : List Bool) 0) = some r := h
 clear h
 have H' := Aside0.mk H
 clear H
 go_enter Try.func41, Try.ntmps41
 go_wp2
 go_loopg [3, 4] k (fun kq v3 v4 w' => ∃ (x3_1 : List Bool) (x4_1 : Int), v4 = .int .i64 x4_1 ∧ Aside0 (jj14.l0 kq l0 x3_1 x4_1 = some r) ∧ Aside0 (kq ≤ k) ∧ Aside0 (Kd.R Kd.bool 4 w' w.heap.size (fun _ => True) v3 x3_1) ∧ Aside0 (Below w.heap.size w w'))
 case atStart => exact ⟨(([] : List Bool)), (0), (by (rfl)), H', ⟨Nat.le_refl _⟩, ⟨by (exact Kd.R_nil _ _ _ _ _)⟩, ⟨by repeat ((with_reducible (exact HB.out)))⟩⟩
 case round =>
  clear H'
  obtain ⟨x3_1, x4_1, rfl, HA, HK1, HO_3, HB⟩ := hrel
  cases gk with
  | zero => exact absurd HA.out (by simp [jj14.l0])
  | succ k1 =>
   have H := HA.out
   clear HA
   simp only [jj14.l0] at H
   by_cases c2 : x4_1 < (l0.length : Int)
   ·rw [if_pos c2] at H
    have c2b0 : decide (x4_1 < (l0.length : Int)) = true := decide_eq_true c2
    clear c2
    have H' := Aside0.mk H
    clear H
    go_wp2
    go_loopg [3, 5] k1 (fun kq v3 v5 w' => ∃ (x3_2 : List Bool) (x5_2 : Int), v5 = .int .i64 x5_2 ∧ Aside0 (jj14.l1 kq l0 x3_2 x4_1 x5_2 = some r) ∧ Aside0 (kq ≤ k1) ∧ Aside0 (Kd.R Kd.bool 4 w' w.heap.size (fun _ => True) v3 x3_2) ∧ Aside0 (Below w.heap.size w w'))
    case atStart => exact ⟨(x3_1), (0), (by (rfl)), H', ⟨Nat.le_refl _⟩, ⟨by (with_reducible repeat ((apply Kd.R_drew))); exact HO_3.out⟩, ⟨by repeat ((with_reducible (exact HB.out)))⟩⟩
    case round =>
     clear H'
     try clear c2
     try clear c2b0
     try clear p2
     obtain ⟨x3_2, x5_2, rfl, HA, HK2, HO_3, HB⟩ := hrel
     cases gk with
     | zero => exact absurd HA.out (by simp [jj14.l1])
     | succ k2 =>
      have H := HA.out
      clear HA
      simp only [jj14.l1] at H
      by_cases c3 : 0 ≤ x4_1
      ·rw [if_pos c3] at H
       have c3b0 : decide (0 ≤ x4_1) = true := decide_eq_true c3
       clear c3
       by_cases c4 : x4_1 < (l0.length : Int)
       ·rw [if_pos c4] at H
        have c4b0 : decide (x4_1 < (l0.length : Int)) = true := decide_eq_true c4
        clear c4
        by_cases c5 : x5_2 < ((rd_T37 l0 x4_1).f0)
        ·rw [if_pos c5] at H
         have c5b0 : decide (x5_2 < ((rd_T37 l0 x4_1).f0)) = true := decide_eq_true c5
         clear c5
         by_cases c6 : x3_2.length < 140737488355328
         ·rw [if_pos c6] at H
          have LMc6 := Aside0.mk c6
          clear c6
          obtain ⟨y167, hy167⟩ : ∃ y_ : List Bool, y_ = (x3_2 ++ [false]) := ⟨_, rfl⟩
          replace H : (jj14.l1 k2 l0 y167 x4_1 (wrap64 (x5_2 + 1))) = some r := by (rw [hy167]; with_reducible exact H)
          have Ny167 := Aside0.mk hy167
          clear hy167
          have H' := Aside0.mk H
          clear H
          have p166 : 0 ≤ (x4_1 : Int) := of_decide_eq_true (by (with_reducible assumption))
          have q166 : x4_1 < (l0.length : Int) := of_decide_eq_true (by (with_reducible assumption))
          obtain ⟨ad166, e166, hx166_0, hx166_1, hx166_2⟩ := at_T37 HR0.out x4_1 p166 q166
          cases e166
          replace hx166_0 := (HB.out.cell (World.block_lt_of_cell? w _ hx166_0)).trans hx166_0
          replace hx166_1 := (HB.out.cell (World.block_lt_of_cell? w _ hx166_1)).trans hx166_1
          replace hx166_2 := (HB.out.cell (World.block_lt_of_cell? w _ hx166_2)).trans hx166_2
          replace p166 := eq_true p166
          replace q166 := eq_true q166
          go_wp2_with (first | ((with_reducible refine gate_builtin (b := .append) (xs := #[.tmp 22, .tmp 23]) rfl ?_); at_builtin; refine Kd.R_append Kd.bool (w0 := w) w.heap.size rfl (.tmp 22) (.tmp 23) 61 4 (.bool false) 1 rfl Try.underlying61 info4 rfl (by decide) (by omega) u3 x3_2 false [.bool false] (fun _ => True) (fun _ => False) rfl rfl ?aP (fun _ hk => hk.elim) ?aF ?aO ?aB ?aS ?aL ?_; (case aP => exact rfl); (case aB => exact (by repeat ((with_reducible (exact HB.out))))); (case aF => exact (fun _ _ => trivial)); (case aO => exact (by (with_reducible repeat ((apply Kd.R_drew))); exact HO_3.out)); (case aS => exact (below_size (by repeat ((with_reducible (exact HB.out)))))); (case aL => have := LMc6.out; omega); intro v168 w7 ho hb hg hat; rw [← Ny167.out] at ho; have n0_ := Aside0.mk (hb); have n1_ := Aside0.mk (ho); clear HB; clear HO_3; have HB := n0_; have HO169 := n1_; clear n0_ n1_; clear ho hb hg hat))
          go_roundg k2
          case measure => have := HK1.out; have := HK2.out; omega
          case rel => exact ⟨(y167), (wrap64 (x5_2 + 1)), (by (rfl)), H', ⟨by have := HK1.out; have := HK2.out; omega⟩, ⟨by (with_reducible repeat ((apply Kd.R_drew))); exact HO169.out⟩, ⟨by repeat ((with_reducible (exact HB.out)))⟩⟩
         ·rw [if_neg c6] at H
          exact absurd H (by simp)
        ·rw [if_neg c5] at H
         have c5b0 : decide (x5_2 < ((rd_T37 l0 x4_1).f0)) = false := decide_eq_false c5
         clear c5
         have H' := Aside0.mk H
         clear H
         have p166 : 0 ≤ (x4_1 : Int) := of_decide_eq_true (by (with_reducible assumption))
         have q166 : x4_1 < (l0.length : Int) := of_decide_eq_true (by (with_reducible assumption))
         obtain ⟨ad166, e166, hx166_0, hx166_1, hx166_2⟩ := at_T37 HR0.out x4_1 p166 q166
         cases e166
         replace hx166_0 := (HB.out.cell (World.block_lt_of_cell? w _ hx166_0)).trans hx166_0
         replace hx166_1 := (HB.out.cell (World.block_lt_of_cell? w _ hx166_1)).trans hx166_1
         replace hx166_2 := (HB.out.cell (World.block_lt_of_cell? w _ hx166_2)).trans hx166_2
         replace p166 := eq_true p166
         replace q166 := eq_true q166
         go_wp2
         go_loopg [3, 6] k2 (fun kq v3 v6 w' => ∃ (x3_3 : List Bool) (x6_3 : Int), v6 = .int .i64 x6_3 ∧ Aside0 (jj14.l2 kq l0 x3_3 x4_1 x6_3 = some r) ∧ Aside0 (kq ≤ k2) ∧ Aside0 (Kd.R Kd.bool 4 w' w.heap.size (fun _ => True) v3 x3_3) ∧ Aside0 (Below w.heap.size w w'))
         case atStart => exact ⟨(x3_2), (0), (by (rfl)), H', ⟨Nat.le_refl _⟩, ⟨by (with_reducible repeat ((apply Kd.R_drew))); exact HO_3.out⟩, ⟨by repeat ((with_reducible (exact HB.out)))⟩⟩
         case round =>
          clear H'
          try clear p1
          try clear q1
          try clear hx1
          try clear c2
          try clear c2b0
          try clear p2
          try clear c3
          try clear c3b0
          try clear c4
          try clear c4b0
          try clear c5
          try clear c5b0
          try clear c6
          try clear p6
          try clear hx166_0
          try clear hx166_1
          try clear hx166_2
          try clear p166
          try clear p2
          try clear q166
          obtain ⟨x3_3, x6_3, rfl, HA, HK3, HO_3, HB⟩ := hrel
          cases gk with
          | zero => exact absurd HA.out (by simp [jj14.l2])
          | succ k3 =>
           have H := HA.out
           clear HA
           simp only [jj14.l2] at H
           by_cases c8 : 0 ≤ x4_1
           ·rw [if_pos c8] at H
            have c8b0 : decide (0 ≤ x4_1) = true := decide_eq_true c8
            clear c8
            by_cases c9 : x4_1 < (l0.length : Int)
            ·rw [if_pos c9] at H
             have c9b0 : decide (x4_1 < (l0.length : Int)) = true := decide_eq_true c9
             clear c9
             by_cases c10 : x6_3 < ((rd_T37 l0 x4_1).f2)
             ·rw [if_pos c10] at H
              have c10b0 : decide (x6_3 < ((rd_T37 l0 x4_1).f2)) = true := decide_eq_true c10
              clear c10
              by_cases c11 : x3_3.length < 140737488355328
              ·rw [if_pos c11] at H
               have LMc11 := Aside0.mk c11
               clear c11
               obtain ⟨y171, hy171⟩ : ∃ y_ : List Bool, y_ = (x3_3 ++ [true]) := ⟨_, rfl⟩
               replace H : (jj14.l2 k3 l0 y171 x4_1 (wrap64 (x6_3 + 1))) = some r := by (rw [hy171]; with_reducible exact H)
               have Ny171 := Aside0.mk hy171
               clear hy171
               have H' := Aside0.mk H
               clear H
               have p170 : 0 ≤ (x4_1 : Int) := of_decide_eq_true (by (with_reducible assumption))
               have q170 : x4_1 < (l0.length : Int) := of_decide_eq_true (by (with_reducible assumption))
               obtain ⟨ad170, e170, hx170_0, hx170_1, hx170_2⟩ := at_T37 HR0.out x4_1 p170 q170
               obtain rfl : ad166 = ad170 := (by injection e170)
               replace hx170_0 := (HB.out.cell (World.block_lt_of_cell? w _ hx170_0)).trans hx170_0
               replace hx170_1 := (HB.out.cell (World.block_lt_of_cell? w _ hx170_1)).trans hx170_1
               replace hx170_2 := (HB.out.cell (World.block_lt_of_cell? w _ hx170_2)).trans hx170_2
               replace p170 := eq_true p170
               replace q170 := eq_true q170
               go_wp2_with (first | ((with_reducible refine gate_builtin (b := .append) (xs := #[.tmp 34, .tmp 35]) rfl ?_); at_builtin; refine Kd.R_append Kd.bool (w0 := w) w.heap.size rfl (.tmp 34) (.tmp 35) 61 4 (.bool false) 1 rfl Try.underlying61 info4 rfl (by decide) (by omega) u3 x3_3 true [.bool true] (fun _ => True) (fun _ => False) rfl rfl ?aP (fun _ hk => hk.elim) ?aF ?aO ?aB ?aS ?aL ?_; (case aP => exact rfl); (case aB => exact (by repeat ((with_reducible (exact HB.out))))); (case aF => exact (fun _ _ => trivial)); (case aO => exact (by (with_reducible repeat ((apply Kd.R_drew))); exact HO_3.out)); (case aS => exact (below_size (by repeat ((with_reducible (exact HB.out)))))); (case aL => have := LMc11.out; omega); intro v172 w12 ho hb hg hat; rw [← Ny171.out] at ho; have n0_ := Aside0.mk (hb); have n1_ := Aside0.mk (ho); clear HB; clear HO_3; have HB := n0_; have HO173 := n1_; clear n0_ n1_; clear ho hb hg hat))
               go_roundg k3
               case measure => have := HK1.out; have := HK2.out; have := HK3.out; omega
               case rel => exact ⟨(y171), (wrap64 (x6_3 + 1)), (by (rfl)), H', ⟨by have := HK1.out; have := HK2.out; have := HK3.out; omega⟩, ⟨by (with_reducible repeat ((apply Kd.R_drew))); exact HO173.out⟩, ⟨by repeat ((with_reducible (exact HB.out)))⟩⟩
              ·rw [if_neg c11] at H
               exact absurd H (by simp)
             ·rw [if_neg c10] at H
              have c10b0 : decide (x6_3 < ((rd_T37 l0 x4_1).f2)) = false := decide_eq_false c10
              clear c10
              have H' := Aside0.mk H
              clear H
              have p170 : 0 ≤ (x4_1 : Int) := of_decide_eq_true (by (with_reducible assumption))
              have q170 : x4_1 < (l0.length : Int) := of_decide_eq_true (by (with_reducible assumption))
              obtain ⟨ad170, e170, hx170_0, hx170_1, hx170_2⟩ := at_T37 HR0.out x4_1 p170 q170
              obtain rfl : ad166 = ad170 := (by injection e170)
              replace hx170_0 := (HB.out.cell (World.block_lt_of_cell? w _ hx170_0)).trans hx170_0
              replace hx170_1 := (HB.out.cell (World.block_lt_of_cell? w _ hx170_1)).trans hx170_1
              replace hx170_2 := (HB.out.cell (World.block_lt_of_cell? w _ hx170_2)).trans hx170_2
              replace p170 := eq_true p170
              replace q170 := eq_true q170
              go_wp2
              go_roundg k3
              case measure => have := HK1.out; have := HK2.out; have := HK3.out; omega
              case rel => exact ⟨(x3_3), (wrap64 (x4_1 + 1)), (by (rfl)), H', ⟨by have := HK1.out; have := HK2.out; have := HK3.out; omega⟩, ⟨by (with_reducible repeat ((apply Kd.R_drew))); exact HO_3.out⟩, ⟨by repeat ((with_reducible (exact HB.out)))⟩⟩
            ·rw [if_neg c9] at H
             exact absurd H (by simp)
           ·rw [if_neg c8] at H
            exact absurd H (by simp)
       ·rw [if_neg c4] at H
        exact absurd H (by simp)
      ·rw [if_neg c3] at H
       exact absurd H (by simp)
   ·rw [if_neg c2] at H
    have c2b0 : decide (x4_1 < (l0.length : Int)) = false := decide_eq_false c2
    clear c2
    obtain rfl := Option.some.inj H
    go_wp2
    go_ret
    exact ⟨_, by (rfl), by (with_reducible repeat ((apply Kd.R_drew))); exact HO_3.out, by repeat ((with_reducible (exact HB.out)))⟩
end Go.Proofs.Ythocalfgeaclgaa.P
end
-- MERGED YthocalfgeaclgaaPvariorumref10Move
section

namespace Go.Proofs.Ythocalfgeaclgaa.P
open Go.RowKit Go.Proofs.YthocalfgeaclgaaW.PrintWords Go.Proofs.YthocalfgeaclgaaW.PrintLast Go.Proofs.YthocalfgeaclgaaW.PrintMore
set_option linter.unusedVariables false
set_option linter.unusedSimpArgs false
mutual
def jj15.j0 : Nat → List (S37) → Int → Bool → Bool → Option (Int × Bool)
 | 0, _, _, _, _ => none
 | k + 1, x0, x1, x2, x24 => if x24 = true then (some (0, false)) else ((jj13.f k x0).bind fun t176 => ((jj14.f k x0).bind fun t179 => (jj15.l0 k x1 x2 t176 t179 0 0)))
def jj15.l0 : Nat → Int → Bool → List ByteArray → List Bool → Int → Int → Option (Int × Bool)
 | 0, _, _, _, _, _, _ => none
 | k + 1, x1, x2, x8, x9, x10, x11 => if x11 < x1 then (if 0 ≤ x11 then (if x11 < (x8.length : Int) then (if x11 < (x9.length : Int) then (if rdOf false x9 x11 = true then (jj15.l0 k x1 x2 x8 x9 (wrap64 (x10 + ((rdOf ByteArray.empty x8 x11).size : Int))) (wrap64 (x11 + 1))) else (jj15.l0 k x1 x2 x8 x9 (wrap64 ((wrap64 (x10 + ((rdOf ByteArray.empty x8 x11).size : Int))) + 1)) (wrap64 (x11 + 1)))) else (none)) else (none)) else (none)) else (if x2 = true then (if 0 ≤ x1 then (if x1 < (x8.length : Int) then (some (wrap64 (x10 + ((rdOf ByteArray.empty x8 x1).size : Int)), true)) else (none)) else (none)) else (some (x10, true)))
end
def jj15.f (k : Nat) (l0 : List (S37)) (a1 : Int) (a2 : Bool) : Option (Int × Bool) := (jj2.f l0).bind fun t174 => (if t174 = true then (if a1 < 0 then (jj15.j0 k l0 a1 a2 true) else ((jj3.f k l0).bind fun t175 => (jj15.j0 k l0 a1 a2 (decide (a1 > t175))))) else (jj15.j0 k l0 a1 a2 true))
end Go.Proofs.Ythocalfgeaclgaa.P
end
-- MERGED YthocalfgeaclgaaPvariorumref10Span
section

namespace Go.Proofs.Ythocalfgeaclgaa.P
open Go.RowKit Go.Proofs.YthocalfgeaclgaaW.PrintWords Go.Proofs.YthocalfgeaclgaaW.PrintLast Go.Proofs.YthocalfgeaclgaaW.PrintMore
set_option linter.unusedVariables false
set_option linter.unusedSimpArgs false
mutual
def jj16.j0 : Nat → List (S37) → Bool → Int → Int → Option (Int × Int × Bool)
 | 0, _, _, _, _ => none
 | k + 1, x0, x33, x186000, x186001 => if x33 = true then (some (0, 0, false)) else ((jj14.f k x0).bind fun t189 => (jj16.l0 k x0 t189 (-1) (-1) x186000 x186000 x186001))
def jj16.l0 : Nat → List (S37) → List Bool → Int → Int → Int → Int → Int → Option (Int × Int × Bool)
 | 0, _, _, _, _, _, _, _ => none
 | k + 1, x0, x6, x7, x8, x9, x186000, x186001 => if x9 < x186001 then (if 0 ≤ x9 then (if x9 < (x6.length : Int) then (if rdOf false x6 x9 = true then (jj16.l0 k x0 x6 x7 x8 (wrap64 (x9 + 1)) x186000 x186001) else ((jj15.f k x0 x9 true).bind fun bt195 => (if x7 < 0 then (jj16.l0 k x0 x6 bt195.1 (wrap64 (bt195.1 + 1)) (wrap64 (x9 + 1)) x186000 x186001) else (jj16.l0 k x0 x6 x7 (wrap64 (bt195.1 + 1)) (wrap64 (x9 + 1)) x186000 x186001)))) else (none)) else (none)) else (if x7 < 0 then ((jj15.f k x0 x186000 false).bind fun bt192 => (some (bt192.1, bt192.1, true))) else (some (x7, x8, true)))
end
def jj16.f (k : Nat) (l0 : List (S37)) (a1_0 : Int) (a1_1 : Int) : Option (Int × Int × Bool) := (jj2.f l0).bind fun t187 => (if t187 = true then (if a1_0 < 0 then (jj16.j0 k l0 true a1_0 a1_1) else (if a1_0 > a1_1 then (jj16.j0 k l0 true a1_0 a1_1) else ((jj3.f k l0).bind fun t188 => (jj16.j0 k l0 (decide (a1_1 > t188)) a1_0 a1_1)))) else (jj16.j0 k l0 true a1_0 a1_1))
end Go.Proofs.Ythocalfgeaclgaa.P
end
-- MERGED YthocalfgeaclgaaPlaceG
section

namespace Go.Proofs.Ythocalfgeaclgaa.PlaceG
open Go.RowKit Go.Proofs.Ythocalfgeaclgaa.P Go.Proofs.YthocalfgeaclgaaW.PrintWords Go.Proofs.YthocalfgeaclgaaW.PrintLast Go.Proofs.YthocalfgeaclgaaW.PrintMore Go.Proofs.Ythocalfgeaclgaa.EditL Go.Proofs.Ythocalfgeaclgaa.EditK Go.Proofs.Ythocalfgeaclgaa.EditF Go.Proofs.Ythocalfgeaclgaa.EditG Go.Proofs.Ythocalfgeaclgaa.EditH1 Go.Proofs.Ythocalfgeaclgaa.PlaceI Go.Proofs.Ythocalfgeaclgaa.PlaceM Go.Proofs.Ythocalfgeaclgaa.PlaceC Go.Proofs.Ythocalfgeaclgaa.PlaceS Go.Proofs.Ythocalfgeaclgaa.PlaceL Go.Proofs.Ythocalfgeaclgaa.PlaceF
set_option linter.unusedSimpArgs false
set_option linter.unusedVariables false
theorem drop_at {α : Type} {d : α} {l : List α} {i : Nat} (h : i < l.length) : ∃ s, l.drop i = s :: l.drop (i + 1) ∧ rdOf d l (i : Int) = s := by
 refine ⟨l[i], List.drop_eq_getElem_cons h, ?_⟩
 unfold rdOf
 rw [Int.toNat_natCast, List.getD_eq_getElem?_getD, List.getElem?_eq_getElem h]; rfl
theorem rd_rep (X Y : List Bool) (v : Bool) (n t : Nat) (j : Int) (ht : t < n) (hj : j = ((X.length + t : Nat) : Int)) : rdOf false (X ++ (List.replicate n v ++ Y)) j = v := by
 subst hj
 unfold rdOf
 rw [Int.toNat_natCast, List.getD_eq_getElem?_getD, List.getElem?_append_right (by omega), Nat.add_sub_cancel_left, List.getElem?_append_left (by simpa using ht), List.getElem?_replicate, if_pos ht]; rfl
theorem rd_last (X : List ByteArray) (s : ByteArray) : rdOf ByteArray.empty (X ++ [s]) (X.length : Int) = s := by
 unfold rdOf
 rw [Int.toNat_natCast, List.getD_eq_getElem?_getD, List.getElem?_append_right (Nat.le_refl _), Nat.sub_self]; rfl
theorem set_last (X : List ByteArray) (s t : ByteArray) : (X ++ [s]).set X.length t = X ++ [t] := by
 rw [List.set_append_right _ _ (Nat.le_refl _), Nat.sub_self]; rfl
theorem adds_in (l0 pre suf : List Rn) (r : Rn) (hfe : l0 = pre ++ r :: suf) (hb : l0.length ≤ 65536) (h1 : r.f0 + r.f2 ≤ 16777216) : ∀ (n k : Nat) (X : List ByteArray) (x : Int), 0 ≤ x → x + n = r.f0 + r.f2 → X.length + n ≤ 8000000 →
  jj13.l1 (k + n + 1) l0 X (pre.length : Int) x = jj13.l0 k l0 (X ++ List.replicate n E) ((pre.length : Int) + 1) := by
 obtain ⟨_, _, hlt⟩ := snoc hfe
 intro n
 induction n with
 | zero =>
  intro k X x hx hn hX
  simp only [jj13.l1]
  rw [if_pos (by omega), if_pos hlt, rd_at hfe, w64 (x := r.f0 + r.f2) (by omega) (by omega), if_neg (by omega), w64 (x := (pre.length : Int) + 1) (by omega) (by omega)]
  simp
 | succ n ih =>
  intro k X x hx hn hX
  have hi := ih k (X ++ [E]) (x + 1) (by omega) (by omega) (by simp; omega)
  rw [show k + (n + 1) + 1 = (k + n + 1) + 1 by omega]
  obtain ⟨m, hm⟩ : ∃ m, m = k + n + 1 := ⟨_, rfl⟩
  rw [← hm] at hi ⊢
  simp only [jj13.l1]
  rw [if_pos (by omega), if_pos hlt, rd_at hfe, w64 (x := r.f0 + r.f2) (by omega) (by omega), if_pos (by omega), if_pos (by omega), w64 (x := x + 1) (by omega) (by omega)]
  refine hi.trans ?_
  rw [List.append_assoc, List.replicate_succ]; rfl
theorem adds_l (l0 : List Rn) (hb : l0.length ≤ 65536) : ∀ (suf pre : List Rn) (k : Nat) (done : List ByteArray) (s : ByteArray), l0 = pre ++ suf → (∀ r ∈ suf, knd r ≠ 0) → 2 * suf.length + (inL suf).toNat < k → (done.length : Int) + inL suf ≤ 4000000 → (s.size : Int) + outL suf ≤ 4000000 →
  jj13.l0 k l0 (done ++ [s]) (pre.length : Int) = some (done ++ addsL suf s) := by
 intro suf
 induction suf with
 | nil =>
  intro pre k done s hfe _ hk _ _
  obtain ⟨k, rfl⟩ : ∃ m, k = m + 1 := ⟨k - 1, by omega⟩
  have : l0.length = pre.length := by rw [hfe]; simp
  simp only [jj13.l0]
  rw [if_neg (by omega)]; rfl
 | cons r suf ih =>
  intro pre k done s hfe hok hk hd hs
  have hl : ∀ x ∈ suf, knd x ≠ 0 := fun x hx => hok x (List.mem_cons_of_mem _ hx)
  have hp := knd_pos (hok r List.mem_cons_self)
  have hi := inL_nonneg hl
  obtain ⟨hl2, hn, hlt⟩ := snoc hfe
  simp only [inL, outL, List.length_cons] at hd hs hk
  obtain ⟨n, hnn⟩ : ∃ n : Nat, (n : Int) = r.f0 + r.f2 := ⟨(r.f0 + r.f2).toNat, by omega⟩
  obtain ⟨k, rfl⟩ : ∃ m, k = m + n + 1 + 1 := ⟨k - n - 2, by omega⟩
  have hin := adds_in l0 pre suf r hfe hb (by omega) n k (done ++ [s ++ r.f1]) 0 (by omega) (by omega) (by simp; omega)
  obtain ⟨m, hm⟩ : ∃ m, m = k + n + 1 := ⟨_, rfl⟩
  rw [← hm] at hin ⊢
  simp only [jj13.l0]
  have hw : wrap64 (((done ++ [s]).length : Int) - 1) = (done.length : Int) := by
   rw [show ((done ++ [s]).length : Int) - 1 = (done.length : Int) by simp]; exact w64 (by omega) (by omega)
  rw [if_pos hlt, hw, if_pos (by omega), if_pos (by simp; omega), if_pos (by omega), rd_at hfe, rd_last, if_pos (by omega), Int.toNat_natCast, set_last, hin]
  have next := fun done' s' => ih (pre ++ [r]) k done' s' hl2 hl (by omega)
  rw [hn] at next
  unfold addsL
  by_cases h0 : r.f0 + r.f2 = 0
  ·rw [if_pos h0]
   obtain rfl : n = 0 := by omega
   rw [show List.replicate 0 E = ([] : List ByteArray) from rfl, List.append_nil]
   exact next done (s ++ r.f1) (by omega) (by rw [size_add]; omega)
  ·rw [if_neg h0]
   obtain ⟨n, rfl⟩ : ∃ m, n = m + 1 := ⟨n - 1, by omega⟩
   have := next (done ++ [s ++ r.f1] ++ List.replicate n E) E (by simp; omega) (by rw [E_size]; omega)
   rw [List.append_assoc (done ++ [s ++ r.f1]), ← List.replicate_succ'] at this
   rw [this, show (r.f0 + r.f2).toNat - 1 = n by omega]
   simp [List.append_assoc]
theorem adds_f {l : List Rn} (hl : l.length ≤ 100) (hg : good l = true) (h1 : inL l ≤ 3000) (h2 : outL l ≤ 3000) (k : Nat) (hk : 3999 ≤ k) : jj13.f k l = some (addsL l E) := by
 obtain ⟨g1, g2, g3, g4⟩ := good_ok hg
 have := inL_nonneg g4
 exact adds_l l (by omega) l [] k [] E rfl g4 (by omega) (by simp; omega) (by rw [E_size]; omega)
theorem drops_in2 (l0 pre suf : List Rn) (r : Rn) (hfe : l0 = pre ++ r :: suf) (hb : l0.length ≤ 65536) (h1 : r.f2 ≤ 16777216) : ∀ (n k : Nat) (X : List Bool) (x : Int), 0 ≤ x → x + n = r.f2 → X.length + n ≤ 8000000 →
  jj14.l2 (k + n + 1) l0 X (pre.length : Int) x = jj14.l0 k l0 (X ++ List.replicate n true) ((pre.length : Int) + 1) := by
 obtain ⟨_, _, hlt⟩ := snoc hfe
 intro n
 induction n with
 | zero =>
  intro k X x hx hn hX
  simp only [jj14.l2]
  rw [if_pos (by omega), if_pos hlt, rd_at hfe, if_neg (by omega), w64 (x := (pre.length : Int) + 1) (by omega) (by omega)]
  simp
 | succ n ih =>
  intro k X x hx hn hX
  have hi := ih k (X ++ [true]) (x + 1) (by omega) (by omega) (by simp; omega)
  rw [show k + (n + 1) + 1 = (k + n + 1) + 1 by omega]
  obtain ⟨m, hm⟩ : ∃ m, m = k + n + 1 := ⟨_, rfl⟩
  rw [← hm] at hi ⊢
  simp only [jj14.l2]
  rw [if_pos (by omega), if_pos hlt, rd_at hfe, if_pos (by omega), if_pos (by omega), w64 (x := x + 1) (by omega) (by omega)]
  refine hi.trans ?_
  rw [List.append_assoc, List.replicate_succ]; rfl
theorem drops_in1 (l0 pre suf : List Rn) (r : Rn) (hfe : l0 = pre ++ r :: suf) (hb : l0.length ≤ 65536) (h1 : r.f0 ≤ 16777216) : ∀ (n k : Nat) (X : List Bool) (x : Int), 0 ≤ x → x + n = r.f0 → X.length + n ≤ 8000000 →
  jj14.l1 (k + n + 1) l0 X (pre.length : Int) x = jj14.l2 k l0 (X ++ List.replicate n false) (pre.length : Int) 0 := by
 obtain ⟨_, _, hlt⟩ := snoc hfe
 intro n
 induction n with
 | zero =>
  intro k X x hx hn hX
  simp only [jj14.l1]
  rw [if_pos (by omega), if_pos hlt, rd_at hfe, if_neg (by omega)]
  simp
 | succ n ih =>
  intro k X x hx hn hX
  have hi := ih k (X ++ [false]) (x + 1) (by omega) (by omega) (by simp; omega)
  rw [show k + (n + 1) + 1 = (k + n + 1) + 1 by omega]
  obtain ⟨m, hm⟩ : ∃ m, m = k + n + 1 := ⟨_, rfl⟩
  rw [← hm] at hi ⊢
  simp only [jj14.l1]
  rw [if_pos (by omega), if_pos hlt, rd_at hfe, if_pos (by omega), if_pos (by omega), w64 (x := x + 1) (by omega) (by omega)]
  refine hi.trans ?_
  rw [List.append_assoc, List.replicate_succ]; rfl
theorem drops_l (l0 : List Rn) (hb : l0.length ≤ 65536) : ∀ (suf pre : List Rn) (k : Nat) (X : List Bool), l0 = pre ++ suf → (∀ r ∈ suf, knd r ≠ 0) → 3 * suf.length + (inL suf).toNat < k → (X.length : Int) + inL suf ≤ 4000000 →
  jj14.l0 k l0 X (pre.length : Int) = some (X ++ dropsL suf) := by
 intro suf
 induction suf with
 | nil =>
  intro pre k X hfe _ hk _
  obtain ⟨k, rfl⟩ : ∃ m, k = m + 1 := ⟨k - 1, by omega⟩
  have : l0.length = pre.length := by rw [hfe]; simp
  simp only [jj14.l0]
  rw [if_neg (by omega)]; simp [dropsL]
 | cons r suf ih =>
  intro pre k X hfe hok hk hd
  have hl : ∀ x ∈ suf, knd x ≠ 0 := fun x hx => hok x (List.mem_cons_of_mem _ hx)
  have hp := knd_pos (hok r List.mem_cons_self)
  have hi := inL_nonneg hl
  obtain ⟨hl2, hn, hlt⟩ := snoc hfe
  simp only [inL, List.length_cons] at hd hk
  obtain ⟨a, ha⟩ : ∃ n : Nat, (n : Int) = r.f0 := ⟨r.f0.toNat, by omega⟩
  obtain ⟨b, hb2⟩ : ∃ n : Nat, (n : Int) = r.f2 := ⟨r.f2.toNat, by omega⟩
  obtain ⟨k, rfl⟩ : ∃ m, k = m + b + 1 + a + 1 + 1 := ⟨k - a - b - 3, by omega⟩
  have e1 := drops_in1 l0 pre suf r hfe hb (by omega) a (k + b + 1) X 0 (by omega) (by omega) (by omega)
  have e2 := drops_in2 l0 pre suf r hfe hb (by omega) b k (X ++ List.replicate a false) 0 (by omega) (by omega) (by simp; omega)
  have e3 := ih (pre ++ [r]) k (X ++ List.replicate a false ++ List.replicate b true) hl2 hl (by omega) (by simp; omega)
  rw [hn] at e3
  obtain ⟨m, hm⟩ : ∃ m, m = k + b + 1 + a + 1 := ⟨_, rfl⟩
  rw [← hm] at e1 ⊢
  simp only [jj14.l0]
  rw [if_pos hlt, e1, e2, e3]
  show _ = some (X ++ (List.replicate r.f0.toNat false ++ (List.replicate r.f2.toNat true ++ dropsL suf)))
  rw [show r.f0.toNat = a by omega, show r.f2.toNat = b by omega]
  simp [List.append_assoc]
theorem drops_f {l : List Rn} (hl : l.length ≤ 100) (hg : good l = true) (h1 : inL l ≤ 3000) (k : Nat) (hk : 3999 ≤ k) : jj14.f k l = some (dropsL l) := by
 obtain ⟨g1, g2, g3, g4⟩ := good_ok hg
 have := inL_nonneg g4
 exact drops_l l (by omega) l [] k [] rfl g4 (by omega) (by simp; omega)
theorem G_nonneg : ∀ (n : Nat) (A : List ByteArray) (D : List Bool) (b : Bool), 0 ≤ G A D n b := by
 intro n
 induction n with
 | zero => intro A D b; cases A <;> simp only [G] <;> (try split) <;> omega
 | succ n ih =>
  intro A D b
  cases A with
  | nil => simp only [G]; omega
  | cons s A =>
   cases D with
   | nil => simp only [G]; omega
   | cons d D =>
    have := ih A D b
    simp only [G]
    split <;> omega
theorem rmove_l (a : Int) (b : Bool) (A : List ByteArray) (D : List Bool) (ha : a < (A.length : Int)) (hd : a ≤ (D.length : Int)) (hA : A.length ≤ 100000) : ∀ (m k i : Nat) (n : Int), (i : Int) + m = a → m < k → 0 ≤ n → n + G (A.drop i) (D.drop i) m b ≤ 4000000 →
  jj15.l0 k a b A D n (i : Int) = some (n + G (A.drop i) (D.drop i) m b, true) := by
 intro m
 induction m with
 | zero =>
  intro k i n hi hk hn hG
  obtain ⟨k, rfl⟩ : ∃ m, k = m + 1 := ⟨k - 1, by omega⟩
  obtain ⟨s, hs, hr⟩ := drop_at (d := ByteArray.empty) (l := A) (i := i) (by omega)
  have hia : (i : Int) = a := by omega
  simp only [jj15.l0]
  rw [if_neg (by omega)]
  rw [hs] at hG ⊢
  rw [hia] at hr
  simp only [G] at hG ⊢
  cases b with
  | false => rw [if_neg Bool.false_ne_true]; simp
  | true =>
   rw [if_pos rfl] at hG
   rw [if_pos rfl, if_pos (by omega), if_pos ha, hr, w64 (by omega) (by omega)]; rfl
 | succ m ih =>
  intro k i n hi hk hn hG
  obtain ⟨k, rfl⟩ : ∃ m, k = m + 1 := ⟨k - 1, by omega⟩
  obtain ⟨s, hs, hr⟩ := drop_at (d := ByteArray.empty) (l := A) (i := i) (by omega)
  obtain ⟨d, hds, hdr⟩ := drop_at (d := false) (l := D) (i := i) (by omega)
  simp only [jj15.l0]
  rw [hs, hds] at hG ⊢
  simp only [G] at hG ⊢
  have hg := G_nonneg m (A.drop (i + 1)) (D.drop (i + 1)) b
  rw [if_pos (by omega), if_pos (by omega), if_pos (by omega), if_pos (by omega), hr, hdr]
  have next := fun n' => ih k (i + 1) n' (by omega) (by omega)
  rw [show ((i + 1 : Nat) : Int) = (i : Int) + 1 by omega] at next
  cases d with
  | true =>
   rw [if_pos rfl] at hG ⊢
   rw [if_pos rfl, w64 (x := n + (s.size : Int)) (by omega) (by omega), w64 (x := (i : Int) + 1) (by omega) (by omega), next _ (by omega) (by omega)]
   simp; omega
  | false =>
   rw [if_neg Bool.false_ne_true] at hG ⊢
   rw [if_neg Bool.false_ne_true, w64 (x := n + (s.size : Int)) (by omega) (by omega), w64 (x := n + (s.size : Int) + 1) (by omega) (by omega), w64 (x := (i : Int) + 1) (by omega) (by omega), next _ (by omega) (by omega)]
   simp; omega
theorem rmove_f {l : List Rn} (hl : l.length ≤ 100) (hs : good l = true → inL l ≤ 3000 ∧ outL l ≤ 3000) (a : Int) (b : Bool) (k : Nat) (hk : 4000 ≤ k) : jj15.f k l a b = some (moveL l a b) := by
 obtain ⟨k, rfl⟩ : ∃ m, k = m + 1 := ⟨k - 1, by omega⟩
 have hj : jj15.j0 (k + 1) l a b true = some (0, false) := by simp only [jj15.j0]; rw [if_pos (by trivial)]
 have hno : ¬ (good l = true ∧ 0 ≤ a ∧ a ≤ inL l) → moveL l a b = (0, false) := fun h => by unfold moveL; rw [if_neg h]
 unfold jj15.f
 rw [rgood_f (by omega), Option.bind_some]
 cases hg : good l with
 | false => rw [if_neg Bool.false_ne_true, hj, hno (fun h => by rw [hg] at h; cases h.1)]
 | true =>
  rw [if_pos rfl]
  by_cases c1 : a < 0
  ·rw [if_pos c1, hj, hno (fun h => by omega)]
  ·rw [if_neg c1, rin_f (by omega) _ (by omega), Option.bind_some, hg, if_pos rfl]
   by_cases c2 : a > inL l
   ·rw [decide_eq_true c2, hj, hno (fun h => by omega)]
   ·rw [decide_eq_false c2, moveL_P hg (by omega) (by omega)]
    obtain ⟨s1, s2⟩ := hs hg
    obtain ⟨g1, g2, g3, g4⟩ := good_ok hg
    have hp := P_le_out l g4 a b (by omega)
    have la := addsL_length l E g4
    have ld := dropsL_length l g4
    have hG := G_P l E a.toNat b g4 (by omega)
    rw [E_size, show (if a.toNat = 0 ∧ b = false then (0 : Int) else ((0 : Nat) : Int)) = 0 by split <;> rfl, Int.zero_add, show ((a.toNat : Nat) : Int) = a by omega] at hG
    simp only [jj15.j0]
    rw [if_neg (by simp), adds_f hl hg s1 s2 _ (by omega), Option.bind_some, drops_f hl hg s1 _ (by omega), Option.bind_some]
    have := rmove_l a b (addsL l E) (dropsL l) (by omega) (by omega) (by omega) a.toNat k 0 0 (by omega) (by omega) (by omega) (by rw [List.drop_zero, List.drop_zero, hG]; omega)
    rw [List.drop_zero, List.drop_zero, hG] at this
    refine this.trans ?_
    rw [Int.zero_add]
theorem dropsL_append (x y : List Rn) : dropsL (x ++ y) = dropsL x ++ dropsL y := by
 induction x with
 | nil => rfl
 | cons r x ih => rw [List.cons_append]; simp only [dropsL]; rw [ih]; simp [List.append_assoc]
theorem drop_bit {op pre suf : List Rn} {r : Rn} (hfe : op = pre ++ r :: suf) (hok : ∀ x ∈ op, knd x ≠ 0) {j : Int} (h1 : inL pre ≤ j) (h2 : j < inL pre + (r.f0 + r.f2)) : rdOf false (dropsL op) j = decide (0 < r.f2) := by
 have hp : ∀ x ∈ pre, knd x ≠ 0 := fun x hx => hok x (by rw [hfe]; exact List.mem_append_left _ hx)
 have hr := hok r (by rw [hfe]; simp)
 have hl := dropsL_length pre hp
 rw [hfe, dropsL_append]
 have e0 : dropsL (r :: suf) = List.replicate r.f0.toNat false ++ (List.replicate r.f2.toNat true ++ dropsL suf) := rfl
 rw [e0]
 rcases knd_three hr with c | c | c
 ·have e := run_eq c
  rw [decide_eq_false (by omega)]
  exact rd_rep _ _ _ _ (j - inL pre).toNat _ (by omega) (by omega)
 ·have e := run_eq2 c
  omega
 ·have e := run_eq3 c
  rw [decide_eq_true (by omega), show r.f0.toNat = 0 by omega, show List.replicate 0 false = ([] : List Bool) from rfl, List.nil_append]
  exact rd_rep _ _ _ _ (j - inL pre).toNat _ (by omega) (by omega)
structure Fit (op : List Rn) : Prop where
 l : op.length ≤ 100
 g : good op = true
 i : inL op ≤ 3000
 o : outL op ≤ 3000
theorem Fit.move {op : List Rn} (h : Fit op) {a : Int} (b : Bool) (k : Nat) (hk : 4000 ≤ k) (h0 : 0 ≤ a) (h1 : a ≤ inL op) : jj15.f k op a b = some (P op a b, true) := by
 rw [rmove_f h.l (fun _ => ⟨h.i, h.o⟩) a b k hk, moveL_P h.g h0 h1]
theorem run_drop {op pre suf : List Rn} {r : Rn} (h : Fit op) (hfe : op = pre ++ r :: suf) (hr : knd r = 3) (a b : Int) : ∀ (n k : Nat) (f t j : Int), 0 ≤ j → inL pre ≤ j → j + n ≤ inL pre + r.f2 → j + n ≤ b → b ≤ inL op →
  jj16.l0 (k + n) op (dropsL op) f t j a b = jj16.l0 k op (dropsL op) f t (j + n) a b := by
 obtain ⟨g1, g2, g3, g4⟩ := good_ok h.g
 have e := run_eq3 hr
 have hi := h.i
 have ld := dropsL_length op g4
 intro n
 induction n with
 | zero => intro k f t j _ _ _ _ _; simp
 | succ n ih =>
  intro k f t j h0 h1 h2 h3 h4
  have := ih k f t (j + 1) (by omega) (by omega) (by omega) (by omega) h4
  rw [show k + (n + 1) = (k + n) + 1 by omega]
  obtain ⟨m, hm⟩ : ∃ m, m = k + n := ⟨_, rfl⟩
  rw [← hm] at this ⊢
  simp only [jj16.l0]
  rw [if_pos (by omega), if_pos (by omega), if_pos (by omega), drop_bit hfe g4 h1 (by omega), decide_eq_true (by omega), if_pos rfl, w64 (x := j + 1) (by omega) (by omega), this, show j + 1 + (n : Int) = j + ((n + 1 : Nat) : Int) by omega]
theorem run_keep {op pre suf : List Rn} {r : Rn} (h : Fit op) (hfe : op = pre ++ r :: suf) (hr : knd r = 1) (a b : Int) : ∀ (n k : Nat) (f t j : Int), 0 ≤ j → inL pre ≤ j → j + n ≤ inL pre + r.f0 → j + n ≤ b → b ≤ inL op → 4000 ≤ k →
  jj16.l0 (k + n) op (dropsL op) f t j a b = jj16.l0 k op (dropsL op) (if n = 0 then f else if f < 0 then outL pre + j - inL pre else f) (if n = 0 then t else outL pre + (j + n) - inL pre) (j + n) a b := by
 obtain ⟨g1, g2, g3, g4⟩ := good_ok h.g
 have e := run_eq hr
 have hi := h.i
 have ho := h.o
 have ld := dropsL_length op g4
 have hp : ∀ x ∈ pre, knd x ≠ 0 := fun x hx => g4 x (by rw [hfe]; exact List.mem_append_left _ hx)
 have hpn := inL_nonneg hp
 intro n
 induction n with
 | zero => intro k f t j _ _ _ _ _ _; simp
 | succ n ih =>
  intro k f t j h0 h1 h2 h3 h4 hk
  have hP : P op j true = outL pre + j - inL pre := by
   have := P_app pre hp (r :: suf) (j - inL pre) (by omega)
   rw [← hfe, show inL pre + (j - inL pre) = j by omega] at this
   rw [this, P_keep hr, if_pos (by omega)]; omega
  have hPo := P_le_out op g4 j true h0
  have := fun f' t' => ih k f' t' (j + 1) (by omega) (by omega) (by omega) (by omega) h4 hk
  rw [show k + (n + 1) = (k + n) + 1 by omega]
  obtain ⟨m, hm⟩ : ∃ m, m = k + n := ⟨_, rfl⟩
  rw [← hm] at this ⊢
  simp only [jj16.l0]
  rw [if_pos (by omega), if_pos (by omega), if_pos (by omega), drop_bit hfe g4 h1 (by omega), decide_eq_false (by omega), if_neg Bool.false_ne_true, h.move true m (by omega) h0 (by omega), Option.bind_some, w64 (x := j + 1) (by omega) (by omega), hP, w64 (x := outL pre + j - inL pre + 1) (by omega) (by omega)]
  rw [show j + 1 + (n : Int) = j + ((n + 1 : Nat) : Int) by omega] at this
  rw [if_neg (show ¬ (n + 1 = 0) by omega), if_neg (show ¬ (n + 1 = 0) by omega)]
  by_cases hf : f < 0
  ·rw [if_pos hf, if_pos hf, this]
   rw [if_neg (show ¬ (outL pre + j - inL pre < 0) by omega)]
   by_cases hn : n = 0
   ·subst hn; rw [if_pos rfl, if_pos rfl]; congr 1; omega
   ·rw [if_neg hn, if_neg hn]
  ·rw [if_neg hf, if_neg hf, this]
   rw [if_neg hf]
   by_cases hn : n = 0
   ·subst hn; rw [if_pos rfl, if_pos rfl]; congr 1; omega
   ·rw [if_neg hn, if_neg hn]
def fin3 (op : List Rn) (a : Int) (m : Sp) : Int × Int × Bool := if m.found then (m.e0, m.e1, true) else (P op a false, P op a false, true)
def Rel (m : Sp) (f t : Int) : Prop := (m.found = true ∧ f = m.e0 ∧ t = m.e1 ∧ 0 ≤ f) ∨ (m.found = false ∧ f = -1)
theorem span_end {op : List Rn} (h : Fit op) {a b : Int} (h0 : 0 ≤ a) (h1 : a ≤ b) (h2 : b ≤ inL op) {m : Sp} {f t j : Int} (hr : Rel m f t) (hj : b ≤ j) (k : Nat) (hk : 4001 ≤ k) : jj16.l0 k op (dropsL op) f t j a b = some (fin3 op a m) := by
 obtain ⟨k, rfl⟩ : ∃ m, k = m + 1 := ⟨k - 1, by omega⟩
 simp only [jj16.l0]
 rw [if_neg (by omega)]
 unfold fin3
 rcases hr with ⟨c, rfl, rfl, c2⟩ | ⟨c, rfl⟩
 ·rw [if_neg (by omega), if_pos c]
 ·rw [if_pos (by decide), h.move false k (by omega) h0 (by omega), Option.bind_some, if_neg (by rw [c]; exact Bool.false_ne_true)]
theorem spS_past (a b : Int) : ∀ (l : List Rn) (i o : Int) (m : Sp), (∀ r ∈ l, knd r ≠ 0) → (b ≤ i ∨ b ≤ a) → spS a b (stepsL l i o) m = m := by
 intro l
 induction l with
 | nil => intro i o m _ _; rfl
 | cons r l ih =>
  intro i o m hok hie
  have hp := knd_pos (hok r List.mem_cons_self)
  show spS a b (stepsL l _ _) (meetL a b ⟨r, i, o⟩ m) = m
  have : meetL a b ⟨r, i, o⟩ m = m := by
   unfold meetL hi lo
   rw [if_pos]
   simp only
   split <;> split <;> omega
  rw [this]
  exact ih _ _ _ (fun x hx => hok x (List.mem_cons_of_mem _ hx)) (by omega)
set_option maxHeartbeats 1000000 in
theorem span_l {op : List Rn} (h : Fit op) {a b : Int} (h0 : 0 ≤ a) (h1 : a ≤ b) (h2 : b ≤ inL op) : ∀ (suf pre : List Rn) (k : Nat) (m : Sp) (f t j : Int), op = pre ++ suf → Rel m f t → j = (if a < inL pre then inL pre else a) → 4001 + (b - j).toNat ≤ k →
  jj16.l0 k op (dropsL op) f t j a b = some (fin3 op a (spS a b (stepsL suf (inL pre) (outL pre)) m)) := by
 obtain ⟨g1, g2, g3, g4⟩ := good_ok h.g
 intro suf
 induction suf with
 | nil =>
  intro pre k m f t j hfe hr hj hk
  obtain rfl : op = pre := by rw [hfe]; simp
  exact span_end h h0 h1 h2 hr (by rw [hj]; split <;> omega) k (by omega)
 | cons r suf ih =>
  intro pre k m f t j hfe hr hj hk
  have hok : ∀ x ∈ r :: suf, knd x ≠ 0 := fun x hx => g4 x (by rw [hfe]; exact List.mem_append_right _ hx)
  have hp : ∀ x ∈ pre, knd x ≠ 0 := fun x hx => g4 x (by rw [hfe]; exact List.mem_append_left _ hx)
  have hpn := inL_nonneg hp
  have hja : a ≤ j ∧ inL pre ≤ j ∧ (j = a ∨ j = inL pre) := by rw [hj]; split <;> omega
  have hlo : lo a ⟨r, inL pre, outL pre⟩ = j := by rw [hj]; rfl
  by_cases hjb : b ≤ j
  ·rw [spS_past a b _ _ _ _ hok (by omega)]
   exact span_end h h0 h1 h2 hr hjb k (by omega)
  ·have hl2 : op = (pre ++ [r]) ++ suf := by rw [hfe]; simp
   have ei : inL (pre ++ [r]) = inL pre + (r.f0 + r.f2) := by rw [inL_append]; simp [inL]
   have eo : outL (pre ++ [r]) = outL pre + (r.f0 + (r.f1.size : Int)) := by rw [outL_append]; simp [outL]
   have next := fun k m f t j => ih (pre ++ [r]) k m f t j hl2
   rw [ei, eo] at next
   show _ = some (fin3 op a (spS a b (stepsL suf (inL pre + (r.f0 + r.f2)) (outL pre + (r.f0 + (r.f1.size : Int)))) (meetL a b ⟨r, inL pre, outL pre⟩ m)))
   have hmt : meetL a b ⟨r, inL pre, outL pre⟩ m = if (if inL pre + r.f0 < b then inL pre + r.f0 else b) ≤ j then m else ⟨if m.found then m.e0 else outL pre + j - inL pre, outL pre + (if inL pre + r.f0 < b then inL pre + r.f0 else b) - inL pre, true⟩ := by
    unfold meetL
    rw [hlo]; rfl
   have hsok : ∀ x ∈ suf, knd x ≠ 0 := fun x hx => hok x (List.mem_cons_of_mem _ hx)
   rw [hmt]
   rcases knd_three (hok r List.mem_cons_self) with c | c | c
   ·have e := run_eq c
    by_cases c1 : inL pre + r.f0 ≤ j
    ·rw [if_pos (by split <;> omega)]
     exact next k m f t j hr (by rw [if_neg (by omega)]; omega) (by omega)
    ·have hT : j < (if inL pre + r.f0 < b then inL pre + r.f0 else b) := by split <;> omega
     rw [if_neg (by omega)]
     obtain ⟨T, hTe⟩ : ∃ T, T = (if inL pre + r.f0 < b then inL pre + r.f0 else b) := ⟨_, rfl⟩
     have hTb : T ≤ inL pre + r.f0 ∧ T ≤ b ∧ (T = b ∨ T = inL pre + r.f0) := by rw [hTe]; split <;> omega
     rw [← hTe] at hT ⊢
     obtain ⟨n, hn⟩ : ∃ n : Nat, (n : Int) = T - j := ⟨(T - j).toNat, by omega⟩
     obtain ⟨k, rfl⟩ : ∃ q, k = q + n := ⟨k - n, by omega⟩
     rw [run_keep h hfe c a b n k f t j (by omega) (by omega) (by omega) (by omega) h2 (by omega), if_neg (show ¬ n = 0 by omega), if_neg (show ¬ n = 0 by omega), show j + (n : Int) = T by omega]
     have hr2 : Rel ⟨if m.found then m.e0 else outL pre + j - inL pre, outL pre + T - inL pre, true⟩ (if f < 0 then outL pre + j - inL pre else f) (outL pre + T - inL pre) := by
      refine .inl ⟨rfl, ?_, rfl, ?_⟩
      ·rcases hr with ⟨c, rfl, rfl, c2⟩ | ⟨c, rfl⟩
       ·show _ = if m.found = true then _ else _
        rw [if_neg (by omega), if_pos c]
       ·show _ = if m.found = true then _ else _
        rw [if_pos (by decide), if_neg (by rw [c]; exact Bool.false_ne_true)]
      ·split <;> omega
     by_cases cb : T = b
     ·rw [spS_past a b _ _ _ _ hsok (.inl (by omega))]
      exact span_end h h0 h1 h2 hr2 (by omega) k (by omega)
     ·exact next k _ _ _ T hr2 (by rw [if_pos (by omega)]; omega) (by omega)
   ·have e := run_eq2 c
    rw [if_pos (by split <;> omega)]
    exact next k m f t j hr (by rw [hj]; split <;> split <;> omega) (by omega)
   ·have e := run_eq3 c
    rw [if_pos (by split <;> omega)]
    by_cases c1 : inL pre + r.f2 ≤ j
    ·exact next k m f t j hr (by rw [if_neg (by omega)]; omega) (by omega)
    ·obtain ⟨T, hTe⟩ : ∃ T, T = (if inL pre + r.f2 < b then inL pre + r.f2 else b) := ⟨_, rfl⟩
     have hTb : j < T ∧ T ≤ inL pre + r.f2 ∧ T ≤ b ∧ (T = b ∨ T = inL pre + r.f2) := by rw [hTe]; split <;> omega
     obtain ⟨n, hn⟩ : ∃ n : Nat, (n : Int) = T - j := ⟨(T - j).toNat, by omega⟩
     obtain ⟨k, rfl⟩ : ∃ q, k = q + n := ⟨k - n, by omega⟩
     rw [run_drop h hfe c a b n k f t j (by omega) (by omega) (by omega) (by omega) h2, show j + (n : Int) = T by omega]
     by_cases cb : T = b
     ·rw [spS_past a b _ _ _ _ hsok (.inl (by omega))]
      exact span_end h h0 h1 h2 hr (by omega) k (by omega)
     ·exact next k m f t T hr (by rw [if_pos (by omega)]; omega) (by omega)
def tri (v : (Int × Int) × Bool) : Int × Int × Bool := (v.1.1, v.1.2, v.2)
theorem rspan_f {l : List Rn} (hl : l.length ≤ 100) (hs : good l = true → inL l ≤ 3000 ∧ outL l ≤ 3000) (a b : Int) (k : Nat) (hk : 8000 ≤ k) : jj16.f k l a b = some (tri (spanL l a b)) := by
 obtain ⟨k, rfl⟩ : ∃ m, k = m + 1 := ⟨k - 1, by omega⟩
 have hj : jj16.j0 (k + 1) l true a b = some (0, 0, false) := by simp only [jj16.j0]; rw [if_pos (by trivial)]
 have hno : ¬ (good l = true ∧ 0 ≤ a ∧ a ≤ b ∧ b ≤ inL l) → spanL l a b = ((0, 0), false) := fun h => by unfold spanL; rw [if_neg h]
 unfold jj16.f
 rw [rgood_f (by omega), Option.bind_some]
 cases hg : good l with
 | false => rw [if_neg Bool.false_ne_true, hj, hno (fun h => by rw [hg] at h; cases h.1)]; rfl
 | true =>
  rw [if_pos rfl]
  by_cases c1 : a < 0
  ·rw [if_pos c1, hj, hno (fun h => by omega)]; rfl
  ·rw [if_neg c1]
   by_cases c3 : a > b
   ·rw [if_pos c3, hj, hno (fun h => by omega)]; rfl
   ·rw [if_neg c3, rin_f (by omega) _ (by omega), Option.bind_some, hg, if_pos rfl]
    by_cases c2 : b > inL l
    ·rw [decide_eq_true c2, hj, hno (fun h => by omega)]; rfl
    ·obtain ⟨s1, s2⟩ := hs hg
     obtain ⟨g1, g2, g3, g4⟩ := good_ok hg
     have hf : Fit l := ⟨hl, hg, s1, s2⟩
     rw [decide_eq_false c2]
     simp only [jj16.j0]
     rw [if_neg (by simp), drops_f hl hg s1 _ (by omega), Option.bind_some]
     have := span_l hf (a := a) (b := b) (by omega) (by omega) (by omega) l [] k ⟨0, 0, false⟩ (-1) (-1) a rfl (.inr ⟨rfl, rfl⟩) (by show a = if a < 0 then (0 : Int) else a; rw [if_neg (by omega)]) (by omega)
     refine this.trans ?_
     show some (fin3 l a (spS a b (stepsL l 0 0) ⟨0, 0, false⟩)) = _
     have hsp : spanL l a b = (if (spS a b (stepsL l 0 0) ⟨0, 0, false⟩).found then ((spS a b (stepsL l 0 0) ⟨0, 0, false⟩).e0, (spS a b (stepsL l 0 0) ⟨0, 0, false⟩).e1) else ((moveL l a false).1, (moveL l a false).1), true) := if_pos ⟨hg, by omega, by omega, by omega⟩
     rw [hsp, moveL_P hg (by omega) (by omega)]
     unfold tri fin3
     by_cases hfd : (spS a b (stepsL l 0 0) ⟨0, 0, false⟩).found = true
     ·rw [if_pos hfd, if_pos hfd]
     ·rw [if_neg hfd, if_neg hfd]
end Go.Proofs.Ythocalfgeaclgaa.PlaceG
end

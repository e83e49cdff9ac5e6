/- Shaken: what the claim's theorem needs of our texts, of the printed ones and of the print's words. -/
import Derived.Test.YtjbnffadfohofaaXCarryShowsF
import Derived.Outline
import Derived.Stop.BytesEq
import Derived.Deep.QuietTactic
import Derived.BigQuiet
import Derived.Deep.Slices
import Derived.ChangeArms
import Derived.OpenShut
import Derived.ShutString
import Derived.SizedLaws
import Derived.ChangeSlices
import Derived.Test.YtjbnffadfohofaaRows
import Derived.WalkKit
import Derived.ProofKit
import Derived.ChangeOld
import Derived.Below
-- MERGED YtjbnffadfohofaaCarryR
section
namespace Go.Proofs.Ytjbnffadfohofaa.CarryR
open Go.RowKit Go.Proofs.Ytjbnffadfohofaa.P Go.Proofs.YtjbnffadfohofaaW.PrintWords Go.Proofs.YtjbnffadfohofaaW.PrintLast Go.Proofs.YtjbnffadfohofaaW.PrintMore Go.Proofs.Ytjbnffadfohofaa.EditL Go.Proofs.Ytjbnffadfohofaa.EditK Go.Proofs.Ytjbnffadfohofaa.EditF Go.Proofs.Ytjbnffadfohofaa.PlaceS Go.Proofs.Ytjbnffadfohofaa.PlaceF Go.Proofs.Ytjbnffadfohofaa.PlaceOv Go.Proofs.Ytjbnffadfohofaa.NoteN Go.Proofs.Ytjbnffadfohofaa.CarryN Go.Proofs.Ytjbnffadfohofaa.CarryM
set_option linter.unusedSimpArgs false
set_option linter.unusedVariables false
theorem rless_f (a b : Nt) : variorumref11_Less.f a.f0.f0 a.f0.f1 a.f1 b.f0.f0 b.f0.f1 b.f1 = some (lessN a b) := by
 unfold variorumref11_Less.f lessN
 repeat' split
 all_goals rfl
theorem notes_l (l : List Nt) (hl : l.length ≤ 1000000) : ∀ (n : Nat) (k j : Nat), j + n = l.length → n < k → variorumref11_Notes.l0 k l (j : Int) = some (fineR (prevO l j) (l.drop j)) := by
 intro n
 induction n with
 | zero =>
  intro k j hj hk
  obtain ⟨k, rfl⟩ : ∃ m, k = m + 1 := ⟨k - 1, by omega⟩
  simp only [variorumref11_Notes.l0]
  rw [if_neg (by omega), List.drop_eq_nil_of_le (by omega)]
  rfl
 | succ n ih =>
  intro k j hj hk
  obtain ⟨k, rfl⟩ : ∃ m, k = m + 1 := ⟨k - 1, by omega⟩
  have next := ih k (j + 1) (by omega) (by omega)
  have hx : rd_T44 l (j : Int) = l.getD j z44 := by unfold rd_T44; rw [Int.toNat_natCast]
  rw [fine_step (show j < l.length by omega)]
  simp only [variorumref11_Notes.l0]
  rw [if_pos (by omega), if_pos (by omega), hx]
  obtain ⟨x, hx2⟩ : ∃ x, x = l.getD j z44 := ⟨_, rfl⟩
  rw [← hx2]
  by_cases hs : 0 ≤ x.f0.f0 ∧ x.f0.f0 ≤ x.f0.f1 ∧ x.f0.f1 ≤ 16777216
  ·rw [if_neg (by omega), if_neg (by omega), if_neg (by omega)]
   by_cases hc : 0 ≤ x.f1 ∧ x.f1 ≤ 65536
   ·rw [if_neg (by omega), if_neg (by omega), okX_yes hs hc]
    by_cases hj0 : j = 0
    ·subst hj0
     rw [if_neg (by omega), w64 (x := ((0 : Nat) : Int) + 1) (by omega) (by omega)]
     exact next
    ·rw [if_pos (by omega), w64 (x := (j : Int) - 1) (by omega) (by omega), if_pos (by omega), if_pos (by omega)]
     have hp : rd_T44 l ((j : Int) - 1) = l.getD (j - 1) z44 := by unfold rd_T44; rw [show ((j : Int) - 1).toNat = j - 1 by omega]
     rw [hp, rless_f, Option.bind_some, prevO_pos (by omega : 0 < j), w64 (x := (j : Int) + 1) (by omega) (by omega)]
     show (if lessN (l.getD (j - 1) z44) x = true then _ else _) = some ((true && lessN (l.getD (j - 1) z44) x) && _)
     cases lessN (l.getD (j - 1) z44) x with
     | true => rw [if_pos rfl]; exact next
     | false => rw [if_neg Bool.false_ne_true]; rfl
   ·rw [okX_code hc]
    by_cases h1 : x.f1 < 0
    ·rw [if_pos h1]; rfl
    ·rw [if_neg h1, if_pos (by omega)]; rfl
  ·rw [okX_spot hs]
   by_cases h1 : x.f0.f0 < 0
   ·rw [if_pos h1]; rfl
   ·rw [if_neg h1]
    by_cases h2 : x.f0.f0 > x.f0.f1
    ·rw [if_pos h2]; rfl
    ·rw [if_neg h2, if_pos (by omega)]; rfl
theorem notes_f (l : List Nt) (hl : l.length ≤ 1000000) (k : Nat) (hk : l.length < k) : variorumref11_Notes.f k l = some (fineL l) := by
 unfold variorumref11_Notes.f fineL
 by_cases h : (l.length : Int) > 4096
 ·rw [if_pos h, decide_eq_false (show ¬ l.length ≤ 4096 by omega), Bool.and_false]
 ·rw [if_neg h, decide_eq_true (show l.length ≤ 4096 by omega), Bool.and_true]
  exact notes_l l hl l.length k 0 (by omega) hk
theorem move_len {ops : List (List Rn)} {l : List Nt} (h : (moveS ops l).2 = true) : (moveS ops l).1.length = l.length := by
 unfold moveS at h ⊢
 cases hh : l.all (okN ops) with
 | true => simp
 | false => rw [hh] at h; cases h
theorem move_good {op : List Rn} {l : List Nt} (h : (moveS [op] l).2 = true) (hl : 0 < l.length) : good op = true := by
 unfold moveS at h
 cases l with
 | nil => simp at hl
 | cons x l =>
  rw [List.all_cons] at h
  cases hx : okN [op] x with
  | false => rw [hx] at h; cases h
  | true =>
   unfold okN at hx
   simp only [overS] at hx
   cases hs : (spanL op x.f0.f0 x.f0.f1).2 with
   | false => rw [hs] at hx; cases hx
   | true =>
    unfold spanL at hs
    by_cases hg : good op = true
    ·exact hg
    ·split at hs
     ·next hh => exact hh.1
     ·cases hs
end Go.Proofs.Ytjbnffadfohofaa.CarryR
end
-- MERGED YtjbnffadfohofaaPmessagefields
section
namespace Go.Proofs.Ytjbnffadfohofaa.P
open Go.RowKit Go.Proofs.YtjbnffadfohofaaW.PrintWords Go.Proofs.YtjbnffadfohofaaW.PrintLast Go.Proofs.YtjbnffadfohofaaW.PrintMore
attribute [local go_sem] max2_int min2_int max_two min_two max_three min_three max_four min_four   -- for this text's walks alone
set_option linter.unusedVariables false
set_option linter.unusedSimpArgs false
def message_fields.f (a0 : Int) : Option (List Int) := if a0 = 1 then (some (([0, 1, 2, 3] : List Int))) else (if a0 = 2 then (some (([0, 2, 3, 5] : List Int))) else (if a0 = 3 then (some (([2, 3] : List Int))) else (if a0 = 4 then (some (([2, 3, 6] : List Int))) else (if a0 = 5 then (some (([2, 7] : List Int))) else (if a0 = 6 then (some (([1] : List Int))) else (if a0 = 7 then (some (([4] : List Int))) else (some ([] : List Int))))))))
set_option maxHeartbeats 8000000 in
set_option maxRecDepth 100000 in
theorem message_fields.calls (a0 : Int) (r : List Int) (w : World) (h : message_fields.f a0 = some r) :
  Calls Try.prog 37 #[.int .i64 a0] w fun e w' => ∃ v0_ : Value, e = .returned (v0_) ∧ Kd.R (Kd.int .i64) 70 w' w.heap.size (fun _ => True) v0_ r ∧ Below w.heap.size w w' := by
 have HB := Aside0.mk (Below.refl w.heap.size w)
 have H : (if a0 = 1 then (some (([0, 1, 2, 3] : List Int))) else (if a0 = 2 then (some (([0, 2, 3, 5] : List Int))) else (if a0 = 3 then (some (([2, 3] : List Int))) else (if a0 = 4 then (some (([2, 3, 6] : List Int))) else (if a0 = 5 then (some (([2, 7] : List Int))) else (if a0 = 6 then (some (([1] : List Int))) else (if a0 = 7 then (some (([4] : List Int))) else (some ([] : List Int))))))))) = some r := h
 clear h
 by_cases c2 : a0 = 1
 ·rw [if_pos c2] at H
  have c2b0 : (a0 == 1) = true := beq_iff_eq.mpr c2
  have c2b1 : (a0 != 1) = false := bne_eq_false_iff_eq.mpr c2
  clear c2
  obtain ⟨y120, hy120⟩ : ∃ y_ : List Int, y_ = (([0, 1, 2, 3] : List Int)) := ⟨_, rfl⟩
  replace H : (some y120) = some r := by (rw [hy120]; with_reducible exact H)
  have Ny120 := Aside0.mk hy120
  clear hy120
  obtain rfl := Option.some.inj H
  go_enter Try.func37, Try.ntmps37
  go_wp2_with (first | ((with_reducible refine gate_dst (N := 6) rfl ?_); refine Kd.R_lit (Kd.int .i64) _ 70 ?hg (N := 6) ?hd (xs := ([0, 1, 2, 3] : List Int)) (inner := [.int .i64 0, .int .i64 1, .int .i64 2, .int .i64 3]) (ok := fun _ => True) (okp := fun _ => True) ?hr ?hp (fun _ hk => hk) trivial (Below.refl _ _) (Nat.le_refl _) (by simp) ?_; (case hd => rfl); (case hg => rfl); (case hr => (go_simp; done)); (case hp => exact (Reps.one (show Kd.M (Kd.int .i64) _ _ _ 0 [.int .i64 0] from rfl) (Reps.one (show Kd.M (Kd.int .i64) _ _ _ 1 [.int .i64 1] from rfl) (Reps.one (show Kd.M (Kd.int .i64) _ _ _ 2 [.int .i64 2] from rfl) (Reps.one (show Kd.M (Kd.int .i64) _ _ _ 3 [.int .i64 3] from rfl) (Reps.none _ _)))))); intro v121 w3 ho4 hb hg_ hnew_; clear hg_ hnew_; ((rw [← Ny120.out] at ho4)); have n0_ := Aside0.mk (Kd.R_lower ho4 (below_size (by repeat ((with_reducible (exact HB.out)))))); have n1_ := Aside0.mk (below_step (by repeat ((with_reducible (exact HB.out)))) hb); clear HB; have HO122 := n0_; have HB := n1_; clear n0_ n1_; clear hb ho4))
  go_ret
  exact ⟨_, by (rfl), by (with_reducible repeat ((apply Kd.R_drew))); exact HO122.out, by repeat ((with_reducible (exact HB.out)))⟩
 ·rw [if_neg c2] at H
  have c2b0 : (a0 == 1) = false := beq_eq_false_iff_ne.mpr c2
  have c2b1 : (a0 != 1) = true := bne_iff_ne.mpr c2
  by_cases c5 : a0 = 2
  ·rw [if_pos c5] at H
   have c5b0 : (a0 == 2) = true := beq_iff_eq.mpr c5
   have c5b1 : (a0 != 2) = false := bne_eq_false_iff_eq.mpr c5
   clear c5
   obtain ⟨y123, hy123⟩ : ∃ y_ : List Int, y_ = (([0, 2, 3, 5] : List Int)) := ⟨_, rfl⟩
   replace H : (some y123) = some r := by (rw [hy123]; with_reducible exact H)
   have Ny123 := Aside0.mk hy123
   clear hy123
   obtain rfl := Option.some.inj H
   go_enter Try.func37, Try.ntmps37
   go_wp2_with (first | ((with_reducible refine gate_dst (N := 9) rfl ?_); refine Kd.R_lit (Kd.int .i64) _ 70 ?hg (N := 9) ?hd (xs := ([0, 2, 3, 5] : List Int)) (inner := [.int .i64 0, .int .i64 2, .int .i64 3, .int .i64 5]) (ok := fun _ => True) (okp := fun _ => True) ?hr ?hp (fun _ hk => hk) trivial (Below.refl _ _) (Nat.le_refl _) (by simp) ?_; (case hd => rfl); (case hg => rfl); (case hr => (go_simp; done)); (case hp => exact (Reps.one (show Kd.M (Kd.int .i64) _ _ _ 0 [.int .i64 0] from rfl) (Reps.one (show Kd.M (Kd.int .i64) _ _ _ 2 [.int .i64 2] from rfl) (Reps.one (show Kd.M (Kd.int .i64) _ _ _ 3 [.int .i64 3] from rfl) (Reps.one (show Kd.M (Kd.int .i64) _ _ _ 5 [.int .i64 5] from rfl) (Reps.none _ _)))))); intro v124 w6 ho7 hb hg_ hnew_; clear hg_ hnew_; ((rw [← Ny123.out] at ho7)); have n0_ := Aside0.mk (Kd.R_lower ho7 (below_size (by repeat ((with_reducible (exact HB.out)))))); have n1_ := Aside0.mk (below_step (by repeat ((with_reducible (exact HB.out)))) hb); clear HB; have HO125 := n0_; have HB := n1_; clear n0_ n1_; clear hb ho7))
   go_ret
   exact ⟨_, by (rfl), by (with_reducible repeat ((apply Kd.R_drew))); exact HO125.out, by repeat ((with_reducible (exact HB.out)))⟩
  ·rw [if_neg c5] at H
   have c5b0 : (a0 == 2) = false := beq_eq_false_iff_ne.mpr c5
   have c5b1 : (a0 != 2) = true := bne_iff_ne.mpr c5
   by_cases c8 : a0 = 3
   ·rw [if_pos c8] at H
    have c8b0 : (a0 == 3) = true := beq_iff_eq.mpr c8
    have c8b1 : (a0 != 3) = false := bne_eq_false_iff_eq.mpr c8
    clear c8
    obtain ⟨y126, hy126⟩ : ∃ y_ : List Int, y_ = (([2, 3] : List Int)) := ⟨_, rfl⟩
    replace H : (some y126) = some r := by (rw [hy126]; with_reducible exact H)
    have Ny126 := Aside0.mk hy126
    clear hy126
    obtain rfl := Option.some.inj H
    go_enter Try.func37, Try.ntmps37
    go_wp2_with (first | ((with_reducible refine gate_dst (N := 12) rfl ?_); refine Kd.R_lit (Kd.int .i64) _ 70 ?hg (N := 12) ?hd (xs := ([2, 3] : List Int)) (inner := [.int .i64 2, .int .i64 3]) (ok := fun _ => True) (okp := fun _ => True) ?hr ?hp (fun _ hk => hk) trivial (Below.refl _ _) (Nat.le_refl _) (by simp) ?_; (case hd => rfl); (case hg => rfl); (case hr => (go_simp; done)); (case hp => exact (Reps.one (show Kd.M (Kd.int .i64) _ _ _ 2 [.int .i64 2] from rfl) (Reps.one (show Kd.M (Kd.int .i64) _ _ _ 3 [.int .i64 3] from rfl) (Reps.none _ _)))); intro v127 w9 ho10 hb hg_ hnew_; clear hg_ hnew_; ((rw [← Ny126.out] at ho10)); have n0_ := Aside0.mk (Kd.R_lower ho10 (below_size (by repeat ((with_reducible (exact HB.out)))))); have n1_ := Aside0.mk (below_step (by repeat ((with_reducible (exact HB.out)))) hb); clear HB; have HO128 := n0_; have HB := n1_; clear n0_ n1_; clear hb ho10))
    go_ret
    exact ⟨_, by (rfl), by (with_reducible repeat ((apply Kd.R_drew))); exact HO128.out, by repeat ((with_reducible (exact HB.out)))⟩
   ·rw [if_neg c8] at H
    have c8b0 : (a0 == 3) = false := beq_eq_false_iff_ne.mpr c8
    have c8b1 : (a0 != 3) = true := bne_iff_ne.mpr c8
    by_cases c11 : a0 = 4
    ·rw [if_pos c11] at H
     have c11b0 : (a0 == 4) = true := beq_iff_eq.mpr c11
     have c11b1 : (a0 != 4) = false := bne_eq_false_iff_eq.mpr c11
     clear c11
     obtain ⟨y129, hy129⟩ : ∃ y_ : List Int, y_ = (([2, 3, 6] : List Int)) := ⟨_, rfl⟩
     replace H : (some y129) = some r := by (rw [hy129]; with_reducible exact H)
     have Ny129 := Aside0.mk hy129
     clear hy129
     obtain rfl := Option.some.inj H
     go_enter Try.func37, Try.ntmps37
     go_wp2_with (first | ((with_reducible refine gate_dst (N := 15) rfl ?_); refine Kd.R_lit (Kd.int .i64) _ 70 ?hg (N := 15) ?hd (xs := ([2, 3, 6] : List Int)) (inner := [.int .i64 2, .int .i64 3, .int .i64 6]) (ok := fun _ => True) (okp := fun _ => True) ?hr ?hp (fun _ hk => hk) trivial (Below.refl _ _) (Nat.le_refl _) (by simp) ?_; (case hd => rfl); (case hg => rfl); (case hr => (go_simp; done)); (case hp => exact (Reps.one (show Kd.M (Kd.int .i64) _ _ _ 2 [.int .i64 2] from rfl) (Reps.one (show Kd.M (Kd.int .i64) _ _ _ 3 [.int .i64 3] from rfl) (Reps.one (show Kd.M (Kd.int .i64) _ _ _ 6 [.int .i64 6] from rfl) (Reps.none _ _))))); intro v130 w12 ho13 hb hg_ hnew_; clear hg_ hnew_; ((rw [← Ny129.out] at ho13)); have n0_ := Aside0.mk (Kd.R_lower ho13 (below_size (by repeat ((with_reducible (exact HB.out)))))); have n1_ := Aside0.mk (below_step (by repeat ((with_reducible (exact HB.out)))) hb); clear HB; have HO131 := n0_; have HB := n1_; clear n0_ n1_; clear hb ho13))
     go_ret
     exact ⟨_, by (rfl), by (with_reducible repeat ((apply Kd.R_drew))); exact HO131.out, by repeat ((with_reducible (exact HB.out)))⟩
    ·rw [if_neg c11] at H
     have c11b0 : (a0 == 4) = false := beq_eq_false_iff_ne.mpr c11
     have c11b1 : (a0 != 4) = true := bne_iff_ne.mpr c11
     by_cases c14 : a0 = 5
     ·rw [if_pos c14] at H
      have c14b0 : (a0 == 5) = true := beq_iff_eq.mpr c14
      have c14b1 : (a0 != 5) = false := bne_eq_false_iff_eq.mpr c14
      clear c14
      obtain ⟨y132, hy132⟩ : ∃ y_ : List Int, y_ = (([2, 7] : List Int)) := ⟨_, rfl⟩
      replace H : (some y132) = some r := by (rw [hy132]; with_reducible exact H)
      have Ny132 := Aside0.mk hy132
      clear hy132
      obtain rfl := Option.some.inj H
      go_enter Try.func37, Try.ntmps37
      go_wp2_with (first | ((with_reducible refine gate_dst (N := 18) rfl ?_); refine Kd.R_lit (Kd.int .i64) _ 70 ?hg (N := 18) ?hd (xs := ([2, 7] : List Int)) (inner := [.int .i64 2, .int .i64 7]) (ok := fun _ => True) (okp := fun _ => True) ?hr ?hp (fun _ hk => hk) trivial (Below.refl _ _) (Nat.le_refl _) (by simp) ?_; (case hd => rfl); (case hg => rfl); (case hr => (go_simp; done)); (case hp => exact (Reps.one (show Kd.M (Kd.int .i64) _ _ _ 2 [.int .i64 2] from rfl) (Reps.one (show Kd.M (Kd.int .i64) _ _ _ 7 [.int .i64 7] from rfl) (Reps.none _ _)))); intro v133 w15 ho16 hb hg_ hnew_; clear hg_ hnew_; ((rw [← Ny132.out] at ho16)); have n0_ := Aside0.mk (Kd.R_lower ho16 (below_size (by repeat ((with_reducible (exact HB.out)))))); have n1_ := Aside0.mk (below_step (by repeat ((with_reducible (exact HB.out)))) hb); clear HB; have HO134 := n0_; have HB := n1_; clear n0_ n1_; clear hb ho16))
      go_ret
      exact ⟨_, by (rfl), by (with_reducible repeat ((apply Kd.R_drew))); exact HO134.out, by repeat ((with_reducible (exact HB.out)))⟩
     ·rw [if_neg c14] at H
      have c14b0 : (a0 == 5) = false := beq_eq_false_iff_ne.mpr c14
      have c14b1 : (a0 != 5) = true := bne_iff_ne.mpr c14
      by_cases c17 : a0 = 6
      ·rw [if_pos c17] at H
       have c17b0 : (a0 == 6) = true := beq_iff_eq.mpr c17
       have c17b1 : (a0 != 6) = false := bne_eq_false_iff_eq.mpr c17
       clear c17
       obtain ⟨y135, hy135⟩ : ∃ y_ : List Int, y_ = (([1] : List Int)) := ⟨_, rfl⟩
       replace H : (some y135) = some r := by (rw [hy135]; with_reducible exact H)
       have Ny135 := Aside0.mk hy135
       clear hy135
       obtain rfl := Option.some.inj H
       go_enter Try.func37, Try.ntmps37
       go_wp2_with (first | ((with_reducible refine gate_dst (N := 21) rfl ?_); refine Kd.R_lit (Kd.int .i64) _ 70 ?hg (N := 21) ?hd (xs := ([1] : List Int)) (inner := [.int .i64 1]) (ok := fun _ => True) (okp := fun _ => True) ?hr ?hp (fun _ hk => hk) trivial (Below.refl _ _) (Nat.le_refl _) (by simp) ?_; (case hd => rfl); (case hg => rfl); (case hr => (go_simp; done)); (case hp => exact (Reps.one (show Kd.M (Kd.int .i64) _ _ _ 1 [.int .i64 1] from rfl) (Reps.none _ _))); intro v136 w18 ho19 hb hg_ hnew_; clear hg_ hnew_; ((rw [← Ny135.out] at ho19)); have n0_ := Aside0.mk (Kd.R_lower ho19 (below_size (by repeat ((with_reducible (exact HB.out)))))); have n1_ := Aside0.mk (below_step (by repeat ((with_reducible (exact HB.out)))) hb); clear HB; have HO137 := n0_; have HB := n1_; clear n0_ n1_; clear hb ho19))
       go_ret
       exact ⟨_, by (rfl), by (with_reducible repeat ((apply Kd.R_drew))); exact HO137.out, by repeat ((with_reducible (exact HB.out)))⟩
      ·rw [if_neg c17] at H
       have c17b0 : (a0 == 6) = false := beq_eq_false_iff_ne.mpr c17
       have c17b1 : (a0 != 6) = true := bne_iff_ne.mpr c17
       by_cases c20 : a0 = 7
       ·rw [if_pos c20] at H
        have c20b0 : (a0 == 7) = true := beq_iff_eq.mpr c20
        have c20b1 : (a0 != 7) = false := bne_eq_false_iff_eq.mpr c20
        clear c20
        obtain ⟨y138, hy138⟩ : ∃ y_ : List Int, y_ = (([4] : List Int)) := ⟨_, rfl⟩
        replace H : (some y138) = some r := by (rw [hy138]; with_reducible exact H)
        have Ny138 := Aside0.mk hy138
        clear hy138
        obtain rfl := Option.some.inj H
        go_enter Try.func37, Try.ntmps37
        go_wp2_with (first | ((with_reducible refine gate_dst (N := 24) rfl ?_); refine Kd.R_lit (Kd.int .i64) _ 70 ?hg (N := 24) ?hd (xs := ([4] : List Int)) (inner := [.int .i64 4]) (ok := fun _ => True) (okp := fun _ => True) ?hr ?hp (fun _ hk => hk) trivial (Below.refl _ _) (Nat.le_refl _) (by simp) ?_; (case hd => rfl); (case hg => rfl); (case hr => (go_simp; done)); (case hp => exact (Reps.one (show Kd.M (Kd.int .i64) _ _ _ 4 [.int .i64 4] from rfl) (Reps.none _ _))); intro v139 w21 ho22 hb hg_ hnew_; clear hg_ hnew_; ((rw [← Ny138.out] at ho22)); have n0_ := Aside0.mk (Kd.R_lower ho22 (below_size (by repeat ((with_reducible (exact HB.out)))))); have n1_ := Aside0.mk (below_step (by repeat ((with_reducible (exact HB.out)))) hb); clear HB; have HO140 := n0_; have HB := n1_; clear n0_ n1_; clear hb ho22))
        go_ret
        exact ⟨_, by (rfl), by (with_reducible repeat ((apply Kd.R_drew))); exact HO140.out, by repeat ((with_reducible (exact HB.out)))⟩
       ·rw [if_neg c20] at H
        have c20b0 : (a0 == 7) = false := beq_eq_false_iff_ne.mpr c20
        have c20b1 : (a0 != 7) = true := bne_iff_ne.mpr c20
        obtain rfl := Option.some.inj H
        go_enter Try.func37, Try.ntmps37
        go_wp2
        go_ret
        exact ⟨_, by (rfl), by (exact Kd.R_nil _ _ _ _ _), by repeat ((with_reducible (exact HB.out)))⟩
end Go.Proofs.Ytjbnffadfohofaa.P
end
-- MERGED YtjbnffadfohofaaPmessageless
section
namespace Go.Proofs.Ytjbnffadfohofaa.P
open Go.RowKit Go.Proofs.YtjbnffadfohofaaW.PrintWords Go.Proofs.YtjbnffadfohofaaW.PrintLast Go.Proofs.YtjbnffadfohofaaW.PrintMore
attribute [local go_sem] max2_int min2_int max_two min_two max_three min_three max_four min_four   -- for this text's walks alone
set_option linter.unusedVariables false
set_option linter.unusedSimpArgs false
def message_less.f (a0_0 : Int) (a0_1 : Int) (a0_2 : Int) (a1_0 : Int) (a1_1 : Int) (a1_2 : Int) : Option (Bool) := if a0_0 = a1_0 then (if a0_1 = a1_1 then (some (decide (a0_2 < a1_2))) else (some (decide (a0_1 < a1_1)))) else (some (decide (a0_0 < a1_0)))
set_option maxHeartbeats 8000000 in
set_option maxRecDepth 100000 in
theorem message_less.calls (a0_0 : Int) (a0_1 : Int) (a0_2 : Int) (a1_0 : Int) (a1_1 : Int) (a1_2 : Int) (r : Bool) (w : World) (h : message_less.f a0_0 a0_1 a0_2 a1_0 a1_1 a1_2 = some r) :
  Calls Try.prog 55 #[.agg #[.int .i64 a0_0, .int .i64 a0_1, .int .i64 a0_2], .agg #[.int .i64 a1_0, .int .i64 a1_1, .int .i64 a1_2]] w fun e w' => e = .returned (.bool r) ∧ Below w.heap.size w w' := by
 have hu44 := Try.underlying44
 have HB := Aside0.mk (Below.refl w.heap.size w)
 have H : (if a0_0 = a1_0 then (if a0_1 = a1_1 then (some (decide (a0_2 < a1_2))) else (some (decide (a0_1 < a1_1)))) else (some (decide (a0_0 < a1_0)))) = some r := h
 clear h
 by_cases c3 : a0_0 = a1_0
 ·rw [if_pos c3] at H
  have c3b0 : (a0_0 == a1_0) = true := beq_iff_eq.mpr c3
  have c3b1 : (a0_0 != a1_0) = false := bne_eq_false_iff_eq.mpr c3
  clear c3
  by_cases c4 : a0_1 = a1_1
  ·rw [if_pos c4] at H
   have c4b0 : (a0_1 == a1_1) = true := beq_iff_eq.mpr c4
   have c4b1 : (a0_1 != a1_1) = false := bne_eq_false_iff_eq.mpr c4
   clear c4
   obtain rfl := Option.some.inj H
   go_enter Try.func55, Try.ntmps55
   go_wp2_with (first | ((with_reducible refine gate_dst (N := 2) rfl ?_); refine box_event ?hg (N := 2) ?hd (cs := #[.int .i64 a0_0, .int .i64 a0_1, .int .i64 a0_2]) (t := 44) ?hr ?_; (case hd => rfl); (case hg => rfl); (case hr => (go_simp; done)); intro gb150 hg w5 hbox hb; have n0_ := Aside0.mk (below_step (by repeat ((with_reducible (exact HB.out)))) hb); have n1_ := Aside0.mk (hbox); have n2_ := Aside0.mk ((by rw [hg]; exact (below_size (by repeat ((with_reducible (exact HB.out))))) : w.heap.size ≤ gb150)); have n3_ := Aside0.mk ((by rw [hg]; exact (below_size (by repeat ((with_reducible (exact HB.out))))) : w.heap.size ≤ gb150)); clear HB; have HB := n0_; have BK150 := n1_; have GW150 := n2_; have GE150 := n3_; clear n0_ n1_ n2_ n3_; clear hb hbox hg) | ((with_reducible refine gate_dst (N := 3) rfl ?_); refine box_event ?hg (N := 3) ?hd (cs := #[.int .i64 a1_0, .int .i64 a1_1, .int .i64 a1_2]) (t := 44) ?hr ?_; (case hd => rfl); (case hg => rfl); (case hr => (go_simp; done)); intro gb151 hg w6 hbox hb; have n0_ := Aside0.mk (blk_below (g := gb150) (o := .cells #[.int .i64 a0_0, .int .i64 a0_1, .int .i64 a0_2] 44 (0, 0)) (by (with_reducible repeat ((refine blk_drew ?_))); exact BK150.out) hb); have n1_ := Aside0.mk (below_step (by repeat ((with_reducible (exact HB.out)))) hb); have n2_ := Aside0.mk (hbox); have n3_ := Aside0.mk ((by rw [hg]; exact (below_size (by repeat ((with_reducible (exact HB.out))))) : w.heap.size ≤ gb151)); have n4_ := Aside0.mk ((by rw [hg]; exact (below_size (by repeat ((with_reducible (exact HB.out))))) : w.heap.size ≤ gb151)); have n5_ := Aside0.mk ((by rw [hg]; exact Nat.ne_of_lt (blk_lt (g := gb150) (o := .cells #[.int .i64 a0_0, .int .i64 a0_1, .int .i64 a0_2] 44 (0, 0)) (by (with_reducible repeat ((refine blk_drew ?_))); exact BK150.out)) : gb150 ≠ gb151)); have n6_ := Aside0.mk ((by rw [hg]; exact Nat.ne_of_gt (blk_lt (g := gb150) (o := .cells #[.int .i64 a0_0, .int .i64 a0_1, .int .i64 a0_2] 44 (0, 0)) (by (with_reducible repeat ((refine blk_drew ?_))); exact BK150.out)) : gb151 ≠ gb150)); clear BK150; clear HB; have BK150 := n0_; have HB := n1_; have BK151 := n2_; have GW151 := n3_; have GE151 := n4_; have NB150_151 := n5_; have NB151_150 := n6_; clear n0_ n1_ n2_ n3_ n4_ n5_ n6_; clear hb hbox hg; have hnb7 := NB150_151.out; have hnc7 := NB151_150.out; have hcz8_0 : w6.cell? ⟨gb150, 0, none⟩ = some (.int .i64 a0_0) := (blk_cell BK150.out 0).trans rfl; have hcz8_1 : w6.cell? ⟨gb150, 1, none⟩ = some (.int .i64 a0_1) := (blk_cell BK150.out 1).trans rfl; have hcz8_2 : w6.cell? ⟨gb150, 2, none⟩ = some (.int .i64 a0_2) := (blk_cell BK150.out 2).trans rfl; have hfz8_0 := blk_frozen BK150.out 0; have hfz8_1 := blk_frozen BK150.out 1; have hfz8_2 := blk_frozen BK150.out 2; have hcz9_0 : w6.cell? ⟨gb151, 0, none⟩ = some (.int .i64 a1_0) := (blk_cell BK151.out 0).trans rfl; have hcz9_1 : w6.cell? ⟨gb151, 1, none⟩ = some (.int .i64 a1_1) := (blk_cell BK151.out 1).trans rfl; have hcz9_2 : w6.cell? ⟨gb151, 2, none⟩ = some (.int .i64 a1_2) := (blk_cell BK151.out 2).trans rfl; have hfz9_0 := blk_frozen BK151.out 0; have hfz9_1 := blk_frozen BK151.out 1; have hfz9_2 := blk_frozen BK151.out 2))
   go_ret
   exact ⟨by (rfl), by repeat ((with_reducible (exact HB.out)))⟩
  ·rw [if_neg c4] at H
   have c4b0 : (a0_1 == a1_1) = false := beq_eq_false_iff_ne.mpr c4
   have c4b1 : (a0_1 != a1_1) = true := bne_iff_ne.mpr c4
   obtain rfl := Option.some.inj H
   go_enter Try.func55, Try.ntmps55
   go_wp2_with (first | ((with_reducible refine gate_dst (N := 2) rfl ?_); refine box_event ?hg (N := 2) ?hd (cs := #[.int .i64 a0_0, .int .i64 a0_1, .int .i64 a0_2]) (t := 44) ?hr ?_; (case hd => rfl); (case hg => rfl); (case hr => (go_simp; done)); intro gb150 hg w10 hbox hb; have n0_ := Aside0.mk (below_step (by repeat ((with_reducible (exact HB.out)))) hb); have n1_ := Aside0.mk (hbox); have n2_ := Aside0.mk ((by rw [hg]; exact (below_size (by repeat ((with_reducible (exact HB.out))))) : w.heap.size ≤ gb150)); have n3_ := Aside0.mk ((by rw [hg]; exact (below_size (by repeat ((with_reducible (exact HB.out))))) : w.heap.size ≤ gb150)); clear HB; have HB := n0_; have BK150 := n1_; have GW150 := n2_; have GE150 := n3_; clear n0_ n1_ n2_ n3_; clear hb hbox hg) | ((with_reducible refine gate_dst (N := 3) rfl ?_); refine box_event ?hg (N := 3) ?hd (cs := #[.int .i64 a1_0, .int .i64 a1_1, .int .i64 a1_2]) (t := 44) ?hr ?_; (case hd => rfl); (case hg => rfl); (case hr => (go_simp; done)); intro gb151 hg w11 hbox hb; have n0_ := Aside0.mk (blk_below (g := gb150) (o := .cells #[.int .i64 a0_0, .int .i64 a0_1, .int .i64 a0_2] 44 (0, 0)) (by (with_reducible repeat ((refine blk_drew ?_))); exact BK150.out) hb); have n1_ := Aside0.mk (below_step (by repeat ((with_reducible (exact HB.out)))) hb); have n2_ := Aside0.mk (hbox); have n3_ := Aside0.mk ((by rw [hg]; exact (below_size (by repeat ((with_reducible (exact HB.out))))) : w.heap.size ≤ gb151)); have n4_ := Aside0.mk ((by rw [hg]; exact (below_size (by repeat ((with_reducible (exact HB.out))))) : w.heap.size ≤ gb151)); have n5_ := Aside0.mk ((by rw [hg]; exact Nat.ne_of_lt (blk_lt (g := gb150) (o := .cells #[.int .i64 a0_0, .int .i64 a0_1, .int .i64 a0_2] 44 (0, 0)) (by (with_reducible repeat ((refine blk_drew ?_))); exact BK150.out)) : gb150 ≠ gb151)); have n6_ := Aside0.mk ((by rw [hg]; exact Nat.ne_of_gt (blk_lt (g := gb150) (o := .cells #[.int .i64 a0_0, .int .i64 a0_1, .int .i64 a0_2] 44 (0, 0)) (by (with_reducible repeat ((refine blk_drew ?_))); exact BK150.out)) : gb151 ≠ gb150)); clear BK150; clear HB; have BK150 := n0_; have HB := n1_; have BK151 := n2_; have GW151 := n3_; have GE151 := n4_; have NB150_151 := n5_; have NB151_150 := n6_; clear n0_ n1_ n2_ n3_ n4_ n5_ n6_; clear hb hbox hg; have hnb12 := NB150_151.out; have hnc12 := NB151_150.out; have hcz13_0 : w11.cell? ⟨gb150, 0, none⟩ = some (.int .i64 a0_0) := (blk_cell BK150.out 0).trans rfl; have hcz13_1 : w11.cell? ⟨gb150, 1, none⟩ = some (.int .i64 a0_1) := (blk_cell BK150.out 1).trans rfl; have hcz13_2 : w11.cell? ⟨gb150, 2, none⟩ = some (.int .i64 a0_2) := (blk_cell BK150.out 2).trans rfl; have hfz13_0 := blk_frozen BK150.out 0; have hfz13_1 := blk_frozen BK150.out 1; have hfz13_2 := blk_frozen BK150.out 2; have hcz14_0 : w11.cell? ⟨gb151, 0, none⟩ = some (.int .i64 a1_0) := (blk_cell BK151.out 0).trans rfl; have hcz14_1 : w11.cell? ⟨gb151, 1, none⟩ = some (.int .i64 a1_1) := (blk_cell BK151.out 1).trans rfl; have hcz14_2 : w11.cell? ⟨gb151, 2, none⟩ = some (.int .i64 a1_2) := (blk_cell BK151.out 2).trans rfl; have hfz14_0 := blk_frozen BK151.out 0; have hfz14_1 := blk_frozen BK151.out 1; have hfz14_2 := blk_frozen BK151.out 2))
   go_ret
   exact ⟨by (rfl), by repeat ((with_reducible (exact HB.out)))⟩
 ·rw [if_neg c3] at H
  have c3b0 : (a0_0 == a1_0) = false := beq_eq_false_iff_ne.mpr c3
  have c3b1 : (a0_0 != a1_0) = true := bne_iff_ne.mpr c3
  obtain rfl := Option.some.inj H
  go_enter Try.func55, Try.ntmps55
  go_wp2_with (first | ((with_reducible refine gate_dst (N := 2) rfl ?_); refine box_event ?hg (N := 2) ?hd (cs := #[.int .i64 a0_0, .int .i64 a0_1, .int .i64 a0_2]) (t := 44) ?hr ?_; (case hd => rfl); (case hg => rfl); (case hr => (go_simp; done)); intro gb150 hg w15 hbox hb; have n0_ := Aside0.mk (below_step (by repeat ((with_reducible (exact HB.out)))) hb); have n1_ := Aside0.mk (hbox); have n2_ := Aside0.mk ((by rw [hg]; exact (below_size (by repeat ((with_reducible (exact HB.out))))) : w.heap.size ≤ gb150)); have n3_ := Aside0.mk ((by rw [hg]; exact (below_size (by repeat ((with_reducible (exact HB.out))))) : w.heap.size ≤ gb150)); clear HB; have HB := n0_; have BK150 := n1_; have GW150 := n2_; have GE150 := n3_; clear n0_ n1_ n2_ n3_; clear hb hbox hg) | ((with_reducible refine gate_dst (N := 3) rfl ?_); refine box_event ?hg (N := 3) ?hd (cs := #[.int .i64 a1_0, .int .i64 a1_1, .int .i64 a1_2]) (t := 44) ?hr ?_; (case hd => rfl); (case hg => rfl); (case hr => (go_simp; done)); intro gb151 hg w16 hbox hb; have n0_ := Aside0.mk (blk_below (g := gb150) (o := .cells #[.int .i64 a0_0, .int .i64 a0_1, .int .i64 a0_2] 44 (0, 0)) (by (with_reducible repeat ((refine blk_drew ?_))); exact BK150.out) hb); have n1_ := Aside0.mk (below_step (by repeat ((with_reducible (exact HB.out)))) hb); have n2_ := Aside0.mk (hbox); have n3_ := Aside0.mk ((by rw [hg]; exact (below_size (by repeat ((with_reducible (exact HB.out))))) : w.heap.size ≤ gb151)); have n4_ := Aside0.mk ((by rw [hg]; exact (below_size (by repeat ((with_reducible (exact HB.out))))) : w.heap.size ≤ gb151)); have n5_ := Aside0.mk ((by rw [hg]; exact Nat.ne_of_lt (blk_lt (g := gb150) (o := .cells #[.int .i64 a0_0, .int .i64 a0_1, .int .i64 a0_2] 44 (0, 0)) (by (with_reducible repeat ((refine blk_drew ?_))); exact BK150.out)) : gb150 ≠ gb151)); have n6_ := Aside0.mk ((by rw [hg]; exact Nat.ne_of_gt (blk_lt (g := gb150) (o := .cells #[.int .i64 a0_0, .int .i64 a0_1, .int .i64 a0_2] 44 (0, 0)) (by (with_reducible repeat ((refine blk_drew ?_))); exact BK150.out)) : gb151 ≠ gb150)); clear BK150; clear HB; have BK150 := n0_; have HB := n1_; have BK151 := n2_; have GW151 := n3_; have GE151 := n4_; have NB150_151 := n5_; have NB151_150 := n6_; clear n0_ n1_ n2_ n3_ n4_ n5_ n6_; clear hb hbox hg; have hnb17 := NB150_151.out; have hnc17 := NB151_150.out; have hcz18_0 : w16.cell? ⟨gb150, 0, none⟩ = some (.int .i64 a0_0) := (blk_cell BK150.out 0).trans rfl; have hcz18_1 : w16.cell? ⟨gb150, 1, none⟩ = some (.int .i64 a0_1) := (blk_cell BK150.out 1).trans rfl; have hcz18_2 : w16.cell? ⟨gb150, 2, none⟩ = some (.int .i64 a0_2) := (blk_cell BK150.out 2).trans rfl; have hfz18_0 := blk_frozen BK150.out 0; have hfz18_1 := blk_frozen BK150.out 1; have hfz18_2 := blk_frozen BK150.out 2; have hcz19_0 : w16.cell? ⟨gb151, 0, none⟩ = some (.int .i64 a1_0) := (blk_cell BK151.out 0).trans rfl; have hcz19_1 : w16.cell? ⟨gb151, 1, none⟩ = some (.int .i64 a1_1) := (blk_cell BK151.out 1).trans rfl; have hcz19_2 : w16.cell? ⟨gb151, 2, none⟩ = some (.int .i64 a1_2) := (blk_cell BK151.out 2).trans rfl; have hfz19_0 := blk_frozen BK151.out 0; have hfz19_1 := blk_frozen BK151.out 1; have hfz19_2 := blk_frozen BK151.out 2))
  go_ret
  exact ⟨by (rfl), by repeat ((with_reducible (exact HB.out)))⟩
end Go.Proofs.Ytjbnffadfohofaa.P
end
-- MERGED YtjbnffadfohofaaPmessagefine
section
namespace Go.Proofs.Ytjbnffadfohofaa.P
open Go.RowKit Go.Proofs.YtjbnffadfohofaaW.PrintWords Go.Proofs.YtjbnffadfohofaaW.PrintLast Go.Proofs.YtjbnffadfohofaaW.PrintMore
attribute [local go_sem] max2_int min2_int max_two min_two max_three min_three max_four min_four   -- for this text's walks alone
set_option linter.unusedVariables false
set_option linter.unusedSimpArgs false
mutual
def message_fine.l0 : Nat → List (S44) → List (S44) → Int → Int → Option (Bool)
 | 0, _, _, _, _ => none
 | k + 1, x0, x5, x6, x7 => if x7 < x6 then (if 0 ≤ x7 then (if x7 < (x5.length : Int) then (if ((rd_T44 x5 x7).f0.f0) < 0 then (message_fine.j1 k x0 x7 x5 x6 x7 true ((rd_T44 x5 x7).f0.f0) ((rd_T44 x5 x7).f0.f1) ((rd_T44 x5 x7).f1)) else (if ((rd_T44 x5 x7).f0.f0) > ((rd_T44 x5 x7).f0.f1) then (message_fine.j1 k x0 x7 x5 x6 x7 true ((rd_T44 x5 x7).f0.f0) ((rd_T44 x5 x7).f0.f1) ((rd_T44 x5 x7).f1)) else (message_fine.j1 k x0 x7 x5 x6 x7 (decide (((rd_T44 x5 x7).f0.f1) > 16777216)) ((rd_T44 x5 x7).f0.f0) ((rd_T44 x5 x7).f0.f1) ((rd_T44 x5 x7).f1)))) else (none)) else (none)) else (some (decide ((x0.length : Int) ≤ 4096)))
def message_fine.j1 : Nat → List (S44) → Int → List (S44) → Int → Int → Bool → Int → Int → Int → Option (Bool)
 | 0, _, _, _, _, _, _, _, _, _ => none
 | k + 1, x0, x3, x5, x6, x7, x12, x154000, x154001, x154002 => if x12 = true then (some false) else (if x154002 < 0 then (some false) else (if x154002 > 65536 then (some false) else (if x3 > 0 then (if 0 ≤ (wrap64 (x3 - 1)) then (if (wrap64 (x3 - 1)) < (x0.length : Int) then ((message_less.f ((rd_T44 x0 (wrap64 (x3 - 1))).f0.f0) ((rd_T44 x0 (wrap64 (x3 - 1))).f0.f1) ((rd_T44 x0 (wrap64 (x3 - 1))).f1) x154000 x154001 x154002).bind fun t155 => (if t155 = true then (message_fine.l0 k x0 x5 x6 (wrap64 (x7 + 1))) else (some false))) else (none)) else (none)) else (message_fine.l0 k x0 x5 x6 (wrap64 (x7 + 1))))))
end
def message_fine.f (k : Nat) (l0 : List (S44)) : Option (Bool) := message_fine.l0 k l0 l0 (l0.length : Int) 0
end Go.Proofs.Ytjbnffadfohofaa.P
end
-- MERGED YtjbnffadfohofaaMsgA
section
namespace Go.Proofs.Ytjbnffadfohofaa.MsgA
open Go.RowKit Go.Proofs.Ytjbnffadfohofaa.P Go.Proofs.YtjbnffadfohofaaW.PrintWords Go.Proofs.YtjbnffadfohofaaW.PrintLast Go.Proofs.YtjbnffadfohofaaW.PrintMore Go.Proofs.Ytjbnffadfohofaa.Own
set_option linter.unusedSimpArgs false
set_option linter.unusedVariables false
structure Mg where
 k : Int
 c : Int
 e : Int
 r : Int
 s : Int
 d : Int
 o : Value
 t : ByteArray
 n : Value
def Mg.cs (m : Mg) : Array Value := #[.int .i64 m.k, .int .i64 m.c, .int .i64 m.e, .int .i64 m.r, .int .i64 m.s, .int .i64 m.d, m.o, .string m.t, m.n]
def Mg.val (m : Mg) : Value := .agg m.cs
def most (f : Nat) : Int := if f = 0 then 63 else if f = 4 then 65536 else 4611686018427387904
set_option maxHeartbeats 2000000 in
set_option maxRecDepth 100000 in
theorem num_c (B f : Nat) (hf : f < 5) (w : World) : Calls Try.prog 49 #[.pointer (some ⟨B, 0, none⟩), .int .i64 (f : Int)] w fun e w' => e = .returned (.tuple #[.pointer (some ⟨B, f + 1, none⟩), .int .i64 (most f)]) ∧ w' = w := by
 have h : f = 0 ∨ f = 1 ∨ f = 2 ∨ f = 3 ∨ f = 4 := by omega
 rcases h with rfl | rfl | rfl | rfl | rfl <;>
 ·go_enter Try.func49, Try.ntmps49
  go_wp2_with fail
  go_ret2
  exact ⟨rfl, rfl⟩
def Mg.strip (m : Mg) (f : Nat) : Mg :=
 if f = 0 then { m with c := 0 } else if f = 1 then { m with e := 0 } else if f = 2 then { m with r := 0 } else if f = 3 then { m with s := 0 } else if f = 4 then { m with d := 0 }
 else if f = 5 then { m with o := .slice none 0 0 } else if f = 6 then { m with t := ⟨#[]⟩ } else { m with n := .slice none 0 0 }
def Mg.get (m : Mg) (f : Nat) : Int := if f = 0 then m.c else if f = 1 then m.e else if f = 2 then m.r else if f = 3 then m.s else m.d
def Mg.ok (m : Mg) (go gn : Bool) (f : Nat) : Bool := if f < 5 then decide (0 ≤ m.get f) && decide (m.get f ≤ most f) else if f = 5 then go else if f = 6 then decide (m.t.size ≤ 16777216) else gn
def Blk (B : Nat) (m : Mg) (w : World) : Prop := w.heap[B]? = some (.cells m.cs 60 (0, 0))
theorem Blk.cells {B : Nat} {m : Mg} {w : World} (h : Blk B m w) : (w.cell? ⟨B, 0, none⟩ = some (.int .i64 m.k) ∧ w.cell? ⟨B, 1, none⟩ = some (.int .i64 m.c) ∧ w.cell? ⟨B, 2, none⟩ = some (.int .i64 m.e) ∧ w.cell? ⟨B, 3, none⟩ = some (.int .i64 m.r) ∧ w.cell? ⟨B, 4, none⟩ = some (.int .i64 m.s) ∧ w.cell? ⟨B, 5, none⟩ = some (.int .i64 m.d)) ∧ w.cell? ⟨B, 6, none⟩ = some m.o ∧ w.cell? ⟨B, 7, none⟩ = some (.string m.t) ∧ w.cell? ⟨B, 8, none⟩ = some m.n := by
 unfold Blk at h
 refine ⟨⟨?_, ?_, ?_, ?_, ?_, ?_⟩, ?_, ?_, ?_⟩ <;> (rw [cell_of_row w _ _ _ _ _ h]; rfl)
theorem Blk.fz {B : Nat} {m : Mg} {w : World} (h : Blk B m w) (o : Nat) : w.frozen? ⟨B, o, none⟩ = false := frozen_of_row w _ o _ _ h
theorem Blk.lt {B : Nat} {m : Mg} {w : World} (h : Blk B m w) : B < w.heap.size := (Array.getElem?_eq_some_iff.1 h).1
theorem Blk.below {B : Nat} {m : Mg} {w w' : World} (h : Blk B m w) (hb : Below w.heap.size w w') : Blk B m w' := (hb.block _ h.lt).trans h
theorem Blk.strip0 {B f : Nat} {m : Mg} {w : World} (h : Blk B m w) (hf : f < 5) : Blk B (m.strip f) (w.setCell ⟨B, f + 1, none⟩ (.int .i64 0)) := by
 have hq : f = 0 ∨ f = 1 ∨ f = 2 ∨ f = 3 ∨ f = 4 := by omega
 rcases hq with rfl | rfl | rfl | rfl | rfl <;> exact heap_setCell_same w B _ _ _ _ h
theorem Blk.strip5 {B : Nat} {m : Mg} {w : World} (h : Blk B m w) : Blk B (m.strip 5) (w.setCell ⟨B, 6, none⟩ (.slice none 0 0)) := heap_setCell_same w B _ _ _ _ h
theorem Blk.strip6 {B : Nat} {m : Mg} {w : World} (h : Blk B m w) : Blk B (m.strip 6) (w.setCell ⟨B, 7, none⟩ (.string ⟨#[]⟩)) := heap_setCell_same w B _ _ _ _ h
theorem Blk.strip7 {B : Nat} {m : Mg} {w : World} (h : Blk B m w) : Blk B (m.strip 7) (w.setCell ⟨B, 8, none⟩ (.slice none 0 0)) := heap_setCell_same w B _ _ _ _ h
theorem set9 {B : Nat} {w : World} {T : TypeId} {a0 a1 a2 a3 a4 a5 a6 a7 a8 : Value} (h : w.heap[B]? = some (.cells #[a0, a1, a2, a3, a4, a5, a6, a7, a8] T (0, 0))) (y0 y1 y2 y3 y4 y5 y6 y7 y8 : Value) : (((((((((w.setCell ⟨B, 0, none⟩ y0).setCell ⟨B, 1, none⟩ y1).setCell ⟨B, 2, none⟩ y2).setCell ⟨B, 3, none⟩ y3).setCell ⟨B, 4, none⟩ y4).setCell ⟨B, 5, none⟩ y5).setCell ⟨B, 6, none⟩ y6).setCell ⟨B, 7, none⟩ y7).setCell ⟨B, 8, none⟩ y8).heap[B]? = some (.cells #[y0, y1, y2, y3, y4, y5, y6, y7, y8] T (0, 0)) := by
 have h0 : (w.setCell ⟨B, 0, none⟩ y0).heap[B]? = some (.cells #[y0, a1, a2, a3, a4, a5, a6, a7, a8] T (0, 0)) := heap_setCell_same w B 0 _ _ y0 h
 have h1 : ((w.setCell ⟨B, 0, none⟩ y0).setCell ⟨B, 1, none⟩ y1).heap[B]? = some (.cells #[y0, y1, a2, a3, a4, a5, a6, a7, a8] T (0, 0)) := heap_setCell_same (w.setCell ⟨B, 0, none⟩ y0) B 1 _ _ y1 h0
 have h2 : (((w.setCell ⟨B, 0, none⟩ y0).setCell ⟨B, 1, none⟩ y1).setCell ⟨B, 2, none⟩ y2).heap[B]? = some (.cells #[y0, y1, y2, a3, a4, a5, a6, a7, a8] T (0, 0)) := heap_setCell_same ((w.setCell ⟨B, 0, none⟩ y0).setCell ⟨B, 1, none⟩ y1) B 2 _ _ y2 h1
 have h3 : ((((w.setCell ⟨B, 0, none⟩ y0).setCell ⟨B, 1, none⟩ y1).setCell ⟨B, 2, none⟩ y2).setCell ⟨B, 3, none⟩ y3).heap[B]? = some (.cells #[y0, y1, y2, y3, a4, a5, a6, a7, a8] T (0, 0)) := heap_setCell_same (((w.setCell ⟨B, 0, none⟩ y0).setCell ⟨B, 1, none⟩ y1).setCell ⟨B, 2, none⟩ y2) B 3 _ _ y3 h2
 have h4 : (((((w.setCell ⟨B, 0, none⟩ y0).setCell ⟨B, 1, none⟩ y1).setCell ⟨B, 2, none⟩ y2).setCell ⟨B, 3, none⟩ y3).setCell ⟨B, 4, none⟩ y4).heap[B]? = some (.cells #[y0, y1, y2, y3, y4, a5, a6, a7, a8] T (0, 0)) := heap_setCell_same ((((w.setCell ⟨B, 0, none⟩ y0).setCell ⟨B, 1, none⟩ y1).setCell ⟨B, 2, none⟩ y2).setCell ⟨B, 3, none⟩ y3) B 4 _ _ y4 h3
 have h5 : ((((((w.setCell ⟨B, 0, none⟩ y0).setCell ⟨B, 1, none⟩ y1).setCell ⟨B, 2, none⟩ y2).setCell ⟨B, 3, none⟩ y3).setCell ⟨B, 4, none⟩ y4).setCell ⟨B, 5, none⟩ y5).heap[B]? = some (.cells #[y0, y1, y2, y3, y4, y5, a6, a7, a8] T (0, 0)) := heap_setCell_same (((((w.setCell ⟨B, 0, none⟩ y0).setCell ⟨B, 1, none⟩ y1).setCell ⟨B, 2, none⟩ y2).setCell ⟨B, 3, none⟩ y3).setCell ⟨B, 4, none⟩ y4) B 5 _ _ y5 h4
 have h6 : (((((((w.setCell ⟨B, 0, none⟩ y0).setCell ⟨B, 1, none⟩ y1).setCell ⟨B, 2, none⟩ y2).setCell ⟨B, 3, none⟩ y3).setCell ⟨B, 4, none⟩ y4).setCell ⟨B, 5, none⟩ y5).setCell ⟨B, 6, none⟩ y6).heap[B]? = some (.cells #[y0, y1, y2, y3, y4, y5, y6, a7, a8] T (0, 0)) := heap_setCell_same ((((((w.setCell ⟨B, 0, none⟩ y0).setCell ⟨B, 1, none⟩ y1).setCell ⟨B, 2, none⟩ y2).setCell ⟨B, 3, none⟩ y3).setCell ⟨B, 4, none⟩ y4).setCell ⟨B, 5, none⟩ y5) B 6 _ _ y6 h5
 have h7 : ((((((((w.setCell ⟨B, 0, none⟩ y0).setCell ⟨B, 1, none⟩ y1).setCell ⟨B, 2, none⟩ y2).setCell ⟨B, 3, none⟩ y3).setCell ⟨B, 4, none⟩ y4).setCell ⟨B, 5, none⟩ y5).setCell ⟨B, 6, none⟩ y6).setCell ⟨B, 7, none⟩ y7).heap[B]? = some (.cells #[y0, y1, y2, y3, y4, y5, y6, y7, a8] T (0, 0)) := heap_setCell_same (((((((w.setCell ⟨B, 0, none⟩ y0).setCell ⟨B, 1, none⟩ y1).setCell ⟨B, 2, none⟩ y2).setCell ⟨B, 3, none⟩ y3).setCell ⟨B, 4, none⟩ y4).setCell ⟨B, 5, none⟩ y5).setCell ⟨B, 6, none⟩ y6) B 7 _ _ y7 h6
 have h8 : (((((((((w.setCell ⟨B, 0, none⟩ y0).setCell ⟨B, 1, none⟩ y1).setCell ⟨B, 2, none⟩ y2).setCell ⟨B, 3, none⟩ y3).setCell ⟨B, 4, none⟩ y4).setCell ⟨B, 5, none⟩ y5).setCell ⟨B, 6, none⟩ y6).setCell ⟨B, 7, none⟩ y7).setCell ⟨B, 8, none⟩ y8).heap[B]? = some (.cells #[y0, y1, y2, y3, y4, y5, y6, y7, y8] T (0, 0)) := heap_setCell_same ((((((((w.setCell ⟨B, 0, none⟩ y0).setCell ⟨B, 1, none⟩ y1).setCell ⟨B, 2, none⟩ y2).setCell ⟨B, 3, none⟩ y3).setCell ⟨B, 4, none⟩ y4).setCell ⟨B, 5, none⟩ y5).setCell ⟨B, 6, none⟩ y6).setCell ⟨B, 7, none⟩ y7) B 8 _ _ y8 h7
 exact h8
theorem Blk.set {B : Nat} {m' : Mg} {w : World} (h : Blk B m' w) (k c e r s d : Int) (o : Value) (t : ByteArray) (n : Value) : Blk B ⟨k, c, e, r, s, d, o, t, n⟩ (((((((((w.setCell ⟨B, 0, none⟩ (.int .i64 k)).setCell ⟨B, 1, none⟩ (.int .i64 c)).setCell ⟨B, 2, none⟩ (.int .i64 e)).setCell ⟨B, 3, none⟩ (.int .i64 r)).setCell ⟨B, 4, none⟩ (.int .i64 s)).setCell ⟨B, 5, none⟩ (.int .i64 d)).setCell ⟨B, 6, none⟩ o).setCell ⟨B, 7, none⟩ (.string t)).setCell ⟨B, 8, none⟩ n) := set9 h _ _ _ _ _ _ _ _ _
theorem below_set9 {B0 : Nat} {a w : World} (h : Below B0 a w) {B : Nat} (hq : B0 ≤ B) (y0 y1 y2 y3 y4 y5 y6 y7 y8 : Value) : Below B0 a (((((((((w.setCell ⟨B, 0, none⟩ y0).setCell ⟨B, 1, none⟩ y1).setCell ⟨B, 2, none⟩ y2).setCell ⟨B, 3, none⟩ y3).setCell ⟨B, 4, none⟩ y4).setCell ⟨B, 5, none⟩ y5).setCell ⟨B, 6, none⟩ y6).setCell ⟨B, 7, none⟩ y7).setCell ⟨B, 8, none⟩ y8) :=
 ((((((((h.setCell (p := ⟨B, 0, none⟩) hq y0).setCell (p := ⟨B, 1, none⟩) hq y1).setCell (p := ⟨B, 2, none⟩) hq y2).setCell (p := ⟨B, 3, none⟩) hq y3).setCell (p := ⟨B, 4, none⟩) hq y4).setCell (p := ⟨B, 5, none⟩) hq y5).setCell (p := ⟨B, 6, none⟩) hq y6).setCell (p := ⟨B, 7, none⟩) hq y7).setCell (p := ⟨B, 8, none⟩) hq y8
end Go.Proofs.Ytjbnffadfohofaa.MsgA
end
-- MERGED YtjbnffadfohofaaMsgB
section
namespace Go.Proofs.Ytjbnffadfohofaa.MsgB
open Go.RowKit Go.Proofs.Ytjbnffadfohofaa.P Go.Proofs.YtjbnffadfohofaaW.PrintWords Go.Proofs.YtjbnffadfohofaaW.PrintLast Go.Proofs.YtjbnffadfohofaaW.PrintMore Go.Proofs.Ytjbnffadfohofaa.Own Go.Proofs.Ytjbnffadfohofaa.MsgA
set_option linter.unusedSimpArgs false
set_option linter.unusedVariables false
set_option maxHeartbeats 8000000 in
set_option maxRecDepth 100000 in
theorem without_0 (m : Mg) (go gn : Bool) (w : World) (ho : ∃ A n c, m.o = .slice A n c) (hn : ∃ A n c, m.n = .slice A n c) : Calls Try.prog 38 #[m.val, .int .i64 0] w fun e w' => e = .returned (.tuple #[(m.strip 0).val, .bool (m.ok go gn 0)]) ∧ Below w.heap.size w w' := by
 obtain ⟨k, c, e, r, s, d, o, t, n⟩ := m
 obtain ⟨Ao, no, co, rfl⟩ := ho
 obtain ⟨An, nn, cn, rfl⟩ := hn
 obtain ⟨B, hB⟩ : ∃ B, B = w.heap.size := ⟨_, rfl⟩
 obtain ⟨w2, hw2⟩ : ∃ w2, w2 = (w.alloc (.cells #[.int .i64 k, .int .i64 c, .int .i64 e, .int .i64 r, .int .i64 s, .int .i64 d, (.slice Ao no co), .string t, (.slice An nn cn)] 60)).alloc (.cells #[.int .i64 0, .int .i64 0, .int .i64 0, .int .i64 0, .int .i64 0, .int .i64 0, .slice none 0 0, .string ⟨#[]⟩, .slice none 0 0] 60) := ⟨_, rfl⟩
 have HBB0 := Aside0.mk (show Blk B ⟨k, c, e, r, s, d, (.slice Ao no co), t, (.slice An nn cn)⟩ w2 by unfold Blk; rw [hw2, hB, Own.heap_old _ _ _ (by simp)]; exact Own.heap_new _ _)
 have HZZ0 := Aside0.mk (show Blk (B + 1) ⟨0, 0, 0, 0, 0, 0, .slice none 0 0, ⟨#[]⟩, .slice none 0 0⟩ w2 by unfold Blk; rw [hw2, hB]; have := Own.heap_new (w.alloc (.cells #[.int .i64 k, .int .i64 c, .int .i64 e, .int .i64 r, .int .i64 s, .int .i64 d, (.slice Ao no co), .string t, (.slice An nn cn)] 60)) (.cells #[.int .i64 0, .int .i64 0, .int .i64 0, .int .i64 0, .int .i64 0, .int .i64 0, .slice none 0 0, .string ⟨#[]⟩, .slice none 0 0] 60); rwa [World.size_alloc] at this)
 have HLO0 := Aside0.mk (show Below w.heap.size w w2 by rw [hw2]; exact below_alloc (below_alloc (Below.refl _ _) _) _)
 have HW2 := Aside0.mk hw2
 have HBE := Aside0.mk hB
 clear hw2 hB
 go_enter Try.func38, Try.ntmps38
 unfold Mg.val Mg.cs
 go_wp2_with fail
 rw [← HBE.out, ← HW2.out]
 refine (num_c B 0 (by decide) _).mono ?_
 rintro e1 w3 ⟨rfl, rfl⟩
 have HBB := HBB0
 have HZZ := HZZ0
 have HLO := HLO0
 obtain ⟨⟨x0, x1, x2, x3, x4, x5⟩, x6, x7, x8⟩ := HBB.out.cells
 have f0 := HBB.out.fz 1
 clear HBB0 HZZ0 HLO0 HW2
 unfold most
 by_cases h1 : 0 ≤ c
 ·obtain ⟨w9, hw9⟩ : ∃ w9, w9 = w3.setCell ⟨B, 1, none⟩ (.int .i64 0) := ⟨_, rfl⟩
  have HW3 := Aside0.mk hw9
  have b3 : Blk B ⟨k, 0, e, r, s, d, (.slice Ao no co), t, (.slice An nn cn)⟩ w9 := by rw [hw9]; exact HBB.out.strip0 (f := 0) (by decide)
  have z3 : Blk (B + 1) ⟨0, 0, 0, 0, 0, 0, .slice none 0 0, ⟨#[]⟩, .slice none 0 0⟩ w9 := by rw [hw9]; exact (heap_setCell_other w3 ⟨B, 1, none⟩ (B + 1) _ (by show B + 1 ≠ B; omega)).trans HZZ.out
  have HLO3 := Aside0.mk (show Below w.heap.size w w9 by rw [hw9]; exact HLO.out.setCell (p := ⟨B, 1, none⟩) (by have := HBE.out; show w.heap.size ≤ B; omega) _)
  have HZ3 := Aside0.mk z3
  clear hw9 x0 x2 x3 x4 x5 x6 x7 x8
  obtain ⟨⟨y0, y1, y2, y3, y4, y5⟩, y6, y7, y8⟩ := b3.cells
  obtain ⟨⟨z0, z1, z2, z3', z4, z5⟩, z6, z7, z8⟩ := z3.cells
  have g0 := z3.fz 0
  have g1 := z3.fz 1
  have g2 := z3.fz 2
  have g3 := z3.fz 3
  have g4 := z3.fz 4
  have g5 := z3.fz 5
  have g6 := z3.fz 6
  have g7 := z3.fz 7
  have g8 := z3.fz 8
  clear b3 z3
  go_wp2_with (first | rw [← HW3.out])
  refine bodyPost_ret (results_ct rfl _ _ (B + 1) 60 #[.int .i64 k, .int .i64 0, .int .i64 e, .int .i64 r, .int .i64 s, .int .i64 d, (.slice Ao no co), .string t, (.slice An nn cn)] (0, 0) _ rfl (HZ3.out.set k 0 e r s d (.slice Ao no co) t (.slice An nn cn)) Try.underlying60 rfl (by kernel_rfl)) rfl ?_
  exact ⟨by rw [show Mg.ok ⟨k, c, e, r, s, d, (.slice Ao no co), t, (.slice An nn cn)⟩ go gn 0 = decide (c ≤ 63) from by unfold Mg.ok Mg.get most; simp [h1]]; rfl, below_set9 HLO3.out (by have := HBE.out; omega) _ _ _ _ _ _ _ _ _⟩
 ·obtain ⟨w9, hw9⟩ : ∃ w9, w9 = w3.setCell ⟨B, 1, none⟩ (.int .i64 0) := ⟨_, rfl⟩
  have HW3 := Aside0.mk hw9
  have b3 : Blk B ⟨k, 0, e, r, s, d, (.slice Ao no co), t, (.slice An nn cn)⟩ w9 := by rw [hw9]; exact HBB.out.strip0 (f := 0) (by decide)
  have z3 : Blk (B + 1) ⟨0, 0, 0, 0, 0, 0, .slice none 0 0, ⟨#[]⟩, .slice none 0 0⟩ w9 := by rw [hw9]; exact (heap_setCell_other w3 ⟨B, 1, none⟩ (B + 1) _ (by show B + 1 ≠ B; omega)).trans HZZ.out
  have HLO3 := Aside0.mk (show Below w.heap.size w w9 by rw [hw9]; exact HLO.out.setCell (p := ⟨B, 1, none⟩) (by have := HBE.out; show w.heap.size ≤ B; omega) _)
  have HZ3 := Aside0.mk z3
  clear hw9 x0 x2 x3 x4 x5 x6 x7 x8
  obtain ⟨⟨y0, y1, y2, y3, y4, y5⟩, y6, y7, y8⟩ := b3.cells
  obtain ⟨⟨z0, z1, z2, z3', z4, z5⟩, z6, z7, z8⟩ := z3.cells
  have g0 := z3.fz 0
  have g1 := z3.fz 1
  have g2 := z3.fz 2
  have g3 := z3.fz 3
  have g4 := z3.fz 4
  have g5 := z3.fz 5
  have g6 := z3.fz 6
  have g7 := z3.fz 7
  have g8 := z3.fz 8
  clear b3 z3
  go_wp2_with (first | rw [← HW3.out])
  refine bodyPost_ret (results_ct rfl _ _ (B + 1) 60 #[.int .i64 k, .int .i64 0, .int .i64 e, .int .i64 r, .int .i64 s, .int .i64 d, (.slice Ao no co), .string t, (.slice An nn cn)] (0, 0) _ rfl (HZ3.out.set k 0 e r s d (.slice Ao no co) t (.slice An nn cn)) Try.underlying60 rfl (by kernel_rfl)) rfl ?_
  exact ⟨by rw [show Mg.ok ⟨k, c, e, r, s, d, (.slice Ao no co), t, (.slice An nn cn)⟩ go gn 0 = false from by unfold Mg.ok Mg.get most; simp; omega]; rfl, below_set9 HLO3.out (by have := HBE.out; omega) _ _ _ _ _ _ _ _ _⟩
set_option maxHeartbeats 8000000 in
set_option maxRecDepth 100000 in
theorem without_1 (m : Mg) (go gn : Bool) (w : World) (ho : ∃ A n c, m.o = .slice A n c) (hn : ∃ A n c, m.n = .slice A n c) : Calls Try.prog 38 #[m.val, .int .i64 1] w fun e w' => e = .returned (.tuple #[(m.strip 1).val, .bool (m.ok go gn 1)]) ∧ Below w.heap.size w w' := by
 obtain ⟨k, c, e, r, s, d, o, t, n⟩ := m
 obtain ⟨Ao, no, co, rfl⟩ := ho
 obtain ⟨An, nn, cn, rfl⟩ := hn
 obtain ⟨B, hB⟩ : ∃ B, B = w.heap.size := ⟨_, rfl⟩
 obtain ⟨w2, hw2⟩ : ∃ w2, w2 = (w.alloc (.cells #[.int .i64 k, .int .i64 c, .int .i64 e, .int .i64 r, .int .i64 s, .int .i64 d, (.slice Ao no co), .string t, (.slice An nn cn)] 60)).alloc (.cells #[.int .i64 0, .int .i64 0, .int .i64 0, .int .i64 0, .int .i64 0, .int .i64 0, .slice none 0 0, .string ⟨#[]⟩, .slice none 0 0] 60) := ⟨_, rfl⟩
 have HBB0 := Aside0.mk (show Blk B ⟨k, c, e, r, s, d, (.slice Ao no co), t, (.slice An nn cn)⟩ w2 by unfold Blk; rw [hw2, hB, Own.heap_old _ _ _ (by simp)]; exact Own.heap_new _ _)
 have HZZ0 := Aside0.mk (show Blk (B + 1) ⟨0, 0, 0, 0, 0, 0, .slice none 0 0, ⟨#[]⟩, .slice none 0 0⟩ w2 by unfold Blk; rw [hw2, hB]; have := Own.heap_new (w.alloc (.cells #[.int .i64 k, .int .i64 c, .int .i64 e, .int .i64 r, .int .i64 s, .int .i64 d, (.slice Ao no co), .string t, (.slice An nn cn)] 60)) (.cells #[.int .i64 0, .int .i64 0, .int .i64 0, .int .i64 0, .int .i64 0, .int .i64 0, .slice none 0 0, .string ⟨#[]⟩, .slice none 0 0] 60); rwa [World.size_alloc] at this)
 have HLO0 := Aside0.mk (show Below w.heap.size w w2 by rw [hw2]; exact below_alloc (below_alloc (Below.refl _ _) _) _)
 have HW2 := Aside0.mk hw2
 have HBE := Aside0.mk hB
 clear hw2 hB
 go_enter Try.func38, Try.ntmps38
 unfold Mg.val Mg.cs
 go_wp2_with fail
 rw [← HBE.out, ← HW2.out]
 refine (num_c B 1 (by decide) _).mono ?_
 rintro e1 w3 ⟨rfl, rfl⟩
 have HBB := HBB0
 have HZZ := HZZ0
 have HLO := HLO0
 obtain ⟨⟨x0, x1, x2, x3, x4, x5⟩, x6, x7, x8⟩ := HBB.out.cells
 have f0 := HBB.out.fz 2
 clear HBB0 HZZ0 HLO0 HW2
 unfold most
 by_cases h1 : 0 ≤ e
 ·obtain ⟨w9, hw9⟩ : ∃ w9, w9 = w3.setCell ⟨B, 2, none⟩ (.int .i64 0) := ⟨_, rfl⟩
  have HW3 := Aside0.mk hw9
  have b3 : Blk B ⟨k, c, 0, r, s, d, (.slice Ao no co), t, (.slice An nn cn)⟩ w9 := by rw [hw9]; exact HBB.out.strip0 (f := 1) (by decide)
  have z3 : Blk (B + 1) ⟨0, 0, 0, 0, 0, 0, .slice none 0 0, ⟨#[]⟩, .slice none 0 0⟩ w9 := by rw [hw9]; exact (heap_setCell_other w3 ⟨B, 2, none⟩ (B + 1) _ (by show B + 1 ≠ B; omega)).trans HZZ.out
  have HLO3 := Aside0.mk (show Below w.heap.size w w9 by rw [hw9]; exact HLO.out.setCell (p := ⟨B, 2, none⟩) (by have := HBE.out; show w.heap.size ≤ B; omega) _)
  have HZ3 := Aside0.mk z3
  clear hw9 x0 x1 x3 x4 x5 x6 x7 x8
  obtain ⟨⟨y0, y1, y2, y3, y4, y5⟩, y6, y7, y8⟩ := b3.cells
  obtain ⟨⟨z0, z1, z2, z3', z4, z5⟩, z6, z7, z8⟩ := z3.cells
  have g0 := z3.fz 0
  have g1 := z3.fz 1
  have g2 := z3.fz 2
  have g3 := z3.fz 3
  have g4 := z3.fz 4
  have g5 := z3.fz 5
  have g6 := z3.fz 6
  have g7 := z3.fz 7
  have g8 := z3.fz 8
  clear b3 z3
  go_wp2_with (first | rw [← HW3.out])
  refine bodyPost_ret (results_ct rfl _ _ (B + 1) 60 #[.int .i64 k, .int .i64 c, .int .i64 0, .int .i64 r, .int .i64 s, .int .i64 d, (.slice Ao no co), .string t, (.slice An nn cn)] (0, 0) _ rfl (HZ3.out.set k c 0 r s d (.slice Ao no co) t (.slice An nn cn)) Try.underlying60 rfl (by kernel_rfl)) rfl ?_
  exact ⟨by rw [show Mg.ok ⟨k, c, e, r, s, d, (.slice Ao no co), t, (.slice An nn cn)⟩ go gn 1 = decide (e ≤ 4611686018427387904) from by unfold Mg.ok Mg.get most; simp [h1]]; rfl, below_set9 HLO3.out (by have := HBE.out; omega) _ _ _ _ _ _ _ _ _⟩
 ·obtain ⟨w9, hw9⟩ : ∃ w9, w9 = w3.setCell ⟨B, 2, none⟩ (.int .i64 0) := ⟨_, rfl⟩
  have HW3 := Aside0.mk hw9
  have b3 : Blk B ⟨k, c, 0, r, s, d, (.slice Ao no co), t, (.slice An nn cn)⟩ w9 := by rw [hw9]; exact HBB.out.strip0 (f := 1) (by decide)
  have z3 : Blk (B + 1) ⟨0, 0, 0, 0, 0, 0, .slice none 0 0, ⟨#[]⟩, .slice none 0 0⟩ w9 := by rw [hw9]; exact (heap_setCell_other w3 ⟨B, 2, none⟩ (B + 1) _ (by show B + 1 ≠ B; omega)).trans HZZ.out
  have HLO3 := Aside0.mk (show Below w.heap.size w w9 by rw [hw9]; exact HLO.out.setCell (p := ⟨B, 2, none⟩) (by have := HBE.out; show w.heap.size ≤ B; omega) _)
  have HZ3 := Aside0.mk z3
  clear hw9 x0 x1 x3 x4 x5 x6 x7 x8
  obtain ⟨⟨y0, y1, y2, y3, y4, y5⟩, y6, y7, y8⟩ := b3.cells
  obtain ⟨⟨z0, z1, z2, z3', z4, z5⟩, z6, z7, z8⟩ := z3.cells
  have g0 := z3.fz 0
  have g1 := z3.fz 1
  have g2 := z3.fz 2
  have g3 := z3.fz 3
  have g4 := z3.fz 4
  have g5 := z3.fz 5
  have g6 := z3.fz 6
  have g7 := z3.fz 7
  have g8 := z3.fz 8
  clear b3 z3
  go_wp2_with (first | rw [← HW3.out])
  refine bodyPost_ret (results_ct rfl _ _ (B + 1) 60 #[.int .i64 k, .int .i64 c, .int .i64 0, .int .i64 r, .int .i64 s, .int .i64 d, (.slice Ao no co), .string t, (.slice An nn cn)] (0, 0) _ rfl (HZ3.out.set k c 0 r s d (.slice Ao no co) t (.slice An nn cn)) Try.underlying60 rfl (by kernel_rfl)) rfl ?_
  exact ⟨by rw [show Mg.ok ⟨k, c, e, r, s, d, (.slice Ao no co), t, (.slice An nn cn)⟩ go gn 1 = false from by unfold Mg.ok Mg.get most; simp; omega]; rfl, below_set9 HLO3.out (by have := HBE.out; omega) _ _ _ _ _ _ _ _ _⟩
set_option maxHeartbeats 8000000 in
set_option maxRecDepth 100000 in
theorem without_2 (m : Mg) (go gn : Bool) (w : World) (ho : ∃ A n c, m.o = .slice A n c) (hn : ∃ A n c, m.n = .slice A n c) : Calls Try.prog 38 #[m.val, .int .i64 2] w fun e w' => e = .returned (.tuple #[(m.strip 2).val, .bool (m.ok go gn 2)]) ∧ Below w.heap.size w w' := by
 obtain ⟨k, c, e, r, s, d, o, t, n⟩ := m
 obtain ⟨Ao, no, co, rfl⟩ := ho
 obtain ⟨An, nn, cn, rfl⟩ := hn
 obtain ⟨B, hB⟩ : ∃ B, B = w.heap.size := ⟨_, rfl⟩
 obtain ⟨w2, hw2⟩ : ∃ w2, w2 = (w.alloc (.cells #[.int .i64 k, .int .i64 c, .int .i64 e, .int .i64 r, .int .i64 s, .int .i64 d, (.slice Ao no co), .string t, (.slice An nn cn)] 60)).alloc (.cells #[.int .i64 0, .int .i64 0, .int .i64 0, .int .i64 0, .int .i64 0, .int .i64 0, .slice none 0 0, .string ⟨#[]⟩, .slice none 0 0] 60) := ⟨_, rfl⟩
 have HBB0 := Aside0.mk (show Blk B ⟨k, c, e, r, s, d, (.slice Ao no co), t, (.slice An nn cn)⟩ w2 by unfold Blk; rw [hw2, hB, Own.heap_old _ _ _ (by simp)]; exact Own.heap_new _ _)
 have HZZ0 := Aside0.mk (show Blk (B + 1) ⟨0, 0, 0, 0, 0, 0, .slice none 0 0, ⟨#[]⟩, .slice none 0 0⟩ w2 by unfold Blk; rw [hw2, hB]; have := Own.heap_new (w.alloc (.cells #[.int .i64 k, .int .i64 c, .int .i64 e, .int .i64 r, .int .i64 s, .int .i64 d, (.slice Ao no co), .string t, (.slice An nn cn)] 60)) (.cells #[.int .i64 0, .int .i64 0, .int .i64 0, .int .i64 0, .int .i64 0, .int .i64 0, .slice none 0 0, .string ⟨#[]⟩, .slice none 0 0] 60); rwa [World.size_alloc] at this)
 have HLO0 := Aside0.mk (show Below w.heap.size w w2 by rw [hw2]; exact below_alloc (below_alloc (Below.refl _ _) _) _)
 have HW2 := Aside0.mk hw2
 have HBE := Aside0.mk hB
 clear hw2 hB
 go_enter Try.func38, Try.ntmps38
 unfold Mg.val Mg.cs
 go_wp2_with fail
 rw [← HBE.out, ← HW2.out]
 refine (num_c B 2 (by decide) _).mono ?_
 rintro e1 w3 ⟨rfl, rfl⟩
 have HBB := HBB0
 have HZZ := HZZ0
 have HLO := HLO0
 obtain ⟨⟨x0, x1, x2, x3, x4, x5⟩, x6, x7, x8⟩ := HBB.out.cells
 have f0 := HBB.out.fz 3
 clear HBB0 HZZ0 HLO0 HW2
 unfold most
 by_cases h1 : 0 ≤ r
 ·obtain ⟨w9, hw9⟩ : ∃ w9, w9 = w3.setCell ⟨B, 3, none⟩ (.int .i64 0) := ⟨_, rfl⟩
  have HW3 := Aside0.mk hw9
  have b3 : Blk B ⟨k, c, e, 0, s, d, (.slice Ao no co), t, (.slice An nn cn)⟩ w9 := by rw [hw9]; exact HBB.out.strip0 (f := 2) (by decide)
  have z3 : Blk (B + 1) ⟨0, 0, 0, 0, 0, 0, .slice none 0 0, ⟨#[]⟩, .slice none 0 0⟩ w9 := by rw [hw9]; exact (heap_setCell_other w3 ⟨B, 3, none⟩ (B + 1) _ (by show B + 1 ≠ B; omega)).trans HZZ.out
  have HLO3 := Aside0.mk (show Below w.heap.size w w9 by rw [hw9]; exact HLO.out.setCell (p := ⟨B, 3, none⟩) (by have := HBE.out; show w.heap.size ≤ B; omega) _)
  have HZ3 := Aside0.mk z3
  clear hw9 x0 x1 x2 x4 x5 x6 x7 x8
  obtain ⟨⟨y0, y1, y2, y3, y4, y5⟩, y6, y7, y8⟩ := b3.cells
  obtain ⟨⟨z0, z1, z2, z3', z4, z5⟩, z6, z7, z8⟩ := z3.cells
  have g0 := z3.fz 0
  have g1 := z3.fz 1
  have g2 := z3.fz 2
  have g3 := z3.fz 3
  have g4 := z3.fz 4
  have g5 := z3.fz 5
  have g6 := z3.fz 6
  have g7 := z3.fz 7
  have g8 := z3.fz 8
  clear b3 z3
  go_wp2_with (first | rw [← HW3.out])
  refine bodyPost_ret (results_ct rfl _ _ (B + 1) 60 #[.int .i64 k, .int .i64 c, .int .i64 e, .int .i64 0, .int .i64 s, .int .i64 d, (.slice Ao no co), .string t, (.slice An nn cn)] (0, 0) _ rfl (HZ3.out.set k c e 0 s d (.slice Ao no co) t (.slice An nn cn)) Try.underlying60 rfl (by kernel_rfl)) rfl ?_
  exact ⟨by rw [show Mg.ok ⟨k, c, e, r, s, d, (.slice Ao no co), t, (.slice An nn cn)⟩ go gn 2 = decide (r ≤ 4611686018427387904) from by unfold Mg.ok Mg.get most; simp [h1]]; rfl, below_set9 HLO3.out (by have := HBE.out; omega) _ _ _ _ _ _ _ _ _⟩
 ·obtain ⟨w9, hw9⟩ : ∃ w9, w9 = w3.setCell ⟨B, 3, none⟩ (.int .i64 0) := ⟨_, rfl⟩
  have HW3 := Aside0.mk hw9
  have b3 : Blk B ⟨k, c, e, 0, s, d, (.slice Ao no co), t, (.slice An nn cn)⟩ w9 := by rw [hw9]; exact HBB.out.strip0 (f := 2) (by decide)
  have z3 : Blk (B + 1) ⟨0, 0, 0, 0, 0, 0, .slice none 0 0, ⟨#[]⟩, .slice none 0 0⟩ w9 := by rw [hw9]; exact (heap_setCell_other w3 ⟨B, 3, none⟩ (B + 1) _ (by show B + 1 ≠ B; omega)).trans HZZ.out
  have HLO3 := Aside0.mk (show Below w.heap.size w w9 by rw [hw9]; exact HLO.out.setCell (p := ⟨B, 3, none⟩) (by have := HBE.out; show w.heap.size ≤ B; omega) _)
  have HZ3 := Aside0.mk z3
  clear hw9 x0 x1 x2 x4 x5 x6 x7 x8
  obtain ⟨⟨y0, y1, y2, y3, y4, y5⟩, y6, y7, y8⟩ := b3.cells
  obtain ⟨⟨z0, z1, z2, z3', z4, z5⟩, z6, z7, z8⟩ := z3.cells
  have g0 := z3.fz 0
  have g1 := z3.fz 1
  have g2 := z3.fz 2
  have g3 := z3.fz 3
  have g4 := z3.fz 4
  have g5 := z3.fz 5
  have g6 := z3.fz 6
  have g7 := z3.fz 7
  have g8 := z3.fz 8
  clear b3 z3
  go_wp2_with (first | rw [← HW3.out])
  refine bodyPost_ret (results_ct rfl _ _ (B + 1) 60 #[.int .i64 k, .int .i64 c, .int .i64 e, .int .i64 0, .int .i64 s, .int .i64 d, (.slice Ao no co), .string t, (.slice An nn cn)] (0, 0) _ rfl (HZ3.out.set k c e 0 s d (.slice Ao no co) t (.slice An nn cn)) Try.underlying60 rfl (by kernel_rfl)) rfl ?_
  exact ⟨by rw [show Mg.ok ⟨k, c, e, r, s, d, (.slice Ao no co), t, (.slice An nn cn)⟩ go gn 2 = false from by unfold Mg.ok Mg.get most; simp; omega]; rfl, below_set9 HLO3.out (by have := HBE.out; omega) _ _ _ _ _ _ _ _ _⟩
set_option maxHeartbeats 8000000 in
set_option maxRecDepth 100000 in
theorem without_3 (m : Mg) (go gn : Bool) (w : World) (ho : ∃ A n c, m.o = .slice A n c) (hn : ∃ A n c, m.n = .slice A n c) : Calls Try.prog 38 #[m.val, .int .i64 3] w fun e w' => e = .returned (.tuple #[(m.strip 3).val, .bool (m.ok go gn 3)]) ∧ Below w.heap.size w w' := by
 obtain ⟨k, c, e, r, s, d, o, t, n⟩ := m
 obtain ⟨Ao, no, co, rfl⟩ := ho
 obtain ⟨An, nn, cn, rfl⟩ := hn
 obtain ⟨B, hB⟩ : ∃ B, B = w.heap.size := ⟨_, rfl⟩
 obtain ⟨w2, hw2⟩ : ∃ w2, w2 = (w.alloc (.cells #[.int .i64 k, .int .i64 c, .int .i64 e, .int .i64 r, .int .i64 s, .int .i64 d, (.slice Ao no co), .string t, (.slice An nn cn)] 60)).alloc (.cells #[.int .i64 0, .int .i64 0, .int .i64 0, .int .i64 0, .int .i64 0, .int .i64 0, .slice none 0 0, .string ⟨#[]⟩, .slice none 0 0] 60) := ⟨_, rfl⟩
 have HBB0 := Aside0.mk (show Blk B ⟨k, c, e, r, s, d, (.slice Ao no co), t, (.slice An nn cn)⟩ w2 by unfold Blk; rw [hw2, hB, Own.heap_old _ _ _ (by simp)]; exact Own.heap_new _ _)
 have HZZ0 := Aside0.mk (show Blk (B + 1) ⟨0, 0, 0, 0, 0, 0, .slice none 0 0, ⟨#[]⟩, .slice none 0 0⟩ w2 by unfold Blk; rw [hw2, hB]; have := Own.heap_new (w.alloc (.cells #[.int .i64 k, .int .i64 c, .int .i64 e, .int .i64 r, .int .i64 s, .int .i64 d, (.slice Ao no co), .string t, (.slice An nn cn)] 60)) (.cells #[.int .i64 0, .int .i64 0, .int .i64 0, .int .i64 0, .int .i64 0, .int .i64 0, .slice none 0 0, .string ⟨#[]⟩, .slice none 0 0] 60); rwa [World.size_alloc] at this)
 have HLO0 := Aside0.mk (show Below w.heap.size w w2 by rw [hw2]; exact below_alloc (below_alloc (Below.refl _ _) _) _)
 have HW2 := Aside0.mk hw2
 have HBE := Aside0.mk hB
 clear hw2 hB
 go_enter Try.func38, Try.ntmps38
 unfold Mg.val Mg.cs
 go_wp2_with fail
 rw [← HBE.out, ← HW2.out]
 refine (num_c B 3 (by decide) _).mono ?_
 rintro e1 w3 ⟨rfl, rfl⟩
 have HBB := HBB0
 have HZZ := HZZ0
 have HLO := HLO0
 obtain ⟨⟨x0, x1, x2, x3, x4, x5⟩, x6, x7, x8⟩ := HBB.out.cells
 have f0 := HBB.out.fz 4
 clear HBB0 HZZ0 HLO0 HW2
 unfold most
 by_cases h1 : 0 ≤ s
 ·obtain ⟨w9, hw9⟩ : ∃ w9, w9 = w3.setCell ⟨B, 4, none⟩ (.int .i64 0) := ⟨_, rfl⟩
  have HW3 := Aside0.mk hw9
  have b3 : Blk B ⟨k, c, e, r, 0, d, (.slice Ao no co), t, (.slice An nn cn)⟩ w9 := by rw [hw9]; exact HBB.out.strip0 (f := 3) (by decide)
  have z3 : Blk (B + 1) ⟨0, 0, 0, 0, 0, 0, .slice none 0 0, ⟨#[]⟩, .slice none 0 0⟩ w9 := by rw [hw9]; exact (heap_setCell_other w3 ⟨B, 4, none⟩ (B + 1) _ (by show B + 1 ≠ B; omega)).trans HZZ.out
  have HLO3 := Aside0.mk (show Below w.heap.size w w9 by rw [hw9]; exact HLO.out.setCell (p := ⟨B, 4, none⟩) (by have := HBE.out; show w.heap.size ≤ B; omega) _)
  have HZ3 := Aside0.mk z3
  clear hw9 x0 x1 x2 x3 x5 x6 x7 x8
  obtain ⟨⟨y0, y1, y2, y3, y4, y5⟩, y6, y7, y8⟩ := b3.cells
  obtain ⟨⟨z0, z1, z2, z3', z4, z5⟩, z6, z7, z8⟩ := z3.cells
  have g0 := z3.fz 0
  have g1 := z3.fz 1
  have g2 := z3.fz 2
  have g3 := z3.fz 3
  have g4 := z3.fz 4
  have g5 := z3.fz 5
  have g6 := z3.fz 6
  have g7 := z3.fz 7
  have g8 := z3.fz 8
  clear b3 z3
  go_wp2_with (first | rw [← HW3.out])
  refine bodyPost_ret (results_ct rfl _ _ (B + 1) 60 #[.int .i64 k, .int .i64 c, .int .i64 e, .int .i64 r, .int .i64 0, .int .i64 d, (.slice Ao no co), .string t, (.slice An nn cn)] (0, 0) _ rfl (HZ3.out.set k c e r 0 d (.slice Ao no co) t (.slice An nn cn)) Try.underlying60 rfl (by kernel_rfl)) rfl ?_
  exact ⟨by rw [show Mg.ok ⟨k, c, e, r, s, d, (.slice Ao no co), t, (.slice An nn cn)⟩ go gn 3 = decide (s ≤ 4611686018427387904) from by unfold Mg.ok Mg.get most; simp [h1]]; rfl, below_set9 HLO3.out (by have := HBE.out; omega) _ _ _ _ _ _ _ _ _⟩
 ·obtain ⟨w9, hw9⟩ : ∃ w9, w9 = w3.setCell ⟨B, 4, none⟩ (.int .i64 0) := ⟨_, rfl⟩
  have HW3 := Aside0.mk hw9
  have b3 : Blk B ⟨k, c, e, r, 0, d, (.slice Ao no co), t, (.slice An nn cn)⟩ w9 := by rw [hw9]; exact HBB.out.strip0 (f := 3) (by decide)
  have z3 : Blk (B + 1) ⟨0, 0, 0, 0, 0, 0, .slice none 0 0, ⟨#[]⟩, .slice none 0 0⟩ w9 := by rw [hw9]; exact (heap_setCell_other w3 ⟨B, 4, none⟩ (B + 1) _ (by show B + 1 ≠ B; omega)).trans HZZ.out
  have HLO3 := Aside0.mk (show Below w.heap.size w w9 by rw [hw9]; exact HLO.out.setCell (p := ⟨B, 4, none⟩) (by have := HBE.out; show w.heap.size ≤ B; omega) _)
  have HZ3 := Aside0.mk z3
  clear hw9 x0 x1 x2 x3 x5 x6 x7 x8
  obtain ⟨⟨y0, y1, y2, y3, y4, y5⟩, y6, y7, y8⟩ := b3.cells
  obtain ⟨⟨z0, z1, z2, z3', z4, z5⟩, z6, z7, z8⟩ := z3.cells
  have g0 := z3.fz 0
  have g1 := z3.fz 1
  have g2 := z3.fz 2
  have g3 := z3.fz 3
  have g4 := z3.fz 4
  have g5 := z3.fz 5
  have g6 := z3.fz 6
  have g7 := z3.fz 7
  have g8 := z3.fz 8
  clear b3 z3
  go_wp2_with (first | rw [← HW3.out])
  refine bodyPost_ret (results_ct rfl _ _ (B + 1) 60 #[.int .i64 k, .int .i64 c, .int .i64 e, .int .i64 r, .int .i64 0, .int .i64 d, (.slice Ao no co), .string t, (.slice An nn cn)] (0, 0) _ rfl (HZ3.out.set k c e r 0 d (.slice Ao no co) t (.slice An nn cn)) Try.underlying60 rfl (by kernel_rfl)) rfl ?_
  exact ⟨by rw [show Mg.ok ⟨k, c, e, r, s, d, (.slice Ao no co), t, (.slice An nn cn)⟩ go gn 3 = false from by unfold Mg.ok Mg.get most; simp; omega]; rfl, below_set9 HLO3.out (by have := HBE.out; omega) _ _ _ _ _ _ _ _ _⟩
set_option maxHeartbeats 8000000 in
set_option maxRecDepth 100000 in
theorem without_4 (m : Mg) (go gn : Bool) (w : World) (ho : ∃ A n c, m.o = .slice A n c) (hn : ∃ A n c, m.n = .slice A n c) : Calls Try.prog 38 #[m.val, .int .i64 4] w fun e w' => e = .returned (.tuple #[(m.strip 4).val, .bool (m.ok go gn 4)]) ∧ Below w.heap.size w w' := by
 obtain ⟨k, c, e, r, s, d, o, t, n⟩ := m
 obtain ⟨Ao, no, co, rfl⟩ := ho
 obtain ⟨An, nn, cn, rfl⟩ := hn
 obtain ⟨B, hB⟩ : ∃ B, B = w.heap.size := ⟨_, rfl⟩
 obtain ⟨w2, hw2⟩ : ∃ w2, w2 = (w.alloc (.cells #[.int .i64 k, .int .i64 c, .int .i64 e, .int .i64 r, .int .i64 s, .int .i64 d, (.slice Ao no co), .string t, (.slice An nn cn)] 60)).alloc (.cells #[.int .i64 0, .int .i64 0, .int .i64 0, .int .i64 0, .int .i64 0, .int .i64 0, .slice none 0 0, .string ⟨#[]⟩, .slice none 0 0] 60) := ⟨_, rfl⟩
 have HBB0 := Aside0.mk (show Blk B ⟨k, c, e, r, s, d, (.slice Ao no co), t, (.slice An nn cn)⟩ w2 by unfold Blk; rw [hw2, hB, Own.heap_old _ _ _ (by simp)]; exact Own.heap_new _ _)
 have HZZ0 := Aside0.mk (show Blk (B + 1) ⟨0, 0, 0, 0, 0, 0, .slice none 0 0, ⟨#[]⟩, .slice none 0 0⟩ w2 by unfold Blk; rw [hw2, hB]; have := Own.heap_new (w.alloc (.cells #[.int .i64 k, .int .i64 c, .int .i64 e, .int .i64 r, .int .i64 s, .int .i64 d, (.slice Ao no co), .string t, (.slice An nn cn)] 60)) (.cells #[.int .i64 0, .int .i64 0, .int .i64 0, .int .i64 0, .int .i64 0, .int .i64 0, .slice none 0 0, .string ⟨#[]⟩, .slice none 0 0] 60); rwa [World.size_alloc] at this)
 have HLO0 := Aside0.mk (show Below w.heap.size w w2 by rw [hw2]; exact below_alloc (below_alloc (Below.refl _ _) _) _)
 have HW2 := Aside0.mk hw2
 have HBE := Aside0.mk hB
 clear hw2 hB
 go_enter Try.func38, Try.ntmps38
 unfold Mg.val Mg.cs
 go_wp2_with fail
 rw [← HBE.out, ← HW2.out]
 refine (num_c B 4 (by decide) _).mono ?_
 rintro e1 w3 ⟨rfl, rfl⟩
 have HBB := HBB0
 have HZZ := HZZ0
 have HLO := HLO0
 obtain ⟨⟨x0, x1, x2, x3, x4, x5⟩, x6, x7, x8⟩ := HBB.out.cells
 have f0 := HBB.out.fz 5
 clear HBB0 HZZ0 HLO0 HW2
 unfold most
 by_cases h1 : 0 ≤ d
 ·obtain ⟨w9, hw9⟩ : ∃ w9, w9 = w3.setCell ⟨B, 5, none⟩ (.int .i64 0) := ⟨_, rfl⟩
  have HW3 := Aside0.mk hw9
  have b3 : Blk B ⟨k, c, e, r, s, 0, (.slice Ao no co), t, (.slice An nn cn)⟩ w9 := by rw [hw9]; exact HBB.out.strip0 (f := 4) (by decide)
  have z3 : Blk (B + 1) ⟨0, 0, 0, 0, 0, 0, .slice none 0 0, ⟨#[]⟩, .slice none 0 0⟩ w9 := by rw [hw9]; exact (heap_setCell_other w3 ⟨B, 5, none⟩ (B + 1) _ (by show B + 1 ≠ B; omega)).trans HZZ.out
  have HLO3 := Aside0.mk (show Below w.heap.size w w9 by rw [hw9]; exact HLO.out.setCell (p := ⟨B, 5, none⟩) (by have := HBE.out; show w.heap.size ≤ B; omega) _)
  have HZ3 := Aside0.mk z3
  clear hw9 x0 x1 x2 x3 x4 x6 x7 x8
  obtain ⟨⟨y0, y1, y2, y3, y4, y5⟩, y6, y7, y8⟩ := b3.cells
  obtain ⟨⟨z0, z1, z2, z3', z4, z5⟩, z6, z7, z8⟩ := z3.cells
  have g0 := z3.fz 0
  have g1 := z3.fz 1
  have g2 := z3.fz 2
  have g3 := z3.fz 3
  have g4 := z3.fz 4
  have g5 := z3.fz 5
  have g6 := z3.fz 6
  have g7 := z3.fz 7
  have g8 := z3.fz 8
  clear b3 z3
  go_wp2_with (first | rw [← HW3.out])
  refine bodyPost_ret (results_ct rfl _ _ (B + 1) 60 #[.int .i64 k, .int .i64 c, .int .i64 e, .int .i64 r, .int .i64 s, .int .i64 0, (.slice Ao no co), .string t, (.slice An nn cn)] (0, 0) _ rfl (HZ3.out.set k c e r s 0 (.slice Ao no co) t (.slice An nn cn)) Try.underlying60 rfl (by kernel_rfl)) rfl ?_
  exact ⟨by rw [show Mg.ok ⟨k, c, e, r, s, d, (.slice Ao no co), t, (.slice An nn cn)⟩ go gn 4 = decide (d ≤ 65536) from by unfold Mg.ok Mg.get most; simp [h1]]; rfl, below_set9 HLO3.out (by have := HBE.out; omega) _ _ _ _ _ _ _ _ _⟩
 ·obtain ⟨w9, hw9⟩ : ∃ w9, w9 = w3.setCell ⟨B, 5, none⟩ (.int .i64 0) := ⟨_, rfl⟩
  have HW3 := Aside0.mk hw9
  have b3 : Blk B ⟨k, c, e, r, s, 0, (.slice Ao no co), t, (.slice An nn cn)⟩ w9 := by rw [hw9]; exact HBB.out.strip0 (f := 4) (by decide)
  have z3 : Blk (B + 1) ⟨0, 0, 0, 0, 0, 0, .slice none 0 0, ⟨#[]⟩, .slice none 0 0⟩ w9 := by rw [hw9]; exact (heap_setCell_other w3 ⟨B, 5, none⟩ (B + 1) _ (by show B + 1 ≠ B; omega)).trans HZZ.out
  have HLO3 := Aside0.mk (show Below w.heap.size w w9 by rw [hw9]; exact HLO.out.setCell (p := ⟨B, 5, none⟩) (by have := HBE.out; show w.heap.size ≤ B; omega) _)
  have HZ3 := Aside0.mk z3
  clear hw9 x0 x1 x2 x3 x4 x6 x7 x8
  obtain ⟨⟨y0, y1, y2, y3, y4, y5⟩, y6, y7, y8⟩ := b3.cells
  obtain ⟨⟨z0, z1, z2, z3', z4, z5⟩, z6, z7, z8⟩ := z3.cells
  have g0 := z3.fz 0
  have g1 := z3.fz 1
  have g2 := z3.fz 2
  have g3 := z3.fz 3
  have g4 := z3.fz 4
  have g5 := z3.fz 5
  have g6 := z3.fz 6
  have g7 := z3.fz 7
  have g8 := z3.fz 8
  clear b3 z3
  go_wp2_with (first | rw [← HW3.out])
  refine bodyPost_ret (results_ct rfl _ _ (B + 1) 60 #[.int .i64 k, .int .i64 c, .int .i64 e, .int .i64 r, .int .i64 s, .int .i64 0, (.slice Ao no co), .string t, (.slice An nn cn)] (0, 0) _ rfl (HZ3.out.set k c e r s 0 (.slice Ao no co) t (.slice An nn cn)) Try.underlying60 rfl (by kernel_rfl)) rfl ?_
  exact ⟨by rw [show Mg.ok ⟨k, c, e, r, s, d, (.slice Ao no co), t, (.slice An nn cn)⟩ go gn 4 = false from by unfold Mg.ok Mg.get most; simp; omega]; rfl, below_set9 HLO3.out (by have := HBE.out; omega) _ _ _ _ _ _ _ _ _⟩
set_option maxHeartbeats 8000000 in
set_option maxRecDepth 100000 in
theorem without_5 (m : Mg) (go gn : Bool) (w : World) (ho : ∃ A n c, m.o = .slice A n c) (hn : ∃ A n c, m.n = .slice A n c) (HG : ∀ W, Below w.heap.size w W → Calls Try.prog 30 #[m.o] W fun e W' => e = .returned (.bool go) ∧ Below W.heap.size W W') : Calls Try.prog 38 #[m.val, .int .i64 5] w fun e w' => e = .returned (.tuple #[(m.strip 5).val, .bool (m.ok go gn 5)]) ∧ Below w.heap.size w w' := by
 obtain ⟨k, c, e, r, s, d, o, t, n⟩ := m
 obtain ⟨Ao, no, co, rfl⟩ := ho
 obtain ⟨An, nn, cn, rfl⟩ := hn
 obtain ⟨B, hB⟩ : ∃ B, B = w.heap.size := ⟨_, rfl⟩
 obtain ⟨w2, hw2⟩ : ∃ w2, w2 = (w.alloc (.cells #[.int .i64 k, .int .i64 c, .int .i64 e, .int .i64 r, .int .i64 s, .int .i64 d, (.slice Ao no co), .string t, (.slice An nn cn)] 60)).alloc (.cells #[.int .i64 0, .int .i64 0, .int .i64 0, .int .i64 0, .int .i64 0, .int .i64 0, .slice none 0 0, .string ⟨#[]⟩, .slice none 0 0] 60) := ⟨_, rfl⟩
 have HBB0 := Aside0.mk (show Blk B ⟨k, c, e, r, s, d, (.slice Ao no co), t, (.slice An nn cn)⟩ w2 by unfold Blk; rw [hw2, hB, Own.heap_old _ _ _ (by simp)]; exact Own.heap_new _ _)
 have HZZ0 := Aside0.mk (show Blk (B + 1) ⟨0, 0, 0, 0, 0, 0, .slice none 0 0, ⟨#[]⟩, .slice none 0 0⟩ w2 by unfold Blk; rw [hw2, hB]; have := Own.heap_new (w.alloc (.cells #[.int .i64 k, .int .i64 c, .int .i64 e, .int .i64 r, .int .i64 s, .int .i64 d, (.slice Ao no co), .string t, (.slice An nn cn)] 60)) (.cells #[.int .i64 0, .int .i64 0, .int .i64 0, .int .i64 0, .int .i64 0, .int .i64 0, .slice none 0 0, .string ⟨#[]⟩, .slice none 0 0] 60); rwa [World.size_alloc] at this)
 have HLO0 := Aside0.mk (show Below w.heap.size w w2 by rw [hw2]; exact below_alloc (below_alloc (Below.refl _ _) _) _)
 have HW2 := Aside0.mk hw2
 have HBE := Aside0.mk hB
 clear hw2 hB
 have HGA := Aside0.mk HG
 clear HG
 go_enter Try.func38, Try.ntmps38
 unfold Mg.val Mg.cs
 have HBB := HBB0
 have HZZ := HZZ0
 have HLO := HLO0
 obtain ⟨⟨x0, x1, x2, x3, x4, x5⟩, x6, x7, x8⟩ := HBB.out.cells
 have f0 := HBB.out.fz 6
 go_wp2_with (first | rw [← HBE.out, ← HW2.out])
 clear x0 x1 x2 x3 x4 x5 x6 x7 x8 f0 HBB HZZ HLO
 refine (HGA.out w2 HLO0.out).mono ?_
 rintro e1 w4 ⟨rfl, hb⟩
 have HBB := Aside0.mk (HBB0.out.below hb)
 have HZZ := Aside0.mk (HZZ0.out.below hb)
 have HLO := Aside0.mk (below_step HLO0.out hb)
 obtain ⟨⟨x0, x1, x2, x3, x4, x5⟩, x6, x7, x8⟩ := HBB.out.cells
 have f0 := HBB.out.fz 6
 clear HBB0 HZZ0 HLO0 HW2 hb HGA
 obtain ⟨w9, hw9⟩ : ∃ w9, w9 = w4.setCell ⟨B, 6, none⟩ (.slice none 0 0) := ⟨_, rfl⟩
 have HW3 := Aside0.mk hw9
 have b3 : Blk B ⟨k, c, e, r, s, d, (.slice none 0 0), t, (.slice An nn cn)⟩ w9 := by rw [hw9]; exact HBB.out.strip5
 have z3 : Blk (B + 1) ⟨0, 0, 0, 0, 0, 0, .slice none 0 0, ⟨#[]⟩, .slice none 0 0⟩ w9 := by rw [hw9]; exact (heap_setCell_other w4 ⟨B, 6, none⟩ (B + 1) _ (by show B + 1 ≠ B; omega)).trans HZZ.out
 have HLO3 := Aside0.mk (show Below w.heap.size w w9 by rw [hw9]; exact HLO.out.setCell (p := ⟨B, 6, none⟩) (by have := HBE.out; show w.heap.size ≤ B; omega) _)
 have HZ3 := Aside0.mk z3
 clear hw9 x0 x1 x2 x3 x4 x5 x7 x8
 obtain ⟨⟨y0, y1, y2, y3, y4, y5⟩, y6, y7, y8⟩ := b3.cells
 obtain ⟨⟨z0, z1, z2, z3', z4, z5⟩, z6, z7, z8⟩ := z3.cells
 have g0 := z3.fz 0
 have g1 := z3.fz 1
 have g2 := z3.fz 2
 have g3 := z3.fz 3
 have g4 := z3.fz 4
 have g5 := z3.fz 5
 have g6 := z3.fz 6
 have g7 := z3.fz 7
 have g8 := z3.fz 8
 clear b3 z3
 go_wp2_with (first | rw [← HW3.out])
 refine bodyPost_ret (results_ct rfl _ _ (B + 1) 60 #[.int .i64 k, .int .i64 c, .int .i64 e, .int .i64 r, .int .i64 s, .int .i64 d, (.slice none 0 0), .string t, (.slice An nn cn)] (0, 0) _ rfl (HZ3.out.set k c e r s d (.slice none 0 0) t (.slice An nn cn)) Try.underlying60 rfl (by kernel_rfl)) rfl ?_
 exact ⟨by rfl, below_set9 HLO3.out (by have := HBE.out; omega) _ _ _ _ _ _ _ _ _⟩
set_option maxHeartbeats 8000000 in
set_option maxRecDepth 100000 in
theorem without_6 (m : Mg) (go gn : Bool) (w : World) (ho : ∃ A n c, m.o = .slice A n c) (hn : ∃ A n c, m.n = .slice A n c) : Calls Try.prog 38 #[m.val, .int .i64 6] w fun e w' => e = .returned (.tuple #[(m.strip 6).val, .bool (m.ok go gn 6)]) ∧ Below w.heap.size w w' := by
 obtain ⟨k, c, e, r, s, d, o, t, n⟩ := m
 obtain ⟨Ao, no, co, rfl⟩ := ho
 obtain ⟨An, nn, cn, rfl⟩ := hn
 obtain ⟨B, hB⟩ : ∃ B, B = w.heap.size := ⟨_, rfl⟩
 obtain ⟨w2, hw2⟩ : ∃ w2, w2 = (w.alloc (.cells #[.int .i64 k, .int .i64 c, .int .i64 e, .int .i64 r, .int .i64 s, .int .i64 d, (.slice Ao no co), .string t, (.slice An nn cn)] 60)).alloc (.cells #[.int .i64 0, .int .i64 0, .int .i64 0, .int .i64 0, .int .i64 0, .int .i64 0, .slice none 0 0, .string ⟨#[]⟩, .slice none 0 0] 60) := ⟨_, rfl⟩
 have HBB0 := Aside0.mk (show Blk B ⟨k, c, e, r, s, d, (.slice Ao no co), t, (.slice An nn cn)⟩ w2 by unfold Blk; rw [hw2, hB, Own.heap_old _ _ _ (by simp)]; exact Own.heap_new _ _)
 have HZZ0 := Aside0.mk (show Blk (B + 1) ⟨0, 0, 0, 0, 0, 0, .slice none 0 0, ⟨#[]⟩, .slice none 0 0⟩ w2 by unfold Blk; rw [hw2, hB]; have := Own.heap_new (w.alloc (.cells #[.int .i64 k, .int .i64 c, .int .i64 e, .int .i64 r, .int .i64 s, .int .i64 d, (.slice Ao no co), .string t, (.slice An nn cn)] 60)) (.cells #[.int .i64 0, .int .i64 0, .int .i64 0, .int .i64 0, .int .i64 0, .int .i64 0, .slice none 0 0, .string ⟨#[]⟩, .slice none 0 0] 60); rwa [World.size_alloc] at this)
 have HLO0 := Aside0.mk (show Below w.heap.size w w2 by rw [hw2]; exact below_alloc (below_alloc (Below.refl _ _) _) _)
 have HW2 := Aside0.mk hw2
 have HBE := Aside0.mk hB
 clear hw2 hB
 go_enter Try.func38, Try.ntmps38
 unfold Mg.val Mg.cs
 have HBB := HBB0
 have HZZ := HZZ0
 have HLO := HLO0
 obtain ⟨⟨x0, x1, x2, x3, x4, x5⟩, x6, x7, x8⟩ := HBB.out.cells
 have f0 := HBB.out.fz 7
 clear HBB0 HZZ0 HLO0
 by_cases h1 : (t.size : Int) ≤ 16777216
 ·obtain ⟨w9, hw9⟩ : ∃ w9, w9 = w2.setCell ⟨B, 7, none⟩ (.string ⟨#[]⟩) := ⟨_, rfl⟩
  have HW3 := Aside0.mk hw9
  have b3 : Blk B ⟨k, c, e, r, s, d, (.slice Ao no co), ⟨#[]⟩, (.slice An nn cn)⟩ w9 := by rw [hw9]; exact HBB.out.strip6
  have z3 : Blk (B + 1) ⟨0, 0, 0, 0, 0, 0, .slice none 0 0, ⟨#[]⟩, .slice none 0 0⟩ w9 := by rw [hw9]; exact (heap_setCell_other w2 ⟨B, 7, none⟩ (B + 1) _ (by show B + 1 ≠ B; omega)).trans HZZ.out
  have HLO3 := Aside0.mk (show Below w.heap.size w w9 by rw [hw9]; exact HLO.out.setCell (p := ⟨B, 7, none⟩) (by have := HBE.out; show w.heap.size ≤ B; omega) _)
  have HZ3 := Aside0.mk z3
  clear hw9 x0 x1 x2 x3 x4 x5 x6 x8
  obtain ⟨⟨y0, y1, y2, y3, y4, y5⟩, y6, y7, y8⟩ := b3.cells
  obtain ⟨⟨z0, z1, z2, z3', z4, z5⟩, z6, z7, z8⟩ := z3.cells
  have g0 := z3.fz 0
  have g1 := z3.fz 1
  have g2 := z3.fz 2
  have g3 := z3.fz 3
  have g4 := z3.fz 4
  have g5 := z3.fz 5
  have g6 := z3.fz 6
  have g7 := z3.fz 7
  have g8 := z3.fz 8
  clear b3 z3
  go_wp2_with (first | rw [← HBE.out, ← HW2.out] | rw [← HW3.out])
  refine bodyPost_ret (results_ct rfl _ _ (B + 1) 60 #[.int .i64 k, .int .i64 c, .int .i64 e, .int .i64 r, .int .i64 s, .int .i64 d, (.slice Ao no co), .string ⟨#[]⟩, (.slice An nn cn)] (0, 0) _ rfl (HZ3.out.set k c e r s d (.slice Ao no co) ⟨#[]⟩ (.slice An nn cn)) Try.underlying60 rfl (by kernel_rfl)) rfl ?_
  exact ⟨by rw [show Mg.ok ⟨k, c, e, r, s, d, (.slice Ao no co), t, (.slice An nn cn)⟩ go gn 6 = true from by unfold Mg.ok; simp; omega]; rfl, below_set9 HLO3.out (by have := HBE.out; omega) _ _ _ _ _ _ _ _ _⟩
 ·obtain ⟨w9, hw9⟩ : ∃ w9, w9 = w2.setCell ⟨B, 7, none⟩ (.string ⟨#[]⟩) := ⟨_, rfl⟩
  have HW3 := Aside0.mk hw9
  have b3 : Blk B ⟨k, c, e, r, s, d, (.slice Ao no co), ⟨#[]⟩, (.slice An nn cn)⟩ w9 := by rw [hw9]; exact HBB.out.strip6
  have z3 : Blk (B + 1) ⟨0, 0, 0, 0, 0, 0, .slice none 0 0, ⟨#[]⟩, .slice none 0 0⟩ w9 := by rw [hw9]; exact (heap_setCell_other w2 ⟨B, 7, none⟩ (B + 1) _ (by show B + 1 ≠ B; omega)).trans HZZ.out
  have HLO3 := Aside0.mk (show Below w.heap.size w w9 by rw [hw9]; exact HLO.out.setCell (p := ⟨B, 7, none⟩) (by have := HBE.out; show w.heap.size ≤ B; omega) _)
  have HZ3 := Aside0.mk z3
  clear hw9 x0 x1 x2 x3 x4 x5 x6 x8
  obtain ⟨⟨y0, y1, y2, y3, y4, y5⟩, y6, y7, y8⟩ := b3.cells
  obtain ⟨⟨z0, z1, z2, z3', z4, z5⟩, z6, z7, z8⟩ := z3.cells
  have g0 := z3.fz 0
  have g1 := z3.fz 1
  have g2 := z3.fz 2
  have g3 := z3.fz 3
  have g4 := z3.fz 4
  have g5 := z3.fz 5
  have g6 := z3.fz 6
  have g7 := z3.fz 7
  have g8 := z3.fz 8
  clear b3 z3
  go_wp2_with (first | rw [← HBE.out, ← HW2.out] | rw [← HW3.out])
  refine bodyPost_ret (results_ct rfl _ _ (B + 1) 60 #[.int .i64 k, .int .i64 c, .int .i64 e, .int .i64 r, .int .i64 s, .int .i64 d, (.slice Ao no co), .string ⟨#[]⟩, (.slice An nn cn)] (0, 0) _ rfl (HZ3.out.set k c e r s d (.slice Ao no co) ⟨#[]⟩ (.slice An nn cn)) Try.underlying60 rfl (by kernel_rfl)) rfl ?_
  exact ⟨by rw [show Mg.ok ⟨k, c, e, r, s, d, (.slice Ao no co), t, (.slice An nn cn)⟩ go gn 6 = false from by unfold Mg.ok; simp; omega]; rfl, below_set9 HLO3.out (by have := HBE.out; omega) _ _ _ _ _ _ _ _ _⟩
set_option maxHeartbeats 8000000 in
set_option maxRecDepth 100000 in
theorem without_7 (m : Mg) (go gn : Bool) (w : World) (ho : ∃ A n c, m.o = .slice A n c) (hn : ∃ A n c, m.n = .slice A n c) (HG : ∀ W, Below w.heap.size w W → Calls Try.prog 48 #[m.n] W fun e W' => e = .returned (.bool gn) ∧ Below W.heap.size W W') : Calls Try.prog 38 #[m.val, .int .i64 7] w fun e w' => e = .returned (.tuple #[(m.strip 7).val, .bool (m.ok go gn 7)]) ∧ Below w.heap.size w w' := by
 obtain ⟨k, c, e, r, s, d, o, t, n⟩ := m
 obtain ⟨Ao, no, co, rfl⟩ := ho
 obtain ⟨An, nn, cn, rfl⟩ := hn
 obtain ⟨B, hB⟩ : ∃ B, B = w.heap.size := ⟨_, rfl⟩
 obtain ⟨w2, hw2⟩ : ∃ w2, w2 = (w.alloc (.cells #[.int .i64 k, .int .i64 c, .int .i64 e, .int .i64 r, .int .i64 s, .int .i64 d, (.slice Ao no co), .string t, (.slice An nn cn)] 60)).alloc (.cells #[.int .i64 0, .int .i64 0, .int .i64 0, .int .i64 0, .int .i64 0, .int .i64 0, .slice none 0 0, .string ⟨#[]⟩, .slice none 0 0] 60) := ⟨_, rfl⟩
 have HBB0 := Aside0.mk (show Blk B ⟨k, c, e, r, s, d, (.slice Ao no co), t, (.slice An nn cn)⟩ w2 by unfold Blk; rw [hw2, hB, Own.heap_old _ _ _ (by simp)]; exact Own.heap_new _ _)
 have HZZ0 := Aside0.mk (show Blk (B + 1) ⟨0, 0, 0, 0, 0, 0, .slice none 0 0, ⟨#[]⟩, .slice none 0 0⟩ w2 by unfold Blk; rw [hw2, hB]; have := Own.heap_new (w.alloc (.cells #[.int .i64 k, .int .i64 c, .int .i64 e, .int .i64 r, .int .i64 s, .int .i64 d, (.slice Ao no co), .string t, (.slice An nn cn)] 60)) (.cells #[.int .i64 0, .int .i64 0, .int .i64 0, .int .i64 0, .int .i64 0, .int .i64 0, .slice none 0 0, .string ⟨#[]⟩, .slice none 0 0] 60); rwa [World.size_alloc] at this)
 have HLO0 := Aside0.mk (show Below w.heap.size w w2 by rw [hw2]; exact below_alloc (below_alloc (Below.refl _ _) _) _)
 have HW2 := Aside0.mk hw2
 have HBE := Aside0.mk hB
 clear hw2 hB
 have HGA := Aside0.mk HG
 clear HG
 go_enter Try.func38, Try.ntmps38
 unfold Mg.val Mg.cs
 have HBB := HBB0
 have HZZ := HZZ0
 have HLO := HLO0
 obtain ⟨⟨x0, x1, x2, x3, x4, x5⟩, x6, x7, x8⟩ := HBB.out.cells
 have f0 := HBB.out.fz 8
 go_wp2_with (first | rw [← HBE.out, ← HW2.out])
 clear x0 x1 x2 x3 x4 x5 x6 x7 x8 f0 HBB HZZ HLO
 refine (HGA.out w2 HLO0.out).mono ?_
 rintro e1 w4 ⟨rfl, hb⟩
 have HBB := Aside0.mk (HBB0.out.below hb)
 have HZZ := Aside0.mk (HZZ0.out.below hb)
 have HLO := Aside0.mk (below_step HLO0.out hb)
 obtain ⟨⟨x0, x1, x2, x3, x4, x5⟩, x6, x7, x8⟩ := HBB.out.cells
 have f0 := HBB.out.fz 8
 clear HBB0 HZZ0 HLO0 HW2 hb HGA
 obtain ⟨w9, hw9⟩ : ∃ w9, w9 = w4.setCell ⟨B, 8, none⟩ (.slice none 0 0) := ⟨_, rfl⟩
 have HW3 := Aside0.mk hw9
 have b3 : Blk B ⟨k, c, e, r, s, d, (.slice Ao no co), t, (.slice none 0 0)⟩ w9 := by rw [hw9]; exact HBB.out.strip7
 have z3 : Blk (B + 1) ⟨0, 0, 0, 0, 0, 0, .slice none 0 0, ⟨#[]⟩, .slice none 0 0⟩ w9 := by rw [hw9]; exact (heap_setCell_other w4 ⟨B, 8, none⟩ (B + 1) _ (by show B + 1 ≠ B; omega)).trans HZZ.out
 have HLO3 := Aside0.mk (show Below w.heap.size w w9 by rw [hw9]; exact HLO.out.setCell (p := ⟨B, 8, none⟩) (by have := HBE.out; show w.heap.size ≤ B; omega) _)
 have HZ3 := Aside0.mk z3
 clear hw9 x0 x1 x2 x3 x4 x5 x6 x7
 obtain ⟨⟨y0, y1, y2, y3, y4, y5⟩, y6, y7, y8⟩ := b3.cells
 obtain ⟨⟨z0, z1, z2, z3', z4, z5⟩, z6, z7, z8⟩ := z3.cells
 have g0 := z3.fz 0
 have g1 := z3.fz 1
 have g2 := z3.fz 2
 have g3 := z3.fz 3
 have g4 := z3.fz 4
 have g5 := z3.fz 5
 have g6 := z3.fz 6
 have g7 := z3.fz 7
 have g8 := z3.fz 8
 clear b3 z3
 go_wp2_with (first | rw [← HW3.out])
 refine bodyPost_ret (results_ct rfl _ _ (B + 1) 60 #[.int .i64 k, .int .i64 c, .int .i64 e, .int .i64 r, .int .i64 s, .int .i64 d, (.slice Ao no co), .string t, (.slice none 0 0)] (0, 0) _ rfl (HZ3.out.set k c e r s d (.slice Ao no co) t (.slice none 0 0)) Try.underlying60 rfl (by kernel_rfl)) rfl ?_
 exact ⟨by rfl, below_set9 HLO3.out (by have := HBE.out; omega) _ _ _ _ _ _ _ _ _⟩
end Go.Proofs.Ytjbnffadfohofaa.MsgB
end
-- MERGED YtjbnffadfohofaaEq6
section
namespace Go.Proofs.Ytjbnffadfohofaa.Eq6
open Go.RowKit Go.Proofs.Ytjbnffadfohofaa.P
theorem sz3 : ∀ w, (sizeOf 3).run Try.prog w = .ok 1 w := fun w => by
 have h : Try.prog.cellsOf 3 = 1 := by kernel_rfl
 go_simp
theorem eq6 (W : World) (a0 a1 a2 a3 a4 a5 b0 b1 b2 b3 b4 b5 : Int) :
  (Op.equalIn 10000 89 (.agg #[.int .i64 a0, .int .i64 a1, .int .i64 a2, .int .i64 a3, .int .i64 a4, .int .i64 a5]) (.agg #[.int .i64 b0, .int .i64 b1, .int .i64 b2, .int .i64 b3, .int .i64 b4, .int .i64 b5])).run Try.prog W = .ok (a0 == b0 && (a1 == b1 && (a2 == b2 && (a3 == b3 && (a4 == b4 && a5 == b5))))) W := by
 rw [Op.equalIn]
 have pe : ∀ (x y : Int) (w : World), (Op.equalIn 9999 3 (.int .i64 x) (.int .i64 y)).run Try.prog w = .ok (x == y) w := fun x y w => by
  rw [run_equalIn_int w 9998 3 .i64 .i64 _ _ Try.underlying3]
 have pt : ∀ (cs : Array Value) (i : Nat) (v : Value) (w : World), cs[i]? = some v → (∃ x, v = .int .i64 x) → (part 3 cs i).run Try.prog w = .ok v w := fun cs i v w h hv => by
  obtain ⟨x, rfl⟩ := hv
  simp [part, isAgg, run_underlying Try.underlying3, h]
 simp only [Sem.run_bind, run_underlying Try.underlying89, Result.andThen_ok, sz3, Std.Legacy.Range.forIn_eq_forIn_range', Std.Legacy.Range.size, Nat.sub_zero, Nat.add_sub_cancel, Nat.div_one]
 simp only [List.range'_succ, List.range'_zero, List.forIn_cons, List.forIn_nil, Sem.run_bind]
 cases h0 : (a0 == b0) <;> cases h1 : (a1 == b1) <;> cases h2 : (a2 == b2) <;> cases h3 : (a3 == b3) <;> cases h4 : (a4 == b4) <;> cases h5 : (a5 == b5) <;>
 simp [pt, pe, h0, h1, h2, h3, h4, h5, Sem.run_bind, Sem.run_pure, Result.andThen_ok]
end Go.Proofs.Ytjbnffadfohofaa.Eq6
end
-- MERGED YtjbnffadfohofaaMsgC
section
namespace Go.Proofs.Ytjbnffadfohofaa.MsgC
open Go.RowKit Go.Proofs.Ytjbnffadfohofaa.P Go.Proofs.YtjbnffadfohofaaW.PrintWords Go.Proofs.YtjbnffadfohofaaW.PrintLast Go.Proofs.YtjbnffadfohofaaW.PrintMore Go.Proofs.Ytjbnffadfohofaa.Own Go.Proofs.Ytjbnffadfohofaa.MsgA Go.Proofs.Ytjbnffadfohofaa.MsgB
set_option linter.unusedSimpArgs false
set_option linter.unusedVariables false
set_option maxHeartbeats 2000000 in
set_option maxRecDepth 100000 in
theorem eqrun_nil (A : Option Addr) (n c : Nat) (hn : n ≤ 4611686018427387904) (w : World) : Calls Try.prog 50 #[.slice A n c, .slice none 0 0] w fun e w' => e = .returned (.bool (decide (n = 0))) ∧ Below w.heap.size w w' := by
 by_cases h : n = 0
 ·subst h
  go_enter Try.func50, Try.ntmps50
  go_wp2_with fail
  go_loopw [13] (fun iv wr => iv = .int .i64 0 ∧ wr = w) (fun _ _ => 0)
  case atStart => exact ⟨rfl, rfl⟩
  case round =>
   obtain ⟨rfl, rfl⟩ := hrel
   go_wp2_with fail
   go_ret
   exact ⟨rfl, Below.refl _ _⟩
 ·have h' : ((n : Int) == 0) = false := by simpa using h
  have hn' : (n : Int) ≤ 4611686018427387904 := by omega
  go_enter Try.func50, Try.ntmps50
  go_wp2_with fail
  go_ret
  exact ⟨by rw [decide_eq_false h]; rfl, Below.refl _ _⟩
set_option maxHeartbeats 2000000 in
set_option maxRecDepth 100000 in
theorem eqnote_nil (A : Option Addr) (n c : Nat) (hn : n ≤ 4611686018427387904) (w : World) : Calls Try.prog 51 #[.slice A n c, .slice none 0 0] w fun e w' => e = .returned (.bool (decide (n = 0))) ∧ Below w.heap.size w w' := by
 by_cases h : n = 0
 ·subst h
  go_enter Try.func51, Try.ntmps51
  go_wp2_with fail
  go_loopw [13] (fun iv wr => iv = .int .i64 0 ∧ wr = w) (fun _ _ => 0)
  case atStart => exact ⟨rfl, rfl⟩
  case round =>
   obtain ⟨rfl, rfl⟩ := hrel
   go_wp2_with fail
   go_ret
   exact ⟨rfl, Below.refl _ _⟩
 ·have h' : ((n : Int) == 0) = false := by simpa using h
  have hn' : (n : Int) ≤ 4611686018427387904 := by omega
  go_enter Try.func51, Try.ntmps51
  go_wp2_with fail
  go_ret
  exact ⟨by rw [decide_eq_false h]; rfl, Below.refl _ _⟩
def Mg.nums (a b : Mg) : Bool := a.k == b.k && (a.c == b.c && (a.e == b.e && (a.r == b.r && (a.s == b.s && a.d == b.d))))
def Mg.same (a b : Mg) (eo en : Bool) : Bool := Mg.nums a b && (a.t.toList == b.t.toList && (eo && en))
set_option maxHeartbeats 8000000 in
set_option maxRecDepth 100000 in
theorem same_c (a b : Mg) (eo en : Bool) (w : World) (hao : ∃ A n c, a.o = .slice A n c) (han : ∃ A n c, a.n = .slice A n c) (hbo : ∃ A n c, b.o = .slice A n c) (hbn : ∃ A n c, b.n = .slice A n c)
  (HO : ∀ W, Below w.heap.size w W → Calls Try.prog 50 #[a.o, b.o] W fun e W' => e = .returned (.bool eo) ∧ Below W.heap.size W W') (HN : ∀ W, Below w.heap.size w W → Calls Try.prog 51 #[a.n, b.n] W fun e W' => e = .returned (.bool en) ∧ Below W.heap.size W W') :
  Calls Try.prog 39 #[a.val, b.val] w fun e w' => e = .returned (.bool (Mg.same a b eo en)) ∧ Below w.heap.size w w' := by
 obtain ⟨k, c, e, r, s, d, o, t, n⟩ := a
 obtain ⟨k2, c2, e2, r2, s2, d2, o2, t2, n2⟩ := b
 obtain ⟨Ao, no, co, rfl⟩ := hao
 obtain ⟨An, nn, cn, rfl⟩ := han
 obtain ⟨Ao2, no2, co2, rfl⟩ := hbo
 obtain ⟨An2, nn2, cn2, rfl⟩ := hbn
 obtain ⟨B, hB⟩ : ∃ B, B = w.heap.size := ⟨_, rfl⟩
 obtain ⟨w2, hw2⟩ : ∃ w2, w2 = (w.alloc (.cells #[.int .i64 k, .int .i64 c, .int .i64 e, .int .i64 r, .int .i64 s, .int .i64 d, .slice Ao no co, .string t, .slice An nn cn] 60)).alloc (.cells #[.int .i64 k2, .int .i64 c2, .int .i64 e2, .int .i64 r2, .int .i64 s2, .int .i64 d2, .slice Ao2 no2 co2, .string t2, .slice An2 nn2 cn2] 60) := ⟨_, rfl⟩
 have HBA := Aside0.mk (show Blk B ⟨k, c, e, r, s, d, .slice Ao no co, t, .slice An nn cn⟩ w2 by unfold Blk; rw [hw2, hB, Own.heap_old _ _ _ (by simp)]; exact Own.heap_new _ _)
 have HBB := Aside0.mk (show Blk (B + 1) ⟨k2, c2, e2, r2, s2, d2, .slice Ao2 no2 co2, t2, .slice An2 nn2 cn2⟩ w2 by unfold Blk; rw [hw2, hB]; have := Own.heap_new (w.alloc (.cells #[.int .i64 k, .int .i64 c, .int .i64 e, .int .i64 r, .int .i64 s, .int .i64 d, .slice Ao no co, .string t, .slice An nn cn] 60)) (.cells #[.int .i64 k2, .int .i64 c2, .int .i64 e2, .int .i64 r2, .int .i64 s2, .int .i64 d2, .slice Ao2 no2 co2, .string t2, .slice An2 nn2 cn2] 60); rwa [World.size_alloc] at this)
 have HLO := Aside0.mk (show Below w.heap.size w w2 by rw [hw2]; exact below_alloc (below_alloc (Below.refl _ _) _) _)
 have HW2 := Aside0.mk hw2
 have HBE := Aside0.mk hB
 have HOA := Aside0.mk HO
 have HNA := Aside0.mk HN
 clear hw2 hB HO HN
 obtain ⟨⟨x0, x1, x2, x3, x4, x5⟩, x6, x7, x8⟩ := HBA.out.cells
 obtain ⟨⟨y0, y1, y2, y3, y4, y5⟩, y6, y7, y8⟩ := HBB.out.cells
 go_enter Try.func39, Try.ntmps39
 unfold Mg.val Mg.cs
 have he6 := fun W => Eq6.eq6 W k c e r s d k2 c2 e2 r2 s2 d2
 cases q1 : (k == k2 && (c == c2 && (e == e2 && (r == r2 && (s == s2 && d == d2))))) with
 | false =>
  rw [q1] at he6
  go_wp2_with (first | rw [← HBE.out, ← HW2.out])
  go_ret
  exact ⟨by unfold Mg.same Mg.nums; rw [q1]; rfl, HLO.out⟩
 | true =>
  rw [q1] at he6
  cases q2 : (t.toList == t2.toList) with
  | false =>
   go_wp2_with (first | rw [← HBE.out, ← HW2.out])
   go_ret
   exact ⟨by unfold Mg.same Mg.nums; rw [q1, q2]; rfl, HLO.out⟩
  | true =>
   go_wp2_with (first | rw [← HBE.out, ← HW2.out])
   refine (HOA.out w2 HLO.out).mono ?_
   rintro e9 w3 ⟨rfl, hb⟩
   have HA3 := Aside0.mk (HBA.out.below hb)
   have HB3 := Aside0.mk (HBB.out.below hb)
   have HL3 := Aside0.mk (below_step HLO.out hb)
   clear hb x0 x1 x2 x3 x4 x5 x6 x7 x8 y0 y1 y2 y3 y4 y5 y6 y7 y8 HW2 he6
   obtain ⟨⟨x0, x1, x2, x3, x4, x5⟩, x6, x7, x8⟩ := HA3.out.cells
   obtain ⟨⟨y0, y1, y2, y3, y4, y5⟩, y6, y7, y8⟩ := HB3.out.cells
   cases eo with
   | false =>
    go_wp2_with fail
    go_ret
    exact ⟨by unfold Mg.same Mg.nums; rw [q1, q2]; rfl, HL3.out⟩
   | true =>
    go_wp2_with fail
    refine (HNA.out w3 HL3.out).mono ?_
    rintro e9 w4 ⟨rfl, hb⟩
    have HL4 := Aside0.mk (below_step HL3.out hb)
    clear hb x0 x1 x2 x3 x4 x5 x6 x7 x8 y0 y1 y2 y3 y4 y5 y6 y7 y8
    go_wp2_with fail
    go_ret
    exact ⟨by unfold Mg.same Mg.nums; rw [q1, q2]; rfl, HL4.out⟩
end Go.Proofs.Ytjbnffadfohofaa.MsgC
end
-- MERGED YtjbnffadfohofaaMsgD
section
namespace Go.Proofs.Ytjbnffadfohofaa.MsgD
open Go.RowKit Go.Proofs.Ytjbnffadfohofaa.P Go.Proofs.YtjbnffadfohofaaW.PrintWords Go.Proofs.YtjbnffadfohofaaW.PrintLast Go.Proofs.YtjbnffadfohofaaW.PrintMore Go.Proofs.Ytjbnffadfohofaa.Own Go.Proofs.Ytjbnffadfohofaa.MsgA Go.Proofs.Ytjbnffadfohofaa.MsgB Go.Proofs.Ytjbnffadfohofaa.MsgC
set_option linter.unusedSimpArgs false
set_option linter.unusedVariables false
def fieldsL (k : Int) : List Int := if k = 1 then [0, 1, 2, 3] else if k = 2 then [0, 2, 3, 5] else if k = 3 then [2, 3] else if k = 4 then [2, 3, 6] else if k = 5 then [2, 7] else if k = 6 then [1] else if k = 7 then [4] else []
theorem fields_f (k : Int) : message_fields.f k = some (fieldsL k) := by
 unfold message_fields.f fieldsL
 repeat' split
 all_goals rfl
theorem fields_ok (k : Int) : (fieldsL k).Nodup ∧ (∀ f ∈ fieldsL k, 0 ≤ f ∧ f < 8) ∧ (fieldsL k).length ≤ 4 := by
 unfold fieldsL
 repeat' split
 all_goals decide
def nil0 : Value → Bool
 | .slice _ n _ => decide (n = 0)
 | _ => false
def run (go gn : Bool) : List Int → Mg → Option Mg
 | [], m => some m
 | f :: l, m => if m.ok go gn f.toNat = true then run go gn l (m.strip f.toNat) else none
def kindM (k : Int) : Mg := ⟨k, 0, 0, 0, 0, 0, .slice none 0 0, ⟨#[]⟩, .slice none 0 0⟩
def lastOk (m r : Mg) : Bool := !(fieldsL m.k).isEmpty && Mg.same r (kindM m.k) (nil0 r.o) (nil0 r.n)
def goodM (m : Mg) (go gn : Bool) : Bool := ((run go gn (fieldsL m.k) m).map (lastOk m)).getD false
theorem without_c (m : Mg) (go gn : Bool) (f : Int) (h0 : 0 ≤ f) (h8 : f < 8) (w : World) (ho : ∃ A n c, m.o = .slice A n c) (hn : ∃ A n c, m.n = .slice A n c)
  (HG : f = 5 → ∀ W, Below w.heap.size w W → Calls Try.prog 30 #[m.o] W fun e W' => e = .returned (.bool go) ∧ Below W.heap.size W W')
  (HN : f = 7 → ∀ W, Below w.heap.size w W → Calls Try.prog 48 #[m.n] W fun e W' => e = .returned (.bool gn) ∧ Below W.heap.size W W') :
  Calls Try.prog 38 #[m.val, .int .i64 f] w fun e w' => e = .returned (.tuple #[(m.strip f.toNat).val, .bool (m.ok go gn f.toNat)]) ∧ Below w.heap.size w w' := by
 have h : f = 0 ∨ f = 1 ∨ f = 2 ∨ f = 3 ∨ f = 4 ∨ f = 5 ∨ f = 6 ∨ f = 7 := by omega
 rcases h with rfl | rfl | rfl | rfl | rfl | rfl | rfl | rfl
 ·exact without_0 m go gn w ho hn
 ·exact without_1 m go gn w ho hn
 ·exact without_2 m go gn w ho hn
 ·exact without_3 m go gn w ho hn
 ·exact without_4 m go gn w ho hn
 ·exact without_5 m go gn w ho hn (HG rfl)
 ·exact without_6 m go gn w ho hn
 ·exact without_7 m go gn w ho hn (HN rfl)
theorem strip_k (m : Mg) (f : Nat) : (m.strip f).k = m.k := by
 unfold Mg.strip
 repeat' split
 all_goals rfl
theorem strip_o (m : Mg) (f : Nat) : (m.strip f).o = if f = 5 then .slice none 0 0 else m.o := by
 unfold Mg.strip
 repeat' split
 all_goals first | rfl | omega
theorem strip_n (m : Mg) (f : Nat) (hf : f < 8) : (m.strip f).n = if f = 7 then .slice none 0 0 else m.n := by
 unfold Mg.strip
 repeat' split
 all_goals first | rfl | omega
theorem drop_rd {l : List Int} {j : Nat} (h : j < l.length) : l.drop j = rd l (j : Int) :: l.drop (j + 1) := by
 rw [List.drop_eq_getElem_cons h]
 unfold rd
 rw [Int.toNat_natCast, List.getD_eq_getElem?_getD, List.getElem?_eq_getElem h]; rfl
structure Rs (m : Mg) (go gn : Bool) (l : List Int) (r : Mg) : Prop where
 run_ : run go gn l r = run go gn (fieldsL m.k) m
 k : r.k = m.k
 o : r.o = m.o ∨ (r.o = .slice none 0 0 ∧ 5 ∉ l)
 n : r.n = m.n ∨ (r.n = .slice none 0 0 ∧ 7 ∉ l)
theorem Rs.start (m : Mg) (go gn : Bool) : Rs m go gn (fieldsL m.k) m := ⟨rfl, rfl, .inl rfl, .inl rfl⟩
theorem Rs.step {m r : Mg} {go gn : Bool} {f : Int} {l : List Int} (h : Rs m go gn (f :: l) r) (hok : r.ok go gn f.toNat = true) (hd : (f :: l).Nodup) (h0 : 0 ≤ f) (h8 : f < 8) : Rs m go gn l (r.strip f.toNat) := by
 have hnd := List.nodup_cons.1 hd
 refine ⟨?_, by rw [strip_k]; exact h.k, ?_, ?_⟩
 ·have := h.run_
  simp only [run] at this
  rwa [if_pos hok] at this
 ·rw [strip_o]
  split
  ·next h5 =>
   have e5 : f = 5 := by omega
   exact .inr ⟨rfl, by rw [← e5]; exact hnd.1⟩
  ·rcases h.o with h1 | ⟨h1, h2⟩
   ·exact .inl h1
   ·exact .inr ⟨h1, fun h3 => h2 (List.mem_cons_of_mem _ h3)⟩
 ·rw [strip_n _ _ (by omega)]
  split
  ·next h5 =>
   have e5 : f = 7 := by omega
   exact .inr ⟨rfl, by rw [← e5]; exact hnd.1⟩
  ·rcases h.n with h1 | ⟨h1, h2⟩
   ·exact .inl h1
   ·exact .inr ⟨h1, fun h3 => h2 (List.mem_cons_of_mem _ h3)⟩
theorem Rs.bad {m r : Mg} {go gn : Bool} {f : Int} {l : List Int} (h : Rs m go gn (f :: l) r) (hok : r.ok go gn f.toNat = false) : goodM m go gn = false := by
 have := h.run_
 simp only [run, hok] at this
 unfold goodM
 rw [← this]; rfl
theorem Rs.last {m r : Mg} {go gn : Bool} (h : Rs m go gn [] r) : goodM m go gn = lastOk m r := by
 have := h.run_
 simp only [run] at this
 unfold goodM
 rw [← this]; rfl
theorem set9_far {B k : Nat} (h : k ≠ B) (w : World) (y0 y1 y2 y3 y4 y5 y6 y7 y8 : Value) : (((((((((w.setCell ⟨B, 0, none⟩ y0).setCell ⟨B, 1, none⟩ y1).setCell ⟨B, 2, none⟩ y2).setCell ⟨B, 3, none⟩ y3).setCell ⟨B, 4, none⟩ y4).setCell ⟨B, 5, none⟩ y5).setCell ⟨B, 6, none⟩ y6).setCell ⟨B, 7, none⟩ y7).setCell ⟨B, 8, none⟩ y8).heap[k]? = w.heap[k]? := by
 rw [Below.heap_setCell _ _ _ k h, Below.heap_setCell _ _ _ k h, Below.heap_setCell _ _ _ k h, Below.heap_setCell _ _ _ k h, Below.heap_setCell _ _ _ k h, Below.heap_setCell _ _ _ k h, Below.heap_setCell _ _ _ k h, Below.heap_setCell _ _ _ k h, Below.heap_setCell _ _ _ k h]
set_option maxHeartbeats 8000000 in
set_option maxRecDepth 100000 in
theorem good_c (m : Mg) (go gn : Bool) (w : World) (ho : ∃ A n c, m.o = .slice A n c ∧ n ≤ 4611686018427387904) (hn : ∃ A n c, m.n = .slice A n c ∧ n ≤ 4611686018427387904)
  (HG : ∀ W, Below w.heap.size w W → Calls Try.prog 30 #[m.o] W fun e W' => e = .returned (.bool go) ∧ Below W.heap.size W W')
  (HN : ∀ W, Below w.heap.size w W → Calls Try.prog 48 #[m.n] W fun e W' => e = .returned (.bool gn) ∧ Below W.heap.size W W') :
  Calls Try.prog 25 #[m.val] w fun e w' => e = .returned (.bool (goodM m go gn)) ∧ Below w.heap.size w w' := by
 have HRS := Aside0.mk (Rs.start m go gn)
 obtain ⟨Ao, no, co, ho, hno⟩ := ho
 obtain ⟨An, nn, cn, hn, hnn⟩ := hn
 have HGG := Aside0.mk HG
 have HNN := Aside0.mk HN
 have HNO := Aside0.mk hno
 have HNB := Aside0.mk hnn
 obtain ⟨M, hM⟩ : ∃ M, M = m := ⟨_, rfl⟩
 have HMM := Aside0.mk hM
 obtain ⟨k, c, e, r, s, d, o, t, n⟩ := m
 obtain rfl : o = .slice Ao no co := ho
 obtain rfl : n = .slice An nn cn := hn
 have HOF := Aside0.mk (show M.o = .slice Ao no co by rw [hM])
 have HNF := Aside0.mk (show M.n = .slice An nn cn by rw [hM])
 have HKF := Aside0.mk (show M.k = k by rw [hM])
 rw [← hM] at HRS
 clear HG HN hno hnn hM
 obtain ⟨B, hB⟩ : ∃ B, B = w.heap.size := ⟨_, rfl⟩
 obtain ⟨w2, hw2⟩ : ∃ w2, w2 = (w.alloc (.cells #[.int .i64 k, .int .i64 c, .int .i64 e, .int .i64 r, .int .i64 s, .int .i64 d, .slice Ao no co, .string t, .slice An nn cn] 60)).alloc (.cells #[.int .i64 0, .int .i64 0, .int .i64 0, .int .i64 0, .int .i64 0, .int .i64 0, .slice none 0 0, .string ⟨#[]⟩, .slice none 0 0] 60) := ⟨_, rfl⟩
 have HBB := Aside0.mk (show Blk B ⟨k, c, e, r, s, d, .slice Ao no co, t, .slice An nn cn⟩ w2 by unfold Blk; rw [hw2, hB, Own.heap_old _ _ _ (by simp)]; exact Own.heap_new _ _)
 have HZZ := Aside0.mk (show Blk (B + 1) ⟨0, 0, 0, 0, 0, 0, .slice none 0 0, ⟨#[]⟩, .slice none 0 0⟩ w2 by unfold Blk; rw [hw2, hB]; have := Own.heap_new (w.alloc (.cells #[.int .i64 k, .int .i64 c, .int .i64 e, .int .i64 r, .int .i64 s, .int .i64 d, .slice Ao no co, .string t, .slice An nn cn] 60)) (.cells #[.int .i64 0, .int .i64 0, .int .i64 0, .int .i64 0, .int .i64 0, .int .i64 0, .slice none 0 0, .string ⟨#[]⟩, .slice none 0 0] 60); rw [World.size_alloc] at this; exact this)
 have HLO := Aside0.mk (show Below w.heap.size w w2 by rw [hw2]; exact below_alloc (below_alloc (Below.refl _ _) _) _)
 have HW2 := Aside0.mk hw2
 have HBE := Aside0.mk hB
 clear hw2 hB
 obtain ⟨⟨x0, x1, x2, x3, x4, x5⟩, x6, x7, x8⟩ := HBB.out.cells
 obtain ⟨⟨z0, z1, z2, z3, z4, z5⟩, z6, z7, z8⟩ := HZZ.out.cells
 have g0 := HZZ.out.fz 0
 have g1 := HZZ.out.fz 1
 have g2 := HZZ.out.fz 2
 have g3 := HZZ.out.fz 3
 have g4 := HZZ.out.fz 4
 have g5 := HZZ.out.fz 5
 have g6 := HZZ.out.fz 6
 have g7 := HZZ.out.fz 7
 have g8 := HZZ.out.fz 8
 go_enter Try.func25, Try.ntmps25
 unfold Mg.val Mg.cs
 go_wp2_with (first | rw [← HBE.out, ← HW2.out])
 have HZ2 := Aside0.mk (HZZ.out.set k c e r s d (.slice Ao no co) t (.slice An nn cn))
 have HL2 := Aside0.mk (below_set9 HLO.out (B := B + 1) (by have := HBE.out; omega) (.int .i64 k) (.int .i64 c) (.int .i64 e) (.int .i64 r) (.int .i64 s) (.int .i64 d) (.slice Ao no co) (.string t) (.slice An nn cn))
 have HB2 := Aside0.mk (((below_set9 (Below.refl (B + 1) w2) (B := B + 1) (Nat.le_refl _) (.int .i64 k) (.int .i64 c) (.int .i64 e) (.int .i64 r) (.int .i64 s) (.int .i64 d) (.slice Ao no co) (.string t) (.slice An nn cn)).block B (by omega)).trans HBB.out)
 refine (message_fields.calls k _ _ (fields_f k)).mono ?_
 rintro e1 w3 ⟨v, rfl, hr, hb⟩
 have HZ3 := Aside0.mk (HZ2.out.below hb)
 have HB3 := Aside0.mk (Blk.below HB2.out hb)
 have HL3 := Aside0.mk (below_step HL2.out hb)
 have hr' := Kd.R_mono (ok' := fun k => B + 1 < k) (Kd.R_bound hr) (fun k hk => by
  have h1 := (HZ2.out.lt)
  have h2 := hk.2.1
  omega)
 obtain ⟨F, cF, rfl⟩ := Kd.R_slice hr'
 obtain ⟨bs, hbs⟩ : ∃ bs, bs = (((((((((w2.setCell ⟨B + 1, 0, none⟩ (.int .i64 k)).setCell ⟨B + 1, 1, none⟩ (.int .i64 c)).setCell ⟨B + 1, 2, none⟩ (.int .i64 e)).setCell ⟨B + 1, 3, none⟩ (.int .i64 r)).setCell ⟨B + 1, 4, none⟩ (.int .i64 s)).setCell ⟨B + 1, 5, none⟩ (.int .i64 d)).setCell ⟨B + 1, 6, none⟩ (.slice Ao no co)).setCell ⟨B + 1, 7, none⟩ (.string t)).setCell ⟨B + 1, 8, none⟩ (.slice An nn cn)).heap.size := ⟨_, rfl⟩
 rw [← hbs] at hr'
 have HCF := Aside0.mk hr'
 have HFO := Aside0.mk (fields_ok k)
 obtain ⟨fs, hfs⟩ : ∃ fs, fs = fieldsL k := ⟨_, rfl⟩
 rw [← hfs] at HCF HFO ⊢
 have HFS := Aside0.mk hfs
 rw [HKF.out, ← hfs] at HRS
 clear hb hr hr' hbs hfs x0 x1 x2 x3 x4 x5 x6 x7 x8 z0 z1 z2 z3 z4 z5 z6 z7 z8 g0 g1 g2 g3 g4 g5 g6 g7 g8 HBB HZZ HZ2 HL2 HB2 HLO HW2
 go_wp2_with fail
 go_loopw [12] (fun iv wr => ∃ (j : Nat) (rr : Mg), j ≤ fs.length ∧ iv = .int .i64 (j : Int) ∧ Rs M go gn (fs.drop j) rr ∧ Blk B ⟨k, c, e, r, s, d, .slice Ao no co, t, .slice An nn cn⟩ wr ∧ Blk (B + 1) rr wr ∧ Below w.heap.size w wr ∧ Kd.R (Kd.int .i64) 70 wr bs (fun k => B + 1 < k) (.slice F fs.length cF) fs) (fun iv _ => fs.length - (intOf iv).toNat)
 case atStart => exact ⟨0, _, Nat.zero_le _, rfl, HRS.out, HB3.out, by rw [HMM.out]; exact HZ3.out, HL3.out, HCF.out⟩
 case round =>
  obtain ⟨j, rr, hj, rfl, hrs, hB, hZ, hL, hC⟩ := hrel
  have HBj := Aside0.mk hB
  have HZj := Aside0.mk hZ
  have HLj := Aside0.mk hL
  have HCj := Aside0.mk hC
  have HRj := Aside0.mk hrs
  clear hB hZ hL hC hrs
  by_cases hlt : j < fs.length
  ·obtain ⟨f, hf⟩ : ∃ f, f = rd fs (j : Int) := ⟨_, rfl⟩
   have h4 : j < 4 := by have := HFO.out.2.2; omega
   have hdr := drop_rd hlt
   rw [← hf] at hdr
   have hmem : f ∈ fs := List.mem_of_mem_drop (i := j) (by rw [hdr]; exact List.mem_cons_self)
   have hnd : (f :: fs.drop (j + 1)).Nodup := by rw [← hdr]; exact HFO.out.1.sublist (List.drop_sublist _ _)
   have h08 := HFO.out.2.1 f hmem
   rw [hdr] at HRj
   obtain ⟨ad, rfl, y⟩ := Kd.at_int (Kd.R_reads' HCj.out).2.2 (j : Int) (by omega) (by omega)
   rw [Int.toNat_natCast, ← hf] at y
   have HWO := Aside0.mk (without_c rr go gn f h08.1 h08.2 wr (by
     rcases HRj.out.o with h | h
     ·exact ⟨_, _, _, h.trans HOF.out⟩
     ·exact ⟨_, _, _, h.1⟩) (by
     rcases HRj.out.n with h | h
     ·exact ⟨_, _, _, h.trans HNF.out⟩
     ·exact ⟨_, _, _, h.1⟩)
    (fun h5 W hW => by
     rcases HRj.out.o with h | h
     ·rw [h, HOF.out]; exact HGG.out W (HLj.out.trans (hW.mono HLj.out.size))
     ·exact absurd (show (5 : Int) ∈ f :: fs.drop (j + 1) by rw [h5]; exact List.mem_cons_self) h.2)
    (fun h5 W hW => by
     rcases HRj.out.n with h | h
     ·rw [h, HNF.out]; exact HNN.out W (HLj.out.trans (hW.mono HLj.out.size))
     ·exact absurd (show (7 : Int) ∈ f :: fs.drop (j + 1) by rw [h5]; exact List.mem_cons_self) h.2))
   have HST := Aside0.mk (fun hok => HRj.out.step hok hnd h08.1 h08.2)
   have HBA := Aside0.mk (fun hok => HRj.out.bad hok)
   have HFF := Aside0.mk (show (∃ A n c, (rr.strip f.toNat).o = .slice A n c) ∧ (∃ A n c, (rr.strip f.toNat).n = .slice A n c) from ⟨by
     rw [strip_o]
     split
     ·exact ⟨_, _, _, rfl⟩
     ·rcases HRj.out.o with h | h
      ·exact ⟨_, _, _, h.trans HOF.out⟩
      ·exact ⟨_, _, _, h.1⟩, by
     rw [strip_n _ _ (by omega)]
     split
     ·exact ⟨_, _, _, rfl⟩
     ·rcases HRj.out.n with h | h
      ·exact ⟨_, _, _, h.trans HNF.out⟩
      ·exact ⟨_, _, _, h.1⟩⟩)
   obtain ⟨r2, hr2⟩ : ∃ r2, r2 = rr.strip f.toNat := ⟨_, rfl⟩
   obtain ⟨ok, hok⟩ : ∃ ok, ok = rr.ok go gn f.toNat := ⟨_, rfl⟩
   rw [← hr2] at HWO HFF HST
   rw [← hok] at HWO HBA HST
   obtain ⟨⟨x0, x1, x2, x3, x4, x5⟩, x6, x7, x8⟩ := HZj.out.cells
   have hlt' : (j : Int) < (fs.length : Int) := by omega
   clear hr2 hok hnd h08 hmem hdr hf HRj HGG HNN
   obtain ⟨k2, c2, e2, q2, s2, d2, o2, t2, n2⟩ := r2
   obtain ⟨⟨Ao2, no2, co2, ho2⟩, An2, nn2, cn2, hn2⟩ := HFF.out
   obtain rfl : o2 = .slice Ao2 no2 co2 := ho2
   obtain rfl : n2 = .slice An2 nn2 cn2 := hn2
   go_wp2_with fail
   refine HWO.out.mono ?_
   unfold Mg.val Mg.cs
   rintro e9 w4 ⟨rfl, hb⟩
   have HB4 := Aside0.mk (HBj.out.below hb)
   have HZ4 := Aside0.mk (HZj.out.below hb)
   have HL4 := Aside0.mk (below_step HLj.out hb)
   have HC4 := Aside0.mk (Kd.R_below HCj.out hb)
   clear hb x0 x1 x2 x3 x4 x5 x6 x7 x8 y HWO HBj HZj HLj HCj HFF
   have HZ5 := Aside0.mk (HZ4.out.set k2 c2 e2 q2 s2 d2 (.slice Ao2 no2 co2) t2 (.slice An2 nn2 cn2))
   have HX := Aside0.mk (below_set9 (Below.refl (B + 1) w4) (B := B + 1) (Nat.le_refl _) (.int .i64 k2) (.int .i64 c2) (.int .i64 e2) (.int .i64 q2) (.int .i64 s2) (.int .i64 d2) (.slice Ao2 no2 co2) (.string t2) (.slice An2 nn2 cn2))
   have HL5 := Aside0.mk (below_set9 HL4.out (B := B + 1) (by have := HBE.out; omega) (.int .i64 k2) (.int .i64 c2) (.int .i64 e2) (.int .i64 q2) (.int .i64 s2) (.int .i64 d2) (.slice Ao2 no2 co2) (.string t2) (.slice An2 nn2 cn2))
   have HC5 := Aside0.mk (Kd.R_step HC4.out (fun K hK _ => set9_far (B := B + 1) (by omega) w4 (.int .i64 k2) (.int .i64 c2) (.int .i64 e2) (.int .i64 q2) (.int .i64 s2) (.int .i64 d2) (.slice Ao2 no2 co2) (.string t2) (.slice An2 nn2 cn2)))
   have HB5 := Aside0.mk ((HX.out.block B (by omega)).trans HB4.out)
   obtain ⟨⟨x0, x1, x2, x3, x4, x5⟩, x6, x7, x8⟩ := HZ4.out.cells
   have g0 := HZ4.out.fz 0
   have g1 := HZ4.out.fz 1
   have g2 := HZ4.out.fz 2
   have g3 := HZ4.out.fz 3
   have g4 := HZ4.out.fz 4
   have g5 := HZ4.out.fz 5
   have g6 := HZ4.out.fz 6
   have g7 := HZ4.out.fz 7
   have g8 := HZ4.out.fz 8
   cases ok with
   | false =>
    have HQ := Aside0.mk (HBA.out rfl)
    have HQ2 := Aside0.mk (show goodM ⟨k, c, e, r, s, d, .slice Ao no co, t, .slice An nn cn⟩ go gn = false by rw [← HMM.out]; exact HQ.out)
    go_wp2_with fail
    go_ret
    exact ⟨by rw [HQ2.out]; rfl, HL5.out⟩
   | true =>
    have HRS2 := Aside0.mk (HST.out rfl)
    go_wp2_with fail
    go_roundw
    case rel => exact ⟨j + 1, _, by omega, by go_num, HRS2.out, HB5.out, HZ5.out, HL5.out, HC5.out⟩
    case measure => simp [intOf]; omega
  ·obtain rfl : j = fs.length := by omega
   rw [List.drop_eq_nil_of_le (Nat.le_refl _)] at HRj
   have hlt' : ¬ ((fs.length : Int) < (fs.length : Int)) := by omega
   have HFF := Aside0.mk (show (∃ A n c, rr.o = .slice A n c ∧ n ≤ 4611686018427387904) ∧ (∃ A n c, rr.n = .slice A n c ∧ n ≤ 4611686018427387904) from ⟨by
     rcases HRj.out.o with h | h
     ·exact ⟨_, _, _, h.trans HOF.out, HNO.out⟩
     ·exact ⟨_, _, _, h.1, by decide⟩, by
     rcases HRj.out.n with h | h
     ·exact ⟨_, _, _, h.trans HNF.out, HNB.out⟩
     ·exact ⟨_, _, _, h.1, by decide⟩⟩)
   obtain ⟨⟨x0, x1, x2, x3, x4, x5⟩, x6, x7, x8⟩ := HBj.out.cells
   obtain ⟨⟨z0, z1, z2, z3, z4, z5⟩, z6, z7, z8⟩ := HZj.out.cells
   clear HGG HNN HRS HCj
   go_wp2_with fail
   refine (message_fields.calls k _ _ (fields_f k)).mono ?_
   rintro e9 w4 ⟨v, rfl, hr, hb⟩
   have HZ4 := Aside0.mk (HZj.out.below hb)
   have HB4 := Aside0.mk (HBj.out.below hb)
   have HL4 := Aside0.mk (below_step HLj.out hb)
   rw [← HFS.out] at hr
   obtain ⟨F2, cF2, rfl⟩ := Kd.R_slice hr
   have HGL := Aside0.mk (show goodM ⟨k, c, e, r, s, d, .slice Ao no co, t, .slice An nn cn⟩ go gn = (!fs.isEmpty && Mg.same rr (kindM k) (nil0 rr.o) (nil0 rr.n)) by
    rw [← HMM.out, HRj.out.last]; unfold lastOk; rw [HKF.out, HFS.out])
   clear hb hr x0 x1 x2 x3 x4 x5 x6 x7 x8 z0 z1 z2 z3 z4 z5 z6 z7 z8 HCF
   obtain ⟨⟨x0, x1, x2, x3, x4, x5⟩, x6, x7, x8⟩ := HB4.out.cells
   obtain ⟨⟨z0, z1, z2, z3, z4, z5⟩, z6, z7, z8⟩ := HZ4.out.cells
   by_cases hp : 0 < fs.length
   ·have hp' : (0 : Int) < (fs.length : Int) := by omega
    obtain ⟨⟨A1, n1, c1, e1, b1⟩, A2, n2, c2, e2, b2⟩ := HFF.out
    have HSS := Aside0.mk (same_c rr (kindM k) (nil0 rr.o) (nil0 rr.n) w4 ⟨_, _, _, e1⟩ ⟨_, _, _, e2⟩ ⟨_, _, _, rfl⟩ ⟨_, _, _, rfl⟩ (fun W _ => by rw [e1]; exact eqrun_nil A1 n1 c1 b1 W) (fun W _ => by rw [e2]; exact eqnote_nil A2 n2 c2 b2 W))
    have HEM := Aside0.mk (show fs.isEmpty = false by cases fs with
     | nil => exact absurd hp (by simp)
     | cons => rfl)
    clear e1 e2 b1 b2 hp
    go_wp2_with fail
    refine HSS.out.mono ?_
    rintro e9 w5 ⟨rfl, hb⟩
    have HL5 := Aside0.mk (below_step HL4.out hb)
    clear hb x0 x1 x2 x3 x4 x5 x6 x7 x8 z0 z1 z2 z3 z4 z5 z6 z7 z8
    go_wp2_with fail
    go_ret
    exact ⟨by rw [HGL.out, HEM.out]; rfl, HL5.out⟩
   ·have hp' : ¬ (0 : Int) < (fs.length : Int) := by omega
    have HEM := Aside0.mk (show fs.isEmpty = true by cases fs with
     | nil => rfl
     | cons => exact absurd (by simp) hp)
    clear hp
    go_wp2_with fail
    go_ret
    exact ⟨by rw [HGL.out, HEM.out]; rfl, HL4.out⟩
end Go.Proofs.Ytjbnffadfohofaa.MsgD
end
-- MERGED YtjbnffadfohofaaMsgF
section
namespace Go.Proofs.Ytjbnffadfohofaa.MsgF
open Go.RowKit Go.Proofs.Ytjbnffadfohofaa.P Go.Proofs.YtjbnffadfohofaaW.PrintWords Go.Proofs.YtjbnffadfohofaaW.PrintLast Go.Proofs.YtjbnffadfohofaaW.PrintMore Go.Proofs.Ytjbnffadfohofaa.Own Go.Proofs.Ytjbnffadfohofaa.NoteN
set_option linter.unusedSimpArgs false
set_option linter.unusedVariables false
def MsgF.T5 : Bool × List (List Nat × List Nat) := (true, [([], []), ([0], [0]), ([1], [1]), ([2], [2]), ([3], [3]), ([4, 3], [3, 4]), ([5, 3], [3, 5]), ([3, 6], [3, 6]), ([7, 3], [7]), ([8], [8]), ([9, 8], [8, 9]), ([10, 8, 8], [8, 10]), ([11], [11]), ([11], [11]), ([13, 11], [11, 13]), ([12, 14, 11], [11, 12, 14]), ([15, 11], [11, 15]), ([11], [11]), ([16, 17, 11, 11], [11, 16, 17]), ([18, 11], [11, 18]), ([11, 19, 8], [8, 11, 19]), ([8, 20], [8, 20]), ([21, 18], [21])])
def MsgF.B5 : List Nat := [0, 1, 3, 7, 15, 31, 63, 127, 255, 511, 1023, 2047, 4095, 4095, 12287, 32767, 65535, 4095, 262143, 524287, 1048575, 2097151, 4194303]
theorem MsgF.tab5 : rtab .any (opsOf Try.f48 5) = MsgF.T5 := by kernel_rfl
theorem MsgF.bits5 : waitsOk MsgF.T5.2 MsgF.B5 = true := by kernel_rfl
theorem less_f (a b : Nt) : message_less.f a.f0.f0 a.f0.f1 a.f1 b.f0.f0 b.f0.f1 b.f1 = some (lessN a b) := by
 unfold message_less.f lessN
 repeat' split
 all_goals rfl
theorem less_c (a b : Nt) (w : World) : Calls Try.prog 55 #[.agg #[.int .i64 a.f0.f0, .int .i64 a.f0.f1, .int .i64 a.f1], .agg #[.int .i64 b.f0.f0, .int .i64 b.f0.f1, .int .i64 b.f1]] w fun e w' => e = .returned (.bool (lessN a b)) ∧ Below w.heap.size w w' :=
 message_less.calls _ _ _ _ _ _ _ w (less_f a b)
set_option maxHeartbeats 16000000 in
set_option maxRecDepth 100000 in
theorem fine_c (A : Option Addr) (c : Nat) (l : List Nt) (w : World) (hC : NC w A l) (hc : l.length ≤ c) (hl : l.length ≤ 1000000) :
  Calls Try.prog 48 #[.slice A l.length c] w fun e w' => e = .returned (.bool (fineL l)) ∧ Below w.heap.size w w' := by
 have HC := Aside0.mk hC
 have HL := Aside0.mk hl
 clear hC hl hc
 go_enter Try.func48, Try.ntmps48
 go_wp2_with fail
 go_loopw [7] (fun iv wr => ∃ j : Nat, j ≤ l.length ∧ iv = .int .i64 (j : Int) ∧ fineR (prevO l j) (l.drop j) = fineR none l ∧ Below w.heap.size w wr) (fun iv _ => l.length - (intOf iv).toNat)
 case atStart => exact ⟨0, Nat.zero_le _, rfl, rfl, Below.refl _ _⟩
 case round =>
  obtain ⟨j, hj, rfl, ho, hb⟩ := hrel
  have HB := Aside0.mk hb
  have HO := Aside0.mk ho
  clear hb ho
  by_cases hlt : j < l.length
  ·have hlt' : (j : Int) < (l.length : Int) := by omega
   have h6 : j < 1000000 := by have := HL.out; omega
   have HST := Aside0.mk (fine_step hlt)
   have HPV := Aside0.mk (fun hp : 0 < j => at_nt (NC.below HC.out HB.out) (j - 1) (by omega))
   obtain ⟨ad, rfl, y0, y1, y2⟩ := at_nt (NC.below HC.out HB.out) j hlt
   obtain ⟨x, hx⟩ : ∃ x, x = l.getD j z44 := ⟨_, rfl⟩
   rw [← hx] at y0 y1 y2 HST
   obtain ⟨g, hg⟩ : ∃ g, g = wr.heap.size := ⟨_, rfl⟩
   obtain ⟨w1, hw1⟩ : ∃ w1, w1 = wr.alloc (.cells #[.int .i64 0, .int .i64 0, .int .i64 0] 44) := ⟨_, rfl⟩
   obtain ⟨w2, hw2⟩ : ∃ w2, w2 = ((w1.setCell ⟨g, 0, none⟩ (.int .i64 x.f0.f0)).setCell ⟨g, 1, none⟩ (.int .i64 x.f0.f1)).setCell ⟨g, 2, none⟩ (.int .i64 x.f1) := ⟨_, rfl⟩
   have HT1 := Aside0.mk (show w1.heap[g]? = some (.cells #[.int .i64 0, .int .i64 0, .int .i64 0] 44 (0, 0)) by rw [hw1, hg]; exact Own.heap_new _ _)
   have HGE := Aside0.mk (show w.heap.size ≤ g by rw [hg]; exact HB.out.size)
   have HB2 := Aside0.mk (show Below w.heap.size w w2 by rw [hw2]; exact below_set3 (by rw [hw1]; exact below_alloc HB.out _) HGE.out _ _ _)
   have ht2 : w2.heap[g]? = some (.cells #[.int .i64 x.f0.f0, .int .i64 x.f0.f1, .int .i64 x.f1] 44 (0, 0)) := by rw [hw2]; exact set3 HT1.out _ _ _
   have HW1 := Aside0.mk hw1
   have HG1 := Aside0.mk hg
   have HW2 := Aside0.mk hw2
   have a0 : w1.cell? ⟨g, 0, none⟩ = some (.int .i64 0) := by rw [cell_of_row _ _ 0 _ _ _ HT1.out]; rfl
   have a1 : w1.cell? ⟨g, 1, none⟩ = some (.int .i64 0) := by rw [cell_of_row _ _ 1 _ _ _ HT1.out]; rfl
   have a2 : w1.cell? ⟨g, 2, none⟩ = some (.int .i64 0) := by rw [cell_of_row _ _ 2 _ _ _ HT1.out]; rfl
   have b0 : w1.frozen? ⟨g, 0, none⟩ = false := frozen_of_row _ _ 0 _ _ HT1.out
   have b1 : w1.frozen? ⟨g, 1, none⟩ = false := frozen_of_row _ _ 1 _ _ HT1.out
   have b2 : w1.frozen? ⟨g, 2, none⟩ = false := frozen_of_row _ _ 2 _ _ HT1.out
   have t0 : w2.cell? ⟨g, 0, none⟩ = some (.int .i64 x.f0.f0) := by rw [cell_of_row _ _ 0 _ _ _ ht2]; rfl
   have t1 : w2.cell? ⟨g, 1, none⟩ = some (.int .i64 x.f0.f1) := by rw [cell_of_row _ _ 1 _ _ _ ht2]; rfl
   have t2 : w2.cell? ⟨g, 2, none⟩ = some (.int .i64 x.f1) := by rw [cell_of_row _ _ 2 _ _ _ ht2]; rfl
   have HT2 := Aside0.mk ht2
   have HLT := Aside0.mk hlt
   clear hw1 hg hx hlt ht2 hw2
   by_cases hs : 0 ≤ x.f0.f0 ∧ x.f0.f0 ≤ x.f0.f1 ∧ x.f0.f1 ≤ 16777216
   ·have HSP := Aside0.mk hs
    obtain ⟨h1, h2, h3⟩ := hs
    go_wp2_with (first | rw [← HG1.out, ← HW1.out] | rw [← HW2.out])
    have HALL := Aside0.mk (fun (W : World) (hW : Below w2.heap.size w2 W) => (show W.cell? ⟨g, 0, none⟩ = some (.int .i64 x.f0.f0) ∧ W.cell? ⟨g, 1, none⟩ = some (.int .i64 x.f0.f1) ∧ W.cell? ⟨g, 2, none⟩ = some (.int .i64 x.f1) by
     have h := (hW.block g (Array.getElem?_eq_some_iff.1 HT2.out).1).trans HT2.out
     exact ⟨by rw [cell_of_row _ _ 0 _ _ _ h]; rfl, by rw [cell_of_row _ _ 1 _ _ _ h]; rfl, by rw [cell_of_row _ _ 2 _ _ _ h]; rfl⟩))
    have HBO := Aside0.mk HB2.out
    clear a0 a1 a2 b0 b1 b2 t0 t1 t2 y0 y1 y2 HB2 h1 h2 h3
    have HB2 := Aside0.mk (Below.refl w2.heap.size w2)
    by_cases c1 : 0 ≤ x.f1
    ·have d1 : ¬ x.f1 < 0 := by omega
     by_cases c2 : x.f1 ≤ 65536
     ·have d2 : ¬ 65536 < x.f1 := by omega
      have HOK := Aside0.mk (okX_yes HSP.out ⟨c1, c2⟩)
      by_cases hj0 : j = 0
      ·subst hj0
       have HST2 := Aside0.mk (show fineR (prevO l 1) (l.drop 1) = fineR none l by rw [← HO.out, HST.out, HOK.out]; rfl)
       clear HST HO
       refine start_ (n := 23) (S := fun w' => True) (ds := []) #[false, false, false, false, false, false, false, false, false, false, false, false, false, false, false, false, false, false, false, false, false, false, false] (by kernel_rfl) rfl rfl trivial (fun hHeld => ?_); refine with_tabW MsgF.tab5 MsgF.bits5 (fun HT_ HW_ => ?_)
       refine inv_at [0, 1, 2, 3, 4, 5, 6, 7, 8, 9, 10, 11, 12, 13, 14, 15, 16, 17, 18, 19, 20, 21, 22] (fun a0_ b a w' => a = putSel a0_ b [(0, 33, (.pointer (some ⟨g, 2, none⟩))), (1, 34, (.int .i64 x.f1)), (2, 35, (.bool false)), (3, 36, (.bool false)), (4, 37, (.pointer (some ⟨g, 2, none⟩))), (5, 38, (.int .i64 x.f1)), (6, 39, (.bool false)), (7, 40, (.bool false)), (8, 41, (.bool false)), (9, 42, (.int .i64 0)), (10, 43, (.bool false)), (11, 44, (.bool false)), (12, 45, undef), (13, 46, undef), (14, 47, undef), (15, 48, undef), (16, 49, undef), (17, 50, undef), (18, 51, undef), (19, 52, undef), (20, 53, (.bool false)), (21, 54, (.bool false)), (22, 32, (.bool false))] ∧ (Below w2.heap.size w2 w')) HT_.out HW_.out (by kernel_rfl) (by kernel_rfl) ?_ ?_ ?_
       ·exact ⟨by simp only [putSel, Bool.false_eq_true, if_false], below_drew1 HB2.out⟩
       ·skip
        clear HB2
        refine steps_cons ?_ ?_
        ·rintro b a w' ⟨ha, Q_HB2⟩ hb_ hon hoff
         refine ⟨_, rfl, fun K hK => ?_⟩
         have e4 : a.tmps[4]? = some ((.pointer (some ⟨g, 0, none⟩))) := by rw [ha]; exact (putSel_off rfl).trans rfl
         replace ha := Aside0.mk ha
         have HB2 := Aside0.mk Q_HB2
         refine value_ (w1 := w') (v := (.pointer (some ⟨g, 2, none⟩))) (by rfl) rfl ?_ ?_
         ·go_simp
          (try simp only [i64_w])
          try (first | rfl | assumption)
         refine hK.out _ _ ⟨(by rw [ha.out]; exact putSel_upk 0 hb_ rfl rfl rfl), Q_HB2⟩
        refine steps_cons ?_ ?_
        ·rintro b a w' ⟨ha, Q_HB2⟩ hb_ hon hoff
         refine ⟨_, rfl, fun K hK => ?_⟩
         have e33 : a.tmps[33]? = some ((.pointer (some ⟨g, 2, none⟩))) := by rw [ha]; exact putSel_on (e := (0, 33, (.pointer (some ⟨g, 2, none⟩)))) 0 rfl rfl (hon 0 (by kernel_rfl)) rfl
         replace ha := Aside0.mk ha
         have HB2 := Aside0.mk Q_HB2
         obtain ⟨x0_, x1_, x2_⟩ := HALL.out _ HB2.out
         refine value_ (w1 := w') (v := (.int .i64 x.f1)) (by rfl) rfl ?_ ?_
         ·go_simp
          (try simp only [i64_w])
          try (first | rfl | assumption)
         refine hK.out _ _ ⟨(by rw [ha.out]; exact putSel_upk 1 hb_ rfl rfl rfl), Q_HB2⟩
        refine steps_cons ?_ ?_
        ·rintro b a w' ⟨ha, Q_HB2⟩ hb_ hon hoff
         refine ⟨_, rfl, fun K hK => ?_⟩
         have e34 : a.tmps[34]? = some ((.int .i64 x.f1)) := by rw [ha]; exact putSel_on (e := (1, 34, (.int .i64 x.f1))) 1 rfl rfl (hon 1 (by kernel_rfl)) rfl
         replace ha := Aside0.mk ha
         have HB2 := Aside0.mk Q_HB2
         refine value_ (w1 := w') (v := (.bool false)) (by rfl) rfl ?_ ?_
         ·go_simp
          (try simp only [i64_w])
          try (first | rfl | assumption)
         refine hK.out _ _ ⟨(by rw [ha.out]; exact putSel_upk 2 hb_ rfl rfl rfl), Q_HB2⟩
        refine steps_cons ?_ ?_
        ·rintro b a w' ⟨ha, Q_HB2⟩ hb_ hon hoff
         refine ⟨_, rfl, fun K hK => ?_⟩
         have e35 : a.tmps[35]? = some ((.bool false)) := by rw [ha]; exact putSel_on (e := (2, 35, (.bool false))) 2 rfl rfl (hon 2 (by kernel_rfl)) rfl
         replace ha := Aside0.mk ha
         have HB2 := Aside0.mk Q_HB2
         refine value_ (w1 := w') (v := (.bool false)) (by rfl) rfl ?_ ?_
         ·go_simp
          (try simp only [i64_w])
          try (first | rfl | assumption)
         refine hK.out _ _ ⟨(by rw [ha.out]; exact putSel_upk 3 hb_ rfl rfl rfl), Q_HB2⟩
        refine steps_cons ?_ ?_
        ·rintro b a w' ⟨ha, Q_HB2⟩ hb_ hon hoff
         refine ⟨_, rfl, fun K hK => ?_⟩
         have e4 : a.tmps[4]? = some ((.pointer (some ⟨g, 0, none⟩))) := by rw [ha]; exact (putSel_off rfl).trans rfl
         have e36 : a.tmps[36]? = some ((.bool false)) := by rw [ha]; exact putSel_on (e := (3, 36, (.bool false))) 3 rfl rfl (hon 3 (by kernel_rfl)) rfl
         replace ha := Aside0.mk ha
         have HB2 := Aside0.mk Q_HB2
         refine value_ (w1 := w') (v := (.pointer (some ⟨g, 2, none⟩))) (wanted_on rfl rfl rfl (e36.trans (by first | rfl | (simp [*]; done)))) rfl ?_ ?_
         ·go_simp
          (try simp only [i64_w])
          try (first | rfl | assumption)
         refine hK.out _ _ ⟨(by rw [ha.out]; exact putSel_upk 4 hb_ rfl rfl rfl), Q_HB2⟩
        refine steps_cons ?_ ?_
        ·rintro b a w' ⟨ha, Q_HB2⟩ hb_ hon hoff
         refine ⟨_, rfl, fun K hK => ?_⟩
         have e37 : a.tmps[37]? = some ((.pointer (some ⟨g, 2, none⟩))) := by rw [ha]; exact putSel_on (e := (4, 37, (.pointer (some ⟨g, 2, none⟩)))) 4 rfl rfl (hon 4 (by kernel_rfl)) rfl
         have e36 : a.tmps[36]? = some ((.bool false)) := by rw [ha]; exact putSel_on (e := (3, 36, (.bool false))) 3 rfl rfl (hon 3 (by kernel_rfl)) rfl
         replace ha := Aside0.mk ha
         have HB2 := Aside0.mk Q_HB2
         obtain ⟨x0_, x1_, x2_⟩ := HALL.out _ HB2.out
         refine value_ (w1 := w') (v := (.int .i64 x.f1)) (wanted_on rfl rfl rfl (e36.trans (by first | rfl | (simp [*]; done)))) rfl ?_ ?_
         ·go_simp
          (try simp only [i64_w])
          try (first | rfl | assumption)
         refine hK.out _ _ ⟨(by rw [ha.out]; exact putSel_upk 5 hb_ rfl rfl rfl), Q_HB2⟩
        refine steps_cons ?_ ?_
        ·rintro b a w' ⟨ha, Q_HB2⟩ hb_ hon hoff
         refine ⟨_, rfl, fun K hK => ?_⟩
         have e38 : a.tmps[38]? = some ((.int .i64 x.f1)) := by rw [ha]; exact putSel_on (e := (5, 38, (.int .i64 x.f1))) 5 rfl rfl (hon 5 (by kernel_rfl)) rfl
         have e36 : a.tmps[36]? = some ((.bool false)) := by rw [ha]; exact putSel_on (e := (3, 36, (.bool false))) 3 rfl rfl (hon 3 (by kernel_rfl)) rfl
         replace ha := Aside0.mk ha
         have HB2 := Aside0.mk Q_HB2
         refine value_ (w1 := w') (v := (.bool false)) (wanted_on rfl rfl rfl (e36.trans (by first | rfl | (simp [*]; done)))) rfl ?_ ?_
         ·go_simp
          (try simp only [i64_w])
          try (first | rfl | assumption)
         refine hK.out _ _ ⟨(by rw [ha.out]; exact putSel_upk 6 hb_ rfl rfl rfl), Q_HB2⟩
        refine steps_cons ?_ ?_
        ·rintro b a w' ⟨ha, Q_HB2⟩ hb_ hon hoff
         refine ⟨_, rfl, fun K hK => ?_⟩
         have e36 : a.tmps[36]? = some ((.bool false)) := by rw [ha]; exact putSel_on (e := (3, 36, (.bool false))) 3 rfl rfl (hon 3 (by kernel_rfl)) rfl
         have e39 : a.tmps[39]? = some ((.bool false)) := by rw [ha]; exact putSel_on (e := (6, 39, (.bool false))) 6 rfl rfl (hon 6 (by kernel_rfl)) rfl
         replace ha := Aside0.mk ha
         have HB2 := Aside0.mk Q_HB2
         refine value_ (w1 := w') (v := (.bool false)) (by rfl) rfl ?_ ?_
         ·go_simp
          (try simp only [i64_w])
          try (first | rfl | assumption)
         refine hK.out _ _ ⟨(by rw [ha.out]; exact putSel_upk 7 hb_ rfl rfl rfl), Q_HB2⟩
        refine steps_cons ?_ ?_
        ·rintro b a w' ⟨ha, Q_HB2⟩ hb_ hon hoff
         refine ⟨_, rfl, fun K hK => ?_⟩
         have e40 : a.tmps[40]? = some ((.bool false)) := by rw [ha]; exact putSel_on (e := (7, 40, (.bool false))) 7 rfl rfl (hon 7 (by kernel_rfl)) rfl
         replace ha := Aside0.mk ha
         have HB2 := Aside0.mk Q_HB2
         refine value_ (w1 := w') (v := (.bool false)) (by rfl) rfl ?_ ?_
         ·go_simp
          (try simp only [i64_w])
          try (first | rfl | assumption)
         refine hK.out _ _ ⟨(by rw [ha.out]; exact putSel_upk 8 hb_ rfl rfl rfl), Q_HB2⟩
        refine steps_cons ?_ ?_
        ·rintro b a w' ⟨ha, Q_HB2⟩ hb_ hon hoff
         refine ⟨_, rfl, fun K hK => ?_⟩
         have e3 : a.tmps[3]? = some ((.int .i64 0)) := by rw [ha]; exact (putSel_off rfl).trans rfl
         have e41 : a.tmps[41]? = some ((.bool false)) := by rw [ha]; exact putSel_on (e := (8, 41, (.bool false))) 8 rfl rfl (hon 8 (by kernel_rfl)) rfl
         replace ha := Aside0.mk ha
         have HB2 := Aside0.mk Q_HB2
         refine value_ (w1 := w') (v := (.int .i64 0)) (wanted_on rfl rfl rfl (e41.trans (by first | rfl | (simp [*]; done)))) rfl ?_ ?_
         ·go_simp
          (try simp only [i64_w])
          try (first | rfl | assumption)
         refine hK.out _ _ ⟨(by rw [ha.out]; exact putSel_upk 9 hb_ rfl rfl rfl), Q_HB2⟩
        refine steps_cons ?_ ?_
        ·rintro b a w' ⟨ha, Q_HB2⟩ hb_ hon hoff
         refine ⟨_, rfl, fun K hK => ?_⟩
         have e42 : a.tmps[42]? = some ((.int .i64 0)) := by rw [ha]; exact putSel_on (e := (9, 42, (.int .i64 0))) 9 rfl rfl (hon 9 (by kernel_rfl)) rfl
         have e41 : a.tmps[41]? = some ((.bool false)) := by rw [ha]; exact putSel_on (e := (8, 41, (.bool false))) 8 rfl rfl (hon 8 (by kernel_rfl)) rfl
         replace ha := Aside0.mk ha
         have HB2 := Aside0.mk Q_HB2
         refine value_ (w1 := w') (v := (.bool false)) (wanted_on rfl rfl rfl (e41.trans (by first | rfl | (simp [*]; done)))) rfl ?_ ?_
         ·go_simp
          (try simp only [i64_w])
          try (first | rfl | assumption)
         refine hK.out _ _ ⟨(by rw [ha.out]; exact putSel_upk 10 hb_ rfl rfl rfl), Q_HB2⟩
        refine steps_cons ?_ ?_
        ·rintro b a w' ⟨ha, Q_HB2⟩ hb_ hon hoff
         refine ⟨_, rfl, fun K hK => ?_⟩
         have e43 : a.tmps[43]? = some ((.bool false)) := by rw [ha]; exact putSel_on (e := (10, 43, (.bool false))) 10 rfl rfl (hon 10 (by kernel_rfl)) rfl
         have e41 : a.tmps[41]? = some ((.bool false)) := by rw [ha]; exact putSel_on (e := (8, 41, (.bool false))) 8 rfl rfl (hon 8 (by kernel_rfl)) rfl
         replace ha := Aside0.mk ha
         have HB2 := Aside0.mk Q_HB2
         refine value_ (w1 := w') (v := (.bool false)) (wanted_on rfl rfl rfl (e41.trans (by first | rfl | (simp [*]; done)))) rfl ?_ ?_
         ·go_simp
          (try simp only [i64_w])
          try (first | rfl | assumption)
         refine hK.out _ _ ⟨(by rw [ha.out]; exact putSel_upk 11 hb_ rfl rfl rfl), Q_HB2⟩
        refine steps_cons ?_ ?_
        ·rintro b a w' ⟨ha, Q_HB2⟩ hb_ hon hoff
         refine ⟨_, rfl, fun K hK => ?_⟩
         have e44 : a.tmps[44]? = some ((.bool false)) := by rw [ha]; exact putSel_on (e := (11, 44, (.bool false))) 11 rfl rfl (hon 11 (by kernel_rfl)) rfl
         replace ha := Aside0.mk ha
         have HB2 := Aside0.mk Q_HB2
         refine off_ (wanted_off rfl rfl rfl (e44.trans (by first | rfl | (simp [*]; done)))) ?_
         refine hK.out _ _ ⟨(by rw [ha.out]; exact putSel_upk 12 hb_ rfl rfl rfl), Q_HB2⟩
        refine steps_cons ?_ ?_
        ·rintro b a w' ⟨ha, Q_HB2⟩ hb_ hon hoff
         refine ⟨_, rfl, fun K hK => ?_⟩
         have e44 : a.tmps[44]? = some ((.bool false)) := by rw [ha]; exact putSel_on (e := (11, 44, (.bool false))) 11 rfl rfl (hon 11 (by kernel_rfl)) rfl
         replace ha := Aside0.mk ha
         have HB2 := Aside0.mk Q_HB2
         refine off_ (wanted_off rfl rfl rfl (e44.trans (by first | rfl | (simp [*]; done)))) ?_
         refine hK.out _ _ ⟨(by rw [ha.out]; exact putSel_upk 13 hb_ rfl rfl rfl), Q_HB2⟩
        refine steps_cons ?_ ?_
        ·rintro b a w' ⟨ha, Q_HB2⟩ hb_ hon hoff
         refine ⟨_, rfl, fun K hK => ?_⟩
         have e44 : a.tmps[44]? = some ((.bool false)) := by rw [ha]; exact putSel_on (e := (11, 44, (.bool false))) 11 rfl rfl (hon 11 (by kernel_rfl)) rfl
         replace ha := Aside0.mk ha
         have HB2 := Aside0.mk Q_HB2
         refine off_ (wanted_off rfl rfl rfl (e44.trans (by first | rfl | (simp [*]; done)))) ?_
         refine hK.out _ _ ⟨(by rw [ha.out]; exact putSel_upk 14 hb_ rfl rfl rfl), Q_HB2⟩
        refine steps_cons ?_ ?_
        ·rintro b a w' ⟨ha, Q_HB2⟩ hb_ hon hoff
         refine ⟨_, rfl, fun K hK => ?_⟩
         have e44 : a.tmps[44]? = some ((.bool false)) := by rw [ha]; exact putSel_on (e := (11, 44, (.bool false))) 11 rfl rfl (hon 11 (by kernel_rfl)) rfl
         replace ha := Aside0.mk ha
         have HB2 := Aside0.mk Q_HB2
         refine off_ (wanted_off rfl rfl rfl (e44.trans (by first | rfl | (simp [*]; done)))) ?_
         refine hK.out _ _ ⟨(by rw [ha.out]; exact putSel_upk 15 hb_ rfl rfl rfl), Q_HB2⟩
        refine steps_cons ?_ ?_
        ·rintro b a w' ⟨ha, Q_HB2⟩ hb_ hon hoff
         refine ⟨_, rfl, fun K hK => ?_⟩
         have e44 : a.tmps[44]? = some ((.bool false)) := by rw [ha]; exact putSel_on (e := (11, 44, (.bool false))) 11 rfl rfl (hon 11 (by kernel_rfl)) rfl
         replace ha := Aside0.mk ha
         have HB2 := Aside0.mk Q_HB2
         refine off_ (wanted_off rfl rfl rfl (e44.trans (by first | rfl | (simp [*]; done)))) ?_
         refine hK.out _ _ ⟨(by rw [ha.out]; exact putSel_upk 16 hb_ rfl rfl rfl), Q_HB2⟩
        refine steps_cons ?_ ?_
        ·rintro b a w' ⟨ha, Q_HB2⟩ hb_ hon hoff
         refine ⟨_, rfl, fun K hK => ?_⟩
         have e44 : a.tmps[44]? = some ((.bool false)) := by rw [ha]; exact putSel_on (e := (11, 44, (.bool false))) 11 rfl rfl (hon 11 (by kernel_rfl)) rfl
         replace ha := Aside0.mk ha
         have HB2 := Aside0.mk Q_HB2
         refine off_ (wanted_off rfl rfl rfl (e44.trans (by first | rfl | (simp [*]; done)))) ?_
         refine hK.out _ _ ⟨(by rw [ha.out]; exact putSel_upk 17 hb_ rfl rfl rfl), Q_HB2⟩
        refine steps_cons ?_ ?_
        ·rintro b a w' ⟨ha, Q_HB2⟩ hb_ hon hoff
         refine ⟨_, rfl, fun K hK => ?_⟩
         have e44 : a.tmps[44]? = some ((.bool false)) := by rw [ha]; exact putSel_on (e := (11, 44, (.bool false))) 11 rfl rfl (hon 11 (by kernel_rfl)) rfl
         replace ha := Aside0.mk ha
         have HB2 := Aside0.mk Q_HB2
         refine off_ (wanted_off rfl rfl rfl (e44.trans (by first | rfl | (simp [*]; done)))) ?_
         refine hK.out _ _ ⟨(by rw [ha.out]; exact putSel_upk 18 hb_ rfl rfl rfl), Q_HB2⟩
        refine steps_cons ?_ ?_
        ·rintro b a w' ⟨ha, Q_HB2⟩ hb_ hon hoff
         refine ⟨_, rfl, fun K hK => ?_⟩
         have e44 : a.tmps[44]? = some ((.bool false)) := by rw [ha]; exact putSel_on (e := (11, 44, (.bool false))) 11 rfl rfl (hon 11 (by kernel_rfl)) rfl
         replace ha := Aside0.mk ha
         have HB2 := Aside0.mk Q_HB2
         refine off_ (wanted_off rfl rfl rfl (e44.trans (by first | rfl | (simp [*]; done)))) ?_
         refine hK.out _ _ ⟨(by rw [ha.out]; exact putSel_upk 19 hb_ rfl rfl rfl), Q_HB2⟩
        refine steps_cons ?_ ?_
        ·rintro b a w' ⟨ha, Q_HB2⟩ hb_ hon hoff
         refine ⟨_, rfl, fun K hK => ?_⟩
         have e44 : a.tmps[44]? = some ((.bool false)) := by rw [ha]; exact putSel_on (e := (11, 44, (.bool false))) 11 rfl rfl (hon 11 (by kernel_rfl)) rfl
         have e52 : a.tmps[52]? = some (undef) := by rw [ha]; exact putSel_on (e := (19, 52, undef)) 19 rfl rfl (hon 19 (by kernel_rfl)) rfl
         have e41 : a.tmps[41]? = some ((.bool false)) := by rw [ha]; exact putSel_on (e := (8, 41, (.bool false))) 8 rfl rfl (hon 8 (by kernel_rfl)) rfl
         replace ha := Aside0.mk ha
         have HB2 := Aside0.mk Q_HB2
         refine value_ (w1 := w') (v := (.bool false)) (wanted_on rfl rfl rfl (e41.trans (by first | rfl | (simp [*]; done)))) rfl ?_ ?_
         ·go_simp
          (try simp only [i64_w])
          try (first | rfl | assumption)
         refine hK.out _ _ ⟨(by rw [ha.out]; exact putSel_upk 20 hb_ rfl rfl rfl), Q_HB2⟩
        refine steps_cons ?_ ?_
        ·rintro b a w' ⟨ha, Q_HB2⟩ hb_ hon hoff
         refine ⟨_, rfl, fun K hK => ?_⟩
         have e41 : a.tmps[41]? = some ((.bool false)) := by rw [ha]; exact putSel_on (e := (8, 41, (.bool false))) 8 rfl rfl (hon 8 (by kernel_rfl)) rfl
         have e53 : a.tmps[53]? = some ((.bool false)) := by rw [ha]; exact putSel_on (e := (20, 53, (.bool false))) 20 rfl rfl (hon 20 (by kernel_rfl)) rfl
         replace ha := Aside0.mk ha
         have HB2 := Aside0.mk Q_HB2
         refine value_ (w1 := w') (v := (.bool false)) (by rfl) rfl ?_ ?_
         ·go_simp
          (try simp only [i64_w])
          try (first | rfl | assumption)
         refine hK.out _ _ ⟨(by rw [ha.out]; exact putSel_upk 21 hb_ rfl rfl rfl), Q_HB2⟩
        refine steps_cons ?_ ?_
        ·rintro b a w' ⟨ha, Q_HB2⟩ hb_ hon hoff
         refine ⟨_, rfl, fun K hK => ?_⟩
         have e54 : a.tmps[54]? = some ((.bool false)) := by rw [ha]; exact putSel_on (e := (21, 54, (.bool false))) 21 rfl rfl (hon 21 (by kernel_rfl)) rfl
         replace ha := Aside0.mk ha
         have HB2 := Aside0.mk Q_HB2
         refine value_ (w1 := w') (v := (.bool false)) (by rfl) rfl ?_ ?_
         ·go_simp
          (try simp only [i64_w])
          try (first | rfl | assumption)
         refine hK.out _ _ ⟨(by rw [ha.out]; exact putSel_upk 22 hb_ rfl rfl rfl), Q_HB2⟩
        exact steps_nil
       rintro b a we hall ⟨ha, Q_HB2⟩
       clear HB2
       have hb0_ := hall 0 (by kernel_rfl)
       have hb1_ := hall 1 (by kernel_rfl)
       have hb2_ := hall 2 (by kernel_rfl)
       have hb3_ := hall 3 (by kernel_rfl)
       have hb4_ := hall 4 (by kernel_rfl)
       have hb5_ := hall 5 (by kernel_rfl)
       have hb6_ := hall 6 (by kernel_rfl)
       have hb7_ := hall 7 (by kernel_rfl)
       have hb8_ := hall 8 (by kernel_rfl)
       have hb9_ := hall 9 (by kernel_rfl)
       have hb10_ := hall 10 (by kernel_rfl)
       have hb11_ := hall 11 (by kernel_rfl)
       have hb12_ := hall 12 (by kernel_rfl)
       have hb13_ := hall 13 (by kernel_rfl)
       have hb14_ := hall 14 (by kernel_rfl)
       have hb15_ := hall 15 (by kernel_rfl)
       have hb16_ := hall 16 (by kernel_rfl)
       have hb17_ := hall 17 (by kernel_rfl)
       have hb18_ := hall 18 (by kernel_rfl)
       have hb19_ := hall 19 (by kernel_rfl)
       have hb20_ := hall 20 (by kernel_rfl)
       have hb21_ := hall 21 (by kernel_rfl)
       have hb22_ := hall 22 (by kernel_rfl)
       subst ha
       simp only [putSel, hb0_, hb1_, hb2_, hb3_, hb4_, hb5_, hb6_, hb7_, hb8_, hb9_, hb10_, hb11_, hb12_, hb13_, hb14_, hb15_, hb16_, hb17_, hb18_, hb19_, hb20_, hb21_, hb22_, if_true, Act.put, List.setIfInBounds_toArray, List.set_cons_zero, List.set_cons_succ]
       have HB2 := Aside0.mk Q_HB2
       clear Q_HB2
       clear hall hb0_ hb1_ hb2_ hb3_ hb4_ hb5_ hb6_ hb7_ hb8_ hb9_ hb10_ hb11_ hb12_ hb13_ hb14_ hb15_ hb16_ hb17_ hb18_ hb19_ hb20_ hb21_ hb22_
       go_wp2_with fail
       go_roundw
       case rel => exact ⟨1, by have := HLT.out; omega, rfl, HST2.out, below_step HBO.out HB2.out⟩
       case measure => simp [intOf]; have := HLT.out; omega
      ·obtain ⟨i, rfl⟩ : ∃ i, j = i + 1 := ⟨j - 1, by omega⟩
       have HJI := Aside0.mk (show (((i + 1 : Nat) : Int)) = (i : Int) + 1 by omega)
       obtain ⟨y, hy⟩ : ∃ y, y = l.getD i z44 := ⟨_, rfl⟩
       have HPV := Aside0.mk (show prevO l (i + 1) = some y by rw [prevO_pos (by omega), hy]; rfl)
       obtain ⟨P, hP⟩ : ∃ P, P = ad.add (i * 3) := ⟨_, rfl⟩
       have HPRE := Aside0.mk (fun (W : World) (hW : Below w2.heap.size w2 W) => (show W.cell? P = some (.int .i64 y.f0.f0) ∧ W.cell? ⟨P.block, P.off + 1, none⟩ = some (.int .i64 y.f0.f1) ∧ W.cell? ⟨P.block, P.off + 2, none⟩ = some (.int .i64 y.f1) by
        obtain ⟨ad2, e2, q0, q1, q2⟩ := at_nt (NC.below HC.out (below_step HBO.out hW)) i (by have := HLT.out; omega)
        obtain rfl := Option.some.inj e2
        rw [hy, hP]
        exact ⟨q0, q1, q2⟩))
       have eP : ad.add (i * 3) = P := hP.symm
       have hi1 : (i : Int) < (l.length : Int) := by have := HLT.out; omega
       have hsub : wrap64 ((i : Int) + 1 - 1) = (i : Int) := by unfold wrap64; omega
       have hsub2 : wrap64 (i : Int) = (i : Int) := by unfold wrap64; omega
       have hpos : (0 : Int) < (i : Int) + 1 := by omega
       obtain ⟨bq, hbq⟩ : ∃ bq, bq = lessN y x := ⟨_, rfl⟩
       have HLE := Aside0.mk (fun W => less_c y x W)
       rw [← hbq] at HLE
       have HBB := Aside0.mk hbq
       clear hP hy hbq hj0
       rw [HJI.out]
       refine start_ (n := 23) (S := fun w' => True) (ds := []) #[false, false, false, false, false, false, false, false, false, false, false, false, false, false, false, false, false, false, false, false, false, false, false] (by kernel_rfl) rfl rfl trivial (fun hHeld => ?_); refine with_tabW MsgF.tab5 MsgF.bits5 (fun HT_ HW_ => ?_)
       refine inv_at [0, 1, 2, 3, 4, 5, 6, 7, 8, 9, 10, 11, 12, 13, 14, 15, 16, 17, 18, 19, 20, 21, 22] (fun a0_ b a w' => a = putSel a0_ b [(0, 33, (.pointer (some ⟨g, 2, none⟩))), (1, 34, (.int .i64 x.f1)), (2, 35, (.bool false)), (3, 36, (.bool false)), (4, 37, (.pointer (some ⟨g, 2, none⟩))), (5, 38, (.int .i64 x.f1)), (6, 39, (.bool false)), (7, 40, (.bool false)), (8, 41, (.bool false)), (9, 42, (.int .i64 ((i : Int) + 1))), (10, 43, (.bool true)), (11, 44, (.bool true)), (12, 45, (.slice (some ad) l.length c)), (13, 46, (.int .i64 ((i : Int) + 1))), (14, 47, (.int .i64 (i : Int))), (15, 48, (.pointer (some P))), (16, 49, (.agg #[.int .i64 y.f0.f0, .int .i64 y.f0.f1, .int .i64 y.f1])), (17, 50, (.agg #[.int .i64 x.f0.f0, .int .i64 x.f0.f1, .int .i64 x.f1])), (18, 51, (.bool bq)), (19, 52, (.bool (!bq))), (20, 53, (.bool (!bq))), (21, 54, (.bool (!bq))), (22, 32, (.bool (!bq)))] ∧ (Below w2.heap.size w2 w')) HT_.out HW_.out (by kernel_rfl) (by kernel_rfl) ?_ ?_ ?_
       ·exact ⟨by simp only [putSel, Bool.false_eq_true, if_false], below_drew1 HB2.out⟩
       ·skip
        clear HB2
        refine steps_cons ?_ ?_
        ·rintro b a w' ⟨ha, Q_HB2⟩ hb_ hon hoff
         refine ⟨_, rfl, fun K hK => ?_⟩
         have e4 : a.tmps[4]? = some ((.pointer (some ⟨g, 0, none⟩))) := by rw [ha]; exact (putSel_off rfl).trans rfl
         replace ha := Aside0.mk ha
         have HB2 := Aside0.mk Q_HB2
         refine value_ (w1 := w') (v := (.pointer (some ⟨g, 2, none⟩))) (by rfl) rfl ?_ ?_
         ·go_simp
          (try simp only [i64_w])
          try (first | rfl | assumption)
         refine hK.out _ _ ⟨(by rw [ha.out]; exact putSel_upk 0 hb_ rfl rfl rfl), Q_HB2⟩
        refine steps_cons ?_ ?_
        ·rintro b a w' ⟨ha, Q_HB2⟩ hb_ hon hoff
         refine ⟨_, rfl, fun K hK => ?_⟩
         have e33 : a.tmps[33]? = some ((.pointer (some ⟨g, 2, none⟩))) := by rw [ha]; exact putSel_on (e := (0, 33, (.pointer (some ⟨g, 2, none⟩)))) 0 rfl rfl (hon 0 (by kernel_rfl)) rfl
         replace ha := Aside0.mk ha
         have HB2 := Aside0.mk Q_HB2
         obtain ⟨x0_, x1_, x2_⟩ := HALL.out _ HB2.out
         refine value_ (w1 := w') (v := (.int .i64 x.f1)) (by rfl) rfl ?_ ?_
         ·go_simp
          (try simp only [i64_w])
          try (first | rfl | assumption)
         refine hK.out _ _ ⟨(by rw [ha.out]; exact putSel_upk 1 hb_ rfl rfl rfl), Q_HB2⟩
        refine steps_cons ?_ ?_
        ·rintro b a w' ⟨ha, Q_HB2⟩ hb_ hon hoff
         refine ⟨_, rfl, fun K hK => ?_⟩
         have e34 : a.tmps[34]? = some ((.int .i64 x.f1)) := by rw [ha]; exact putSel_on (e := (1, 34, (.int .i64 x.f1))) 1 rfl rfl (hon 1 (by kernel_rfl)) rfl
         replace ha := Aside0.mk ha
         have HB2 := Aside0.mk Q_HB2
         refine value_ (w1 := w') (v := (.bool false)) (by rfl) rfl ?_ ?_
         ·go_simp
          (try simp only [i64_w])
          try (first | rfl | assumption)
         refine hK.out _ _ ⟨(by rw [ha.out]; exact putSel_upk 2 hb_ rfl rfl rfl), Q_HB2⟩
        refine steps_cons ?_ ?_
        ·rintro b a w' ⟨ha, Q_HB2⟩ hb_ hon hoff
         refine ⟨_, rfl, fun K hK => ?_⟩
         have e35 : a.tmps[35]? = some ((.bool false)) := by rw [ha]; exact putSel_on (e := (2, 35, (.bool false))) 2 rfl rfl (hon 2 (by kernel_rfl)) rfl
         replace ha := Aside0.mk ha
         have HB2 := Aside0.mk Q_HB2
         refine value_ (w1 := w') (v := (.bool false)) (by rfl) rfl ?_ ?_
         ·go_simp
          (try simp only [i64_w])
          try (first | rfl | assumption)
         refine hK.out _ _ ⟨(by rw [ha.out]; exact putSel_upk 3 hb_ rfl rfl rfl), Q_HB2⟩
        refine steps_cons ?_ ?_
        ·rintro b a w' ⟨ha, Q_HB2⟩ hb_ hon hoff
         refine ⟨_, rfl, fun K hK => ?_⟩
         have e4 : a.tmps[4]? = some ((.pointer (some ⟨g, 0, none⟩))) := by rw [ha]; exact (putSel_off rfl).trans rfl
         have e36 : a.tmps[36]? = some ((.bool false)) := by rw [ha]; exact putSel_on (e := (3, 36, (.bool false))) 3 rfl rfl (hon 3 (by kernel_rfl)) rfl
         replace ha := Aside0.mk ha
         have HB2 := Aside0.mk Q_HB2
         refine value_ (w1 := w') (v := (.pointer (some ⟨g, 2, none⟩))) (wanted_on rfl rfl rfl (e36.trans (by first | rfl | (simp [*]; done)))) rfl ?_ ?_
         ·go_simp
          (try simp only [i64_w])
          try (first | rfl | assumption)
         refine hK.out _ _ ⟨(by rw [ha.out]; exact putSel_upk 4 hb_ rfl rfl rfl), Q_HB2⟩
        refine steps_cons ?_ ?_
        ·rintro b a w' ⟨ha, Q_HB2⟩ hb_ hon hoff
         refine ⟨_, rfl, fun K hK => ?_⟩
         have e37 : a.tmps[37]? = some ((.pointer (some ⟨g, 2, none⟩))) := by rw [ha]; exact putSel_on (e := (4, 37, (.pointer (some ⟨g, 2, none⟩)))) 4 rfl rfl (hon 4 (by kernel_rfl)) rfl
         have e36 : a.tmps[36]? = some ((.bool false)) := by rw [ha]; exact putSel_on (e := (3, 36, (.bool false))) 3 rfl rfl (hon 3 (by kernel_rfl)) rfl
         replace ha := Aside0.mk ha
         have HB2 := Aside0.mk Q_HB2
         obtain ⟨x0_, x1_, x2_⟩ := HALL.out _ HB2.out
         refine value_ (w1 := w') (v := (.int .i64 x.f1)) (wanted_on rfl rfl rfl (e36.trans (by first | rfl | (simp [*]; done)))) rfl ?_ ?_
         ·go_simp
          (try simp only [i64_w])
          try (first | rfl | assumption)
         refine hK.out _ _ ⟨(by rw [ha.out]; exact putSel_upk 5 hb_ rfl rfl rfl), Q_HB2⟩
        refine steps_cons ?_ ?_
        ·rintro b a w' ⟨ha, Q_HB2⟩ hb_ hon hoff
         refine ⟨_, rfl, fun K hK => ?_⟩
         have e38 : a.tmps[38]? = some ((.int .i64 x.f1)) := by rw [ha]; exact putSel_on (e := (5, 38, (.int .i64 x.f1))) 5 rfl rfl (hon 5 (by kernel_rfl)) rfl
         have e36 : a.tmps[36]? = some ((.bool false)) := by rw [ha]; exact putSel_on (e := (3, 36, (.bool false))) 3 rfl rfl (hon 3 (by kernel_rfl)) rfl
         replace ha := Aside0.mk ha
         have HB2 := Aside0.mk Q_HB2
         refine value_ (w1 := w') (v := (.bool false)) (wanted_on rfl rfl rfl (e36.trans (by first | rfl | (simp [*]; done)))) rfl ?_ ?_
         ·go_simp
          (try simp only [i64_w])
          try (first | rfl | assumption)
         refine hK.out _ _ ⟨(by rw [ha.out]; exact putSel_upk 6 hb_ rfl rfl rfl), Q_HB2⟩
        refine steps_cons ?_ ?_
        ·rintro b a w' ⟨ha, Q_HB2⟩ hb_ hon hoff
         refine ⟨_, rfl, fun K hK => ?_⟩
         have e36 : a.tmps[36]? = some ((.bool false)) := by rw [ha]; exact putSel_on (e := (3, 36, (.bool false))) 3 rfl rfl (hon 3 (by kernel_rfl)) rfl
         have e39 : a.tmps[39]? = some ((.bool false)) := by rw [ha]; exact putSel_on (e := (6, 39, (.bool false))) 6 rfl rfl (hon 6 (by kernel_rfl)) rfl
         replace ha := Aside0.mk ha
         have HB2 := Aside0.mk Q_HB2
         refine value_ (w1 := w') (v := (.bool false)) (by rfl) rfl ?_ ?_
         ·go_simp
          (try simp only [i64_w])
          try (first | rfl | assumption)
         refine hK.out _ _ ⟨(by rw [ha.out]; exact putSel_upk 7 hb_ rfl rfl rfl), Q_HB2⟩
        refine steps_cons ?_ ?_
        ·rintro b a w' ⟨ha, Q_HB2⟩ hb_ hon hoff
         refine ⟨_, rfl, fun K hK => ?_⟩
         have e40 : a.tmps[40]? = some ((.bool false)) := by rw [ha]; exact putSel_on (e := (7, 40, (.bool false))) 7 rfl rfl (hon 7 (by kernel_rfl)) rfl
         replace ha := Aside0.mk ha
         have HB2 := Aside0.mk Q_HB2
         refine value_ (w1 := w') (v := (.bool false)) (by rfl) rfl ?_ ?_
         ·go_simp
          (try simp only [i64_w])
          try (first | rfl | assumption)
         refine hK.out _ _ ⟨(by rw [ha.out]; exact putSel_upk 8 hb_ rfl rfl rfl), Q_HB2⟩
        refine steps_cons ?_ ?_
        ·rintro b a w' ⟨ha, Q_HB2⟩ hb_ hon hoff
         refine ⟨_, rfl, fun K hK => ?_⟩
         have e3 : a.tmps[3]? = some ((.int .i64 ((i : Int) + 1))) := by rw [ha]; exact (putSel_off rfl).trans rfl
         have e41 : a.tmps[41]? = some ((.bool false)) := by rw [ha]; exact putSel_on (e := (8, 41, (.bool false))) 8 rfl rfl (hon 8 (by kernel_rfl)) rfl
         replace ha := Aside0.mk ha
         have HB2 := Aside0.mk Q_HB2
         refine value_ (w1 := w') (v := (.int .i64 ((i : Int) + 1))) (wanted_on rfl rfl rfl (e41.trans (by first | rfl | (simp [*]; done)))) rfl ?_ ?_
         ·go_simp
          (try simp only [i64_w])
          try (first | rfl | assumption)
         refine hK.out _ _ ⟨(by rw [ha.out]; exact putSel_upk 9 hb_ rfl rfl rfl), Q_HB2⟩
        refine steps_cons ?_ ?_
        ·rintro b a w' ⟨ha, Q_HB2⟩ hb_ hon hoff
         refine ⟨_, rfl, fun K hK => ?_⟩
         have e42 : a.tmps[42]? = some ((.int .i64 ((i : Int) + 1))) := by rw [ha]; exact putSel_on (e := (9, 42, (.int .i64 ((i : Int) + 1)))) 9 rfl rfl (hon 9 (by kernel_rfl)) rfl
         have e41 : a.tmps[41]? = some ((.bool false)) := by rw [ha]; exact putSel_on (e := (8, 41, (.bool false))) 8 rfl rfl (hon 8 (by kernel_rfl)) rfl
         replace ha := Aside0.mk ha
         have HB2 := Aside0.mk Q_HB2
         refine value_ (w1 := w') (v := (.bool true)) (wanted_on rfl rfl rfl (e41.trans (by first | rfl | (simp [*]; done)))) rfl ?_ ?_
         ·go_simp
          (try simp only [i64_w])
          try (first | rfl | assumption)
         refine hK.out _ _ ⟨(by rw [ha.out]; exact putSel_upk 10 hb_ rfl rfl rfl), Q_HB2⟩
        refine steps_cons ?_ ?_
        ·rintro b a w' ⟨ha, Q_HB2⟩ hb_ hon hoff
         refine ⟨_, rfl, fun K hK => ?_⟩
         have e43 : a.tmps[43]? = some ((.bool true)) := by rw [ha]; exact putSel_on (e := (10, 43, (.bool true))) 10 rfl rfl (hon 10 (by kernel_rfl)) rfl
         have e41 : a.tmps[41]? = some ((.bool false)) := by rw [ha]; exact putSel_on (e := (8, 41, (.bool false))) 8 rfl rfl (hon 8 (by kernel_rfl)) rfl
         replace ha := Aside0.mk ha
         have HB2 := Aside0.mk Q_HB2
         refine value_ (w1 := w') (v := (.bool true)) (wanted_on rfl rfl rfl (e41.trans (by first | rfl | (simp [*]; done)))) rfl ?_ ?_
         ·go_simp
          (try simp only [i64_w])
          try (first | rfl | assumption)
         refine hK.out _ _ ⟨(by rw [ha.out]; exact putSel_upk 11 hb_ rfl rfl rfl), Q_HB2⟩
        refine steps_cons ?_ ?_
        ·rintro b a w' ⟨ha, Q_HB2⟩ hb_ hon hoff
         refine ⟨_, rfl, fun K hK => ?_⟩
         have e0 : a.tmps[0]? = some ((.slice (some ad) l.length c)) := by rw [ha]; exact (putSel_off rfl).trans rfl
         have e44 : a.tmps[44]? = some ((.bool true)) := by rw [ha]; exact putSel_on (e := (11, 44, (.bool true))) 11 rfl rfl (hon 11 (by kernel_rfl)) rfl
         replace ha := Aside0.mk ha
         have HB2 := Aside0.mk Q_HB2
         refine value_ (w1 := w') (v := (.slice (some ad) l.length c)) (wanted_on rfl rfl rfl (e44.trans (by first | rfl | (simp [*]; done)))) rfl ?_ ?_
         ·go_simp
          (try simp only [i64_w])
          try (first | rfl | assumption)
         refine hK.out _ _ ⟨(by rw [ha.out]; exact putSel_upk 12 hb_ rfl rfl rfl), Q_HB2⟩
        refine steps_cons ?_ ?_
        ·rintro b a w' ⟨ha, Q_HB2⟩ hb_ hon hoff
         refine ⟨_, rfl, fun K hK => ?_⟩
         have e3 : a.tmps[3]? = some ((.int .i64 ((i : Int) + 1))) := by rw [ha]; exact (putSel_off rfl).trans rfl
         have e44 : a.tmps[44]? = some ((.bool true)) := by rw [ha]; exact putSel_on (e := (11, 44, (.bool true))) 11 rfl rfl (hon 11 (by kernel_rfl)) rfl
         replace ha := Aside0.mk ha
         have HB2 := Aside0.mk Q_HB2
         refine value_ (w1 := w') (v := (.int .i64 ((i : Int) + 1))) (wanted_on rfl rfl rfl (e44.trans (by first | rfl | (simp [*]; done)))) rfl ?_ ?_
         ·go_simp
          (try simp only [i64_w])
          try (first | rfl | assumption)
         refine hK.out _ _ ⟨(by rw [ha.out]; exact putSel_upk 13 hb_ rfl rfl rfl), Q_HB2⟩
        refine steps_cons ?_ ?_
        ·rintro b a w' ⟨ha, Q_HB2⟩ hb_ hon hoff
         refine ⟨_, rfl, fun K hK => ?_⟩
         have e46 : a.tmps[46]? = some ((.int .i64 ((i : Int) + 1))) := by rw [ha]; exact putSel_on (e := (13, 46, (.int .i64 ((i : Int) + 1)))) 13 rfl rfl (hon 13 (by kernel_rfl)) rfl
         have e44 : a.tmps[44]? = some ((.bool true)) := by rw [ha]; exact putSel_on (e := (11, 44, (.bool true))) 11 rfl rfl (hon 11 (by kernel_rfl)) rfl
         replace ha := Aside0.mk ha
         have HB2 := Aside0.mk Q_HB2
         refine value_ (w1 := w') (v := (.int .i64 (i : Int))) (wanted_on rfl rfl rfl (e44.trans (by first | rfl | (simp [*]; done)))) rfl ?_ ?_
         ·go_simp
          (try simp only [i64_w])
          try (first | rfl | assumption)
         refine hK.out _ _ ⟨(by rw [ha.out]; exact putSel_upk 14 hb_ rfl rfl rfl), Q_HB2⟩
        refine steps_cons ?_ ?_
        ·rintro b a w' ⟨ha, Q_HB2⟩ hb_ hon hoff
         refine ⟨_, rfl, fun K hK => ?_⟩
         have e45 : a.tmps[45]? = some ((.slice (some ad) l.length c)) := by rw [ha]; exact putSel_on (e := (12, 45, (.slice (some ad) l.length c))) 12 rfl rfl (hon 12 (by kernel_rfl)) rfl
         have e47 : a.tmps[47]? = some ((.int .i64 (i : Int))) := by rw [ha]; exact putSel_on (e := (14, 47, (.int .i64 (i : Int)))) 14 rfl rfl (hon 14 (by kernel_rfl)) rfl
         have e44 : a.tmps[44]? = some ((.bool true)) := by rw [ha]; exact putSel_on (e := (11, 44, (.bool true))) 11 rfl rfl (hon 11 (by kernel_rfl)) rfl
         replace ha := Aside0.mk ha
         have HB2 := Aside0.mk Q_HB2
         refine value_ (w1 := w') (v := (.pointer (some P))) (wanted_on rfl rfl rfl (e44.trans (by first | rfl | (simp [*]; done)))) rfl ?_ ?_
         ·go_simp
          (try simp only [i64_w])
          try (first | rfl | assumption)
         refine hK.out _ _ ⟨(by rw [ha.out]; exact putSel_upk 15 hb_ rfl rfl rfl), Q_HB2⟩
        refine steps_cons ?_ ?_
        ·rintro b a w' ⟨ha, Q_HB2⟩ hb_ hon hoff
         refine ⟨_, rfl, fun K hK => ?_⟩
         have e48 : a.tmps[48]? = some ((.pointer (some P))) := by rw [ha]; exact putSel_on (e := (15, 48, (.pointer (some P)))) 15 rfl rfl (hon 15 (by kernel_rfl)) rfl
         have e44 : a.tmps[44]? = some ((.bool true)) := by rw [ha]; exact putSel_on (e := (11, 44, (.bool true))) 11 rfl rfl (hon 11 (by kernel_rfl)) rfl
         replace ha := Aside0.mk ha
         have HB2 := Aside0.mk Q_HB2
         obtain ⟨x0_, x1_, x2_⟩ := HPRE.out _ HB2.out
         refine value_ (w1 := w') (v := (.agg #[.int .i64 y.f0.f0, .int .i64 y.f0.f1, .int .i64 y.f1])) (wanted_on rfl rfl rfl (e44.trans (by first | rfl | (simp [*]; done)))) rfl ?_ ?_
         ·go_simp
          (try simp only [i64_w])
          try (first | rfl | assumption)
         refine hK.out _ _ ⟨(by rw [ha.out]; exact putSel_upk 16 hb_ rfl rfl rfl), Q_HB2⟩
        refine steps_cons ?_ ?_
        ·rintro b a w' ⟨ha, Q_HB2⟩ hb_ hon hoff
         refine ⟨_, rfl, fun K hK => ?_⟩
         have e4 : a.tmps[4]? = some ((.pointer (some ⟨g, 0, none⟩))) := by rw [ha]; exact (putSel_off rfl).trans rfl
         have e44 : a.tmps[44]? = some ((.bool true)) := by rw [ha]; exact putSel_on (e := (11, 44, (.bool true))) 11 rfl rfl (hon 11 (by kernel_rfl)) rfl
         replace ha := Aside0.mk ha
         have HB2 := Aside0.mk Q_HB2
         obtain ⟨x0_, x1_, x2_⟩ := HALL.out _ HB2.out
         refine value_ (w1 := w') (v := (.agg #[.int .i64 x.f0.f0, .int .i64 x.f0.f1, .int .i64 x.f1])) (wanted_on rfl rfl rfl (e44.trans (by first | rfl | (simp [*]; done)))) rfl ?_ ?_
         ·go_simp
          (try simp only [i64_w])
          try (first | rfl | assumption)
         refine hK.out _ _ ⟨(by rw [ha.out]; exact putSel_upk 17 hb_ rfl rfl rfl), Q_HB2⟩
        refine steps_cons ?_ ?_
        ·rintro b a w' ⟨ha, Q_HB2⟩ hb_ hon hoff
         refine ⟨_, rfl, fun K hK => ?_⟩
         have e49 : a.tmps[49]? = some ((.agg #[.int .i64 y.f0.f0, .int .i64 y.f0.f1, .int .i64 y.f1])) := by rw [ha]; exact putSel_on (e := (16, 49, (.agg #[.int .i64 y.f0.f0, .int .i64 y.f0.f1, .int .i64 y.f1]))) 16 rfl rfl (hon 16 (by kernel_rfl)) rfl
         have e50 : a.tmps[50]? = some ((.agg #[.int .i64 x.f0.f0, .int .i64 x.f0.f1, .int .i64 x.f1])) := by rw [ha]; exact putSel_on (e := (17, 50, (.agg #[.int .i64 x.f0.f0, .int .i64 x.f0.f1, .int .i64 x.f1]))) 17 rfl rfl (hon 17 (by kernel_rfl)) rfl
         have e44 : a.tmps[44]? = some ((.bool true)) := by rw [ha]; exact putSel_on (e := (11, 44, (.bool true))) 11 rfl rfl (hon 11 (by kernel_rfl)) rfl
         replace ha := Aside0.mk ha
         have HB2 := Aside0.mk Q_HB2
         refine goes_ Try.func55 (by kernel_rfl) rfl #[.agg #[.int .i64 y.f0.f0, .int .i64 y.f0.f1, .int .i64 y.f1], .agg #[.int .i64 x.f0.f0, .int .i64 x.f0.f1, .int .i64 x.f1]] (wanted_on rfl rfl rfl (e44.trans (by first | rfl | (simp [*]; done)))) rfl rfl (by first | (simp only [List.map_toArray, List.map_cons, List.map_nil, Act.eval, Array.getD_eq_getD_getElem?, Option.getD_some, e49, e50, e44]; done) | (simp only [List.map_toArray, List.map_cons, List.map_nil, Act.eval, Array.getD_eq_getD_getElem?, Option.getD_some, e49, e50, e44]; rfl)) ?_
         refine (HLE.out _).mono ?_
         rintro e w1_ ⟨rfl, hb⟩
         refine ⟨_, rfl, ?_⟩
         refine hK.out _ _ ⟨(by rw [ha.out]; exact putSel_upk 18 hb_ rfl rfl rfl), below_step HB2.out hb⟩
        refine steps_cons ?_ ?_
        ·rintro b a w' ⟨ha, Q_HB2⟩ hb_ hon hoff
         refine ⟨_, rfl, fun K hK => ?_⟩
         have e51 : a.tmps[51]? = some ((.bool bq)) := by rw [ha]; exact putSel_on (e := (18, 51, (.bool bq))) 18 rfl rfl (hon 18 (by kernel_rfl)) rfl
         have e44 : a.tmps[44]? = some ((.bool true)) := by rw [ha]; exact putSel_on (e := (11, 44, (.bool true))) 11 rfl rfl (hon 11 (by kernel_rfl)) rfl
         replace ha := Aside0.mk ha
         have HB2 := Aside0.mk Q_HB2
         refine value_ (w1 := w') (v := (.bool (!bq))) (wanted_on rfl rfl rfl (e44.trans (by first | rfl | (simp [*]; done)))) rfl ?_ ?_
         ·go_simp
          (try simp only [i64_w])
          try (first | rfl | assumption)
         refine hK.out _ _ ⟨(by rw [ha.out]; exact putSel_upk 19 hb_ rfl rfl rfl), Q_HB2⟩
        refine steps_cons ?_ ?_
        ·rintro b a w' ⟨ha, Q_HB2⟩ hb_ hon hoff
         refine ⟨_, rfl, fun K hK => ?_⟩
         have e44 : a.tmps[44]? = some ((.bool true)) := by rw [ha]; exact putSel_on (e := (11, 44, (.bool true))) 11 rfl rfl (hon 11 (by kernel_rfl)) rfl
         have e52 : a.tmps[52]? = some ((.bool (!bq))) := by rw [ha]; exact putSel_on (e := (19, 52, (.bool (!bq)))) 19 rfl rfl (hon 19 (by kernel_rfl)) rfl
         have e41 : a.tmps[41]? = some ((.bool false)) := by rw [ha]; exact putSel_on (e := (8, 41, (.bool false))) 8 rfl rfl (hon 8 (by kernel_rfl)) rfl
         replace ha := Aside0.mk ha
         have HB2 := Aside0.mk Q_HB2
         refine value_ (w1 := w') (v := (.bool (!bq))) (wanted_on rfl rfl rfl (e41.trans (by first | rfl | (simp [*]; done)))) rfl ?_ ?_
         ·go_simp
          (try simp only [i64_w])
          try (first | rfl | assumption)
         refine hK.out _ _ ⟨(by rw [ha.out]; exact putSel_upk 20 hb_ rfl rfl rfl), Q_HB2⟩
        refine steps_cons ?_ ?_
        ·rintro b a w' ⟨ha, Q_HB2⟩ hb_ hon hoff
         refine ⟨_, rfl, fun K hK => ?_⟩
         have e41 : a.tmps[41]? = some ((.bool false)) := by rw [ha]; exact putSel_on (e := (8, 41, (.bool false))) 8 rfl rfl (hon 8 (by kernel_rfl)) rfl
         have e53 : a.tmps[53]? = some ((.bool (!bq))) := by rw [ha]; exact putSel_on (e := (20, 53, (.bool (!bq)))) 20 rfl rfl (hon 20 (by kernel_rfl)) rfl
         replace ha := Aside0.mk ha
         have HB2 := Aside0.mk Q_HB2
         refine value_ (w1 := w') (v := (.bool (!bq))) (by rfl) rfl ?_ ?_
         ·go_simp
          (try simp only [i64_w])
          try (first | rfl | assumption)
         refine hK.out _ _ ⟨(by rw [ha.out]; exact putSel_upk 21 hb_ rfl rfl rfl), Q_HB2⟩
        refine steps_cons ?_ ?_
        ·rintro b a w' ⟨ha, Q_HB2⟩ hb_ hon hoff
         refine ⟨_, rfl, fun K hK => ?_⟩
         have e54 : a.tmps[54]? = some ((.bool (!bq))) := by rw [ha]; exact putSel_on (e := (21, 54, (.bool (!bq)))) 21 rfl rfl (hon 21 (by kernel_rfl)) rfl
         replace ha := Aside0.mk ha
         have HB2 := Aside0.mk Q_HB2
         refine value_ (w1 := w') (v := (.bool (!bq))) (by rfl) rfl ?_ ?_
         ·go_simp
          (try simp only [i64_w])
          try (first | rfl | assumption)
         refine hK.out _ _ ⟨(by rw [ha.out]; exact putSel_upk 22 hb_ rfl rfl rfl), Q_HB2⟩
        exact steps_nil
       rintro b a we hall ⟨ha, Q_HB2⟩
       clear HB2
       have hb0_ := hall 0 (by kernel_rfl)
       have hb1_ := hall 1 (by kernel_rfl)
       have hb2_ := hall 2 (by kernel_rfl)
       have hb3_ := hall 3 (by kernel_rfl)
       have hb4_ := hall 4 (by kernel_rfl)
       have hb5_ := hall 5 (by kernel_rfl)
       have hb6_ := hall 6 (by kernel_rfl)
       have hb7_ := hall 7 (by kernel_rfl)
       have hb8_ := hall 8 (by kernel_rfl)
       have hb9_ := hall 9 (by kernel_rfl)
       have hb10_ := hall 10 (by kernel_rfl)
       have hb11_ := hall 11 (by kernel_rfl)
       have hb12_ := hall 12 (by kernel_rfl)
       have hb13_ := hall 13 (by kernel_rfl)
       have hb14_ := hall 14 (by kernel_rfl)
       have hb15_ := hall 15 (by kernel_rfl)
       have hb16_ := hall 16 (by kernel_rfl)
       have hb17_ := hall 17 (by kernel_rfl)
       have hb18_ := hall 18 (by kernel_rfl)
       have hb19_ := hall 19 (by kernel_rfl)
       have hb20_ := hall 20 (by kernel_rfl)
       have hb21_ := hall 21 (by kernel_rfl)
       have hb22_ := hall 22 (by kernel_rfl)
       subst ha
       simp only [putSel, hb0_, hb1_, hb2_, hb3_, hb4_, hb5_, hb6_, hb7_, hb8_, hb9_, hb10_, hb11_, hb12_, hb13_, hb14_, hb15_, hb16_, hb17_, hb18_, hb19_, hb20_, hb21_, hb22_, if_true, Act.put, List.setIfInBounds_toArray, List.set_cons_zero, List.set_cons_succ]
       have HB2 := Aside0.mk Q_HB2
       clear Q_HB2
       clear hall hb0_ hb1_ hb2_ hb3_ hb4_ hb5_ hb6_ hb7_ hb8_ hb9_ hb10_ hb11_ hb12_ hb13_ hb14_ hb15_ hb16_ hb17_ hb18_ hb19_ hb20_ hb21_ hb22_
       cases bq with
       | false =>
        have HF := Aside0.mk (show fineL l = false by unfold fineL; rw [← HO.out, HST.out, HOK.out, HPV.out]; show ((true && lessN y x) && _ && _) = false; rw [← HBB.out]; rfl)
        have FIN := Aside0.mk (fun W (hW : Below w2.heap.size w2 W) => (show (Ending.returned (.bool false) = Ending.returned (.bool (fineL l)) ∧ Below w.heap.size w W) from ⟨by rw [HF.out], below_step HBO.out hW⟩))
        clear HF
        go_wp2_with fail
        go_ret
        exact FIN.out _ HB2.out
       | true =>
        have HST2 := Aside0.mk (show fineR (prevO l (i + 1 + 1)) (l.drop (i + 1 + 1)) = fineR none l by rw [← HO.out, HST.out, HOK.out, HPV.out]; show _ = ((true && lessN y x) && _); rw [← HBB.out]; rfl)
        go_wp2_with fail
        go_roundw
        case rel => exact ⟨i + 1 + 1, by have := HLT.out; omega, by go_num, HST2.out, below_step HBO.out HB2.out⟩
        case measure => simp [intOf]; have := HLT.out; omega
     ·have d2 : 65536 < x.f1 := by omega
      have HF := Aside0.mk (show fineL l = false by unfold fineL; rw [← HO.out, HST.out, okX_code (fun h => c2 h.2)]; rfl)
      have FIN := Aside0.mk (fun W (hW : Below w2.heap.size w2 W) => (show (Ending.returned (.bool false) = Ending.returned (.bool (fineL l)) ∧ Below w.heap.size w W) from ⟨by rw [HF.out], below_step HBO.out hW⟩))
      clear HF c2
      refine start_ (n := 23) (S := fun w' => True) (ds := []) #[false, false, false, false, false, false, false, false, false, false, false, false, false, false, false, false, false, false, false, false, false, false, false] (by kernel_rfl) rfl rfl trivial (fun hHeld => ?_); refine with_tabW MsgF.tab5 MsgF.bits5 (fun HT_ HW_ => ?_)
      refine inv_at [0, 1, 2, 3, 4, 5, 6, 7, 8, 9, 10, 11, 12, 13, 14, 15, 16, 17, 18, 19, 20, 21, 22] (fun a0_ b a w' => a = putSel a0_ b [(0, 33, (.pointer (some ⟨g, 2, none⟩))), (1, 34, (.int .i64 x.f1)), (2, 35, (.bool false)), (3, 36, (.bool false)), (4, 37, (.pointer (some ⟨g, 2, none⟩))), (5, 38, (.int .i64 x.f1)), (6, 39, (.bool true)), (7, 40, (.bool true)), (8, 41, (.bool true)), (9, 42, undef), (10, 43, undef), (11, 44, undef), (12, 45, undef), (13, 46, undef), (14, 47, undef), (15, 48, undef), (16, 49, undef), (17, 50, undef), (18, 51, undef), (19, 52, undef), (20, 53, undef), (21, 54, (.bool true)), (22, 32, (.bool true))] ∧ (Below w2.heap.size w2 w')) HT_.out HW_.out (by kernel_rfl) (by kernel_rfl) ?_ ?_ ?_
      ·exact ⟨by simp only [putSel, Bool.false_eq_true, if_false], below_drew1 HB2.out⟩
      ·skip
       clear HB2
       refine steps_cons ?_ ?_
       ·rintro b a w' ⟨ha, Q_HB2⟩ hb_ hon hoff
        refine ⟨_, rfl, fun K hK => ?_⟩
        have e4 : a.tmps[4]? = some ((.pointer (some ⟨g, 0, none⟩))) := by rw [ha]; exact (putSel_off rfl).trans rfl
        replace ha := Aside0.mk ha
        have HB2 := Aside0.mk Q_HB2
        refine value_ (w1 := w') (v := (.pointer (some ⟨g, 2, none⟩))) (by rfl) rfl ?_ ?_
        ·go_simp
         (try simp only [i64_w])
         try (first | rfl | assumption)
        refine hK.out _ _ ⟨(by rw [ha.out]; exact putSel_upk 0 hb_ rfl rfl rfl), Q_HB2⟩
       refine steps_cons ?_ ?_
       ·rintro b a w' ⟨ha, Q_HB2⟩ hb_ hon hoff
        refine ⟨_, rfl, fun K hK => ?_⟩
        have e33 : a.tmps[33]? = some ((.pointer (some ⟨g, 2, none⟩))) := by rw [ha]; exact putSel_on (e := (0, 33, (.pointer (some ⟨g, 2, none⟩)))) 0 rfl rfl (hon 0 (by kernel_rfl)) rfl
        replace ha := Aside0.mk ha
        have HB2 := Aside0.mk Q_HB2
        obtain ⟨x0_, x1_, x2_⟩ := HALL.out _ HB2.out
        refine value_ (w1 := w') (v := (.int .i64 x.f1)) (by rfl) rfl ?_ ?_
        ·go_simp
         (try simp only [i64_w])
         try (first | rfl | assumption)
        refine hK.out _ _ ⟨(by rw [ha.out]; exact putSel_upk 1 hb_ rfl rfl rfl), Q_HB2⟩
       refine steps_cons ?_ ?_
       ·rintro b a w' ⟨ha, Q_HB2⟩ hb_ hon hoff
        refine ⟨_, rfl, fun K hK => ?_⟩
        have e34 : a.tmps[34]? = some ((.int .i64 x.f1)) := by rw [ha]; exact putSel_on (e := (1, 34, (.int .i64 x.f1))) 1 rfl rfl (hon 1 (by kernel_rfl)) rfl
        replace ha := Aside0.mk ha
        have HB2 := Aside0.mk Q_HB2
        refine value_ (w1 := w') (v := (.bool false)) (by rfl) rfl ?_ ?_
        ·go_simp
         (try simp only [i64_w])
         try (first | rfl | assumption)
        refine hK.out _ _ ⟨(by rw [ha.out]; exact putSel_upk 2 hb_ rfl rfl rfl), Q_HB2⟩
       refine steps_cons ?_ ?_
       ·rintro b a w' ⟨ha, Q_HB2⟩ hb_ hon hoff
        refine ⟨_, rfl, fun K hK => ?_⟩
        have e35 : a.tmps[35]? = some ((.bool false)) := by rw [ha]; exact putSel_on (e := (2, 35, (.bool false))) 2 rfl rfl (hon 2 (by kernel_rfl)) rfl
        replace ha := Aside0.mk ha
        have HB2 := Aside0.mk Q_HB2
        refine value_ (w1 := w') (v := (.bool false)) (by rfl) rfl ?_ ?_
        ·go_simp
         (try simp only [i64_w])
         try (first | rfl | assumption)
        refine hK.out _ _ ⟨(by rw [ha.out]; exact putSel_upk 3 hb_ rfl rfl rfl), Q_HB2⟩
       refine steps_cons ?_ ?_
       ·rintro b a w' ⟨ha, Q_HB2⟩ hb_ hon hoff
        refine ⟨_, rfl, fun K hK => ?_⟩
        have e4 : a.tmps[4]? = some ((.pointer (some ⟨g, 0, none⟩))) := by rw [ha]; exact (putSel_off rfl).trans rfl
        have e36 : a.tmps[36]? = some ((.bool false)) := by rw [ha]; exact putSel_on (e := (3, 36, (.bool false))) 3 rfl rfl (hon 3 (by kernel_rfl)) rfl
        replace ha := Aside0.mk ha
        have HB2 := Aside0.mk Q_HB2
        refine value_ (w1 := w') (v := (.pointer (some ⟨g, 2, none⟩))) (wanted_on rfl rfl rfl (e36.trans (by first | rfl | (simp [*]; done)))) rfl ?_ ?_
        ·go_simp
         (try simp only [i64_w])
         try (first | rfl | assumption)
        refine hK.out _ _ ⟨(by rw [ha.out]; exact putSel_upk 4 hb_ rfl rfl rfl), Q_HB2⟩
       refine steps_cons ?_ ?_
       ·rintro b a w' ⟨ha, Q_HB2⟩ hb_ hon hoff
        refine ⟨_, rfl, fun K hK => ?_⟩
        have e37 : a.tmps[37]? = some ((.pointer (some ⟨g, 2, none⟩))) := by rw [ha]; exact putSel_on (e := (4, 37, (.pointer (some ⟨g, 2, none⟩)))) 4 rfl rfl (hon 4 (by kernel_rfl)) rfl
        have e36 : a.tmps[36]? = some ((.bool false)) := by rw [ha]; exact putSel_on (e := (3, 36, (.bool false))) 3 rfl rfl (hon 3 (by kernel_rfl)) rfl
        replace ha := Aside0.mk ha
        have HB2 := Aside0.mk Q_HB2
        obtain ⟨x0_, x1_, x2_⟩ := HALL.out _ HB2.out
        refine value_ (w1 := w') (v := (.int .i64 x.f1)) (wanted_on rfl rfl rfl (e36.trans (by first | rfl | (simp [*]; done)))) rfl ?_ ?_
        ·go_simp
         (try simp only [i64_w])
         try (first | rfl | assumption)
        refine hK.out _ _ ⟨(by rw [ha.out]; exact putSel_upk 5 hb_ rfl rfl rfl), Q_HB2⟩
       refine steps_cons ?_ ?_
       ·rintro b a w' ⟨ha, Q_HB2⟩ hb_ hon hoff
        refine ⟨_, rfl, fun K hK => ?_⟩
        have e38 : a.tmps[38]? = some ((.int .i64 x.f1)) := by rw [ha]; exact putSel_on (e := (5, 38, (.int .i64 x.f1))) 5 rfl rfl (hon 5 (by kernel_rfl)) rfl
        have e36 : a.tmps[36]? = some ((.bool false)) := by rw [ha]; exact putSel_on (e := (3, 36, (.bool false))) 3 rfl rfl (hon 3 (by kernel_rfl)) rfl
        replace ha := Aside0.mk ha
        have HB2 := Aside0.mk Q_HB2
        refine value_ (w1 := w') (v := (.bool true)) (wanted_on rfl rfl rfl (e36.trans (by first | rfl | (simp [*]; done)))) rfl ?_ ?_
        ·go_simp
         (try simp only [i64_w])
         try (first | rfl | assumption)
        refine hK.out _ _ ⟨(by rw [ha.out]; exact putSel_upk 6 hb_ rfl rfl rfl), Q_HB2⟩
       refine steps_cons ?_ ?_
       ·rintro b a w' ⟨ha, Q_HB2⟩ hb_ hon hoff
        refine ⟨_, rfl, fun K hK => ?_⟩
        have e36 : a.tmps[36]? = some ((.bool false)) := by rw [ha]; exact putSel_on (e := (3, 36, (.bool false))) 3 rfl rfl (hon 3 (by kernel_rfl)) rfl
        have e39 : a.tmps[39]? = some ((.bool true)) := by rw [ha]; exact putSel_on (e := (6, 39, (.bool true))) 6 rfl rfl (hon 6 (by kernel_rfl)) rfl
        replace ha := Aside0.mk ha
        have HB2 := Aside0.mk Q_HB2
        refine value_ (w1 := w') (v := (.bool true)) (by rfl) rfl ?_ ?_
        ·go_simp
         (try simp only [i64_w])
         try (first | rfl | assumption)
        refine hK.out _ _ ⟨(by rw [ha.out]; exact putSel_upk 7 hb_ rfl rfl rfl), Q_HB2⟩
       refine steps_cons ?_ ?_
       ·rintro b a w' ⟨ha, Q_HB2⟩ hb_ hon hoff
        refine ⟨_, rfl, fun K hK => ?_⟩
        have e40 : a.tmps[40]? = some ((.bool true)) := by rw [ha]; exact putSel_on (e := (7, 40, (.bool true))) 7 rfl rfl (hon 7 (by kernel_rfl)) rfl
        replace ha := Aside0.mk ha
        have HB2 := Aside0.mk Q_HB2
        refine value_ (w1 := w') (v := (.bool true)) (by rfl) rfl ?_ ?_
        ·go_simp
         (try simp only [i64_w])
         try (first | rfl | assumption)
        refine hK.out _ _ ⟨(by rw [ha.out]; exact putSel_upk 8 hb_ rfl rfl rfl), Q_HB2⟩
       refine steps_cons ?_ ?_
       ·rintro b a w' ⟨ha, Q_HB2⟩ hb_ hon hoff
        refine ⟨_, rfl, fun K hK => ?_⟩
        have e41 : a.tmps[41]? = some ((.bool true)) := by rw [ha]; exact putSel_on (e := (8, 41, (.bool true))) 8 rfl rfl (hon 8 (by kernel_rfl)) rfl
        replace ha := Aside0.mk ha
        have HB2 := Aside0.mk Q_HB2
        refine off_ (wanted_off rfl rfl rfl (e41.trans (by first | rfl | (simp [*]; done)))) ?_
        refine hK.out _ _ ⟨(by rw [ha.out]; exact putSel_upk 9 hb_ rfl rfl rfl), Q_HB2⟩
       refine steps_cons ?_ ?_
       ·rintro b a w' ⟨ha, Q_HB2⟩ hb_ hon hoff
        refine ⟨_, rfl, fun K hK => ?_⟩
        have e41 : a.tmps[41]? = some ((.bool true)) := by rw [ha]; exact putSel_on (e := (8, 41, (.bool true))) 8 rfl rfl (hon 8 (by kernel_rfl)) rfl
        replace ha := Aside0.mk ha
        have HB2 := Aside0.mk Q_HB2
        refine off_ (wanted_off rfl rfl rfl (e41.trans (by first | rfl | (simp [*]; done)))) ?_
        refine hK.out _ _ ⟨(by rw [ha.out]; exact putSel_upk 10 hb_ rfl rfl rfl), Q_HB2⟩
       refine steps_cons ?_ ?_
       ·rintro b a w' ⟨ha, Q_HB2⟩ hb_ hon hoff
        refine ⟨_, rfl, fun K hK => ?_⟩
        have e41 : a.tmps[41]? = some ((.bool true)) := by rw [ha]; exact putSel_on (e := (8, 41, (.bool true))) 8 rfl rfl (hon 8 (by kernel_rfl)) rfl
        replace ha := Aside0.mk ha
        have HB2 := Aside0.mk Q_HB2
        refine off_ (wanted_off rfl rfl rfl (e41.trans (by first | rfl | (simp [*]; done)))) ?_
        refine hK.out _ _ ⟨(by rw [ha.out]; exact putSel_upk 11 hb_ rfl rfl rfl), Q_HB2⟩
       refine steps_cons ?_ ?_
       ·rintro b a w' ⟨ha, Q_HB2⟩ hb_ hon hoff
        refine ⟨_, rfl, fun K hK => ?_⟩
        have e44 : a.tmps[44]? = some (undef) := by rw [ha]; exact putSel_on (e := (11, 44, undef)) 11 rfl rfl (hon 11 (by kernel_rfl)) rfl
        replace ha := Aside0.mk ha
        have HB2 := Aside0.mk Q_HB2
        refine off_ (wanted_un rfl rfl rfl e44) ?_
        refine hK.out _ _ ⟨(by rw [ha.out]; exact putSel_upk 12 hb_ rfl rfl rfl), Q_HB2⟩
       refine steps_cons ?_ ?_
       ·rintro b a w' ⟨ha, Q_HB2⟩ hb_ hon hoff
        refine ⟨_, rfl, fun K hK => ?_⟩
        have e44 : a.tmps[44]? = some (undef) := by rw [ha]; exact putSel_on (e := (11, 44, undef)) 11 rfl rfl (hon 11 (by kernel_rfl)) rfl
        replace ha := Aside0.mk ha
        have HB2 := Aside0.mk Q_HB2
        refine off_ (wanted_un rfl rfl rfl e44) ?_
        refine hK.out _ _ ⟨(by rw [ha.out]; exact putSel_upk 13 hb_ rfl rfl rfl), Q_HB2⟩
       refine steps_cons ?_ ?_
       ·rintro b a w' ⟨ha, Q_HB2⟩ hb_ hon hoff
        refine ⟨_, rfl, fun K hK => ?_⟩
        have e44 : a.tmps[44]? = some (undef) := by rw [ha]; exact putSel_on (e := (11, 44, undef)) 11 rfl rfl (hon 11 (by kernel_rfl)) rfl
        replace ha := Aside0.mk ha
        have HB2 := Aside0.mk Q_HB2
        refine off_ (wanted_un rfl rfl rfl e44) ?_
        refine hK.out _ _ ⟨(by rw [ha.out]; exact putSel_upk 14 hb_ rfl rfl rfl), Q_HB2⟩
       refine steps_cons ?_ ?_
       ·rintro b a w' ⟨ha, Q_HB2⟩ hb_ hon hoff
        refine ⟨_, rfl, fun K hK => ?_⟩
        have e44 : a.tmps[44]? = some (undef) := by rw [ha]; exact putSel_on (e := (11, 44, undef)) 11 rfl rfl (hon 11 (by kernel_rfl)) rfl
        replace ha := Aside0.mk ha
        have HB2 := Aside0.mk Q_HB2
        refine off_ (wanted_un rfl rfl rfl e44) ?_
        refine hK.out _ _ ⟨(by rw [ha.out]; exact putSel_upk 15 hb_ rfl rfl rfl), Q_HB2⟩
       refine steps_cons ?_ ?_
       ·rintro b a w' ⟨ha, Q_HB2⟩ hb_ hon hoff
        refine ⟨_, rfl, fun K hK => ?_⟩
        have e44 : a.tmps[44]? = some (undef) := by rw [ha]; exact putSel_on (e := (11, 44, undef)) 11 rfl rfl (hon 11 (by kernel_rfl)) rfl
        replace ha := Aside0.mk ha
        have HB2 := Aside0.mk Q_HB2
        refine off_ (wanted_un rfl rfl rfl e44) ?_
        refine hK.out _ _ ⟨(by rw [ha.out]; exact putSel_upk 16 hb_ rfl rfl rfl), Q_HB2⟩
       refine steps_cons ?_ ?_
       ·rintro b a w' ⟨ha, Q_HB2⟩ hb_ hon hoff
        refine ⟨_, rfl, fun K hK => ?_⟩
        have e44 : a.tmps[44]? = some (undef) := by rw [ha]; exact putSel_on (e := (11, 44, undef)) 11 rfl rfl (hon 11 (by kernel_rfl)) rfl
        replace ha := Aside0.mk ha
        have HB2 := Aside0.mk Q_HB2
        refine off_ (wanted_un rfl rfl rfl e44) ?_
        refine hK.out _ _ ⟨(by rw [ha.out]; exact putSel_upk 17 hb_ rfl rfl rfl), Q_HB2⟩
       refine steps_cons ?_ ?_
       ·rintro b a w' ⟨ha, Q_HB2⟩ hb_ hon hoff
        refine ⟨_, rfl, fun K hK => ?_⟩
        have e44 : a.tmps[44]? = some (undef) := by rw [ha]; exact putSel_on (e := (11, 44, undef)) 11 rfl rfl (hon 11 (by kernel_rfl)) rfl
        replace ha := Aside0.mk ha
        have HB2 := Aside0.mk Q_HB2
        refine off_ (wanted_un rfl rfl rfl e44) ?_
        refine hK.out _ _ ⟨(by rw [ha.out]; exact putSel_upk 18 hb_ rfl rfl rfl), Q_HB2⟩
       refine steps_cons ?_ ?_
       ·rintro b a w' ⟨ha, Q_HB2⟩ hb_ hon hoff
        refine ⟨_, rfl, fun K hK => ?_⟩
        have e44 : a.tmps[44]? = some (undef) := by rw [ha]; exact putSel_on (e := (11, 44, undef)) 11 rfl rfl (hon 11 (by kernel_rfl)) rfl
        replace ha := Aside0.mk ha
        have HB2 := Aside0.mk Q_HB2
        refine off_ (wanted_un rfl rfl rfl e44) ?_
        refine hK.out _ _ ⟨(by rw [ha.out]; exact putSel_upk 19 hb_ rfl rfl rfl), Q_HB2⟩
       refine steps_cons ?_ ?_
       ·rintro b a w' ⟨ha, Q_HB2⟩ hb_ hon hoff
        refine ⟨_, rfl, fun K hK => ?_⟩
        have e41 : a.tmps[41]? = some ((.bool true)) := by rw [ha]; exact putSel_on (e := (8, 41, (.bool true))) 8 rfl rfl (hon 8 (by kernel_rfl)) rfl
        replace ha := Aside0.mk ha
        have HB2 := Aside0.mk Q_HB2
        refine off_ (wanted_off rfl rfl rfl (e41.trans (by first | rfl | (simp [*]; done)))) ?_
        refine hK.out _ _ ⟨(by rw [ha.out]; exact putSel_upk 20 hb_ rfl rfl rfl), Q_HB2⟩
       refine steps_cons ?_ ?_
       ·rintro b a w' ⟨ha, Q_HB2⟩ hb_ hon hoff
        refine ⟨_, rfl, fun K hK => ?_⟩
        have e41 : a.tmps[41]? = some ((.bool true)) := by rw [ha]; exact putSel_on (e := (8, 41, (.bool true))) 8 rfl rfl (hon 8 (by kernel_rfl)) rfl
        have e53 : a.tmps[53]? = some (undef) := by rw [ha]; exact putSel_on (e := (20, 53, undef)) 20 rfl rfl (hon 20 (by kernel_rfl)) rfl
        replace ha := Aside0.mk ha
        have HB2 := Aside0.mk Q_HB2
        refine value_ (w1 := w') (v := (.bool true)) (by rfl) rfl ?_ ?_
        ·go_simp
         (try simp only [i64_w])
         try (first | rfl | assumption)
        refine hK.out _ _ ⟨(by rw [ha.out]; exact putSel_upk 21 hb_ rfl rfl rfl), Q_HB2⟩
       refine steps_cons ?_ ?_
       ·rintro b a w' ⟨ha, Q_HB2⟩ hb_ hon hoff
        refine ⟨_, rfl, fun K hK => ?_⟩
        have e54 : a.tmps[54]? = some ((.bool true)) := by rw [ha]; exact putSel_on (e := (21, 54, (.bool true))) 21 rfl rfl (hon 21 (by kernel_rfl)) rfl
        replace ha := Aside0.mk ha
        have HB2 := Aside0.mk Q_HB2
        refine value_ (w1 := w') (v := (.bool true)) (by rfl) rfl ?_ ?_
        ·go_simp
         (try simp only [i64_w])
         try (first | rfl | assumption)
        refine hK.out _ _ ⟨(by rw [ha.out]; exact putSel_upk 22 hb_ rfl rfl rfl), Q_HB2⟩
       exact steps_nil
      rintro b a we hall ⟨ha, Q_HB2⟩
      clear HB2
      have hb0_ := hall 0 (by kernel_rfl)
      have hb1_ := hall 1 (by kernel_rfl)
      have hb2_ := hall 2 (by kernel_rfl)
      have hb3_ := hall 3 (by kernel_rfl)
      have hb4_ := hall 4 (by kernel_rfl)
      have hb5_ := hall 5 (by kernel_rfl)
      have hb6_ := hall 6 (by kernel_rfl)
      have hb7_ := hall 7 (by kernel_rfl)
      have hb8_ := hall 8 (by kernel_rfl)
      have hb9_ := hall 9 (by kernel_rfl)
      have hb10_ := hall 10 (by kernel_rfl)
      have hb11_ := hall 11 (by kernel_rfl)
      have hb12_ := hall 12 (by kernel_rfl)
      have hb13_ := hall 13 (by kernel_rfl)
      have hb14_ := hall 14 (by kernel_rfl)
      have hb15_ := hall 15 (by kernel_rfl)
      have hb16_ := hall 16 (by kernel_rfl)
      have hb17_ := hall 17 (by kernel_rfl)
      have hb18_ := hall 18 (by kernel_rfl)
      have hb19_ := hall 19 (by kernel_rfl)
      have hb20_ := hall 20 (by kernel_rfl)
      have hb21_ := hall 21 (by kernel_rfl)
      have hb22_ := hall 22 (by kernel_rfl)
      subst ha
      simp only [putSel, hb0_, hb1_, hb2_, hb3_, hb4_, hb5_, hb6_, hb7_, hb8_, hb9_, hb10_, hb11_, hb12_, hb13_, hb14_, hb15_, hb16_, hb17_, hb18_, hb19_, hb20_, hb21_, hb22_, if_true, Act.put, List.setIfInBounds_toArray, List.set_cons_zero, List.set_cons_succ]
      have HB2 := Aside0.mk Q_HB2
      clear Q_HB2
      clear hall hb0_ hb1_ hb2_ hb3_ hb4_ hb5_ hb6_ hb7_ hb8_ hb9_ hb10_ hb11_ hb12_ hb13_ hb14_ hb15_ hb16_ hb17_ hb18_ hb19_ hb20_ hb21_ hb22_
      go_wp2_with fail
      go_ret
      exact FIN.out _ HB2.out
    ·have d1 : x.f1 < 0 := by omega
     have HF := Aside0.mk (show fineL l = false by unfold fineL; rw [← HO.out, HST.out, okX_code (fun h => c1 h.1)]; rfl)
     have FIN := Aside0.mk (fun W (hW : Below w2.heap.size w2 W) => (show (Ending.returned (.bool false) = Ending.returned (.bool (fineL l)) ∧ Below w.heap.size w W) from ⟨by rw [HF.out], below_step HBO.out hW⟩))
     clear HF c1
     refine start_ (n := 23) (S := fun w' => True) (ds := []) #[false, false, false, false, false, false, false, false, false, false, false, false, false, false, false, false, false, false, false, false, false, false, false] (by kernel_rfl) rfl rfl trivial (fun hHeld => ?_); refine with_tabW MsgF.tab5 MsgF.bits5 (fun HT_ HW_ => ?_)
     refine inv_at [0, 1, 2, 3, 4, 5, 6, 7, 8, 9, 10, 11, 12, 13, 14, 15, 16, 17, 18, 19, 20, 21, 22] (fun a0_ b a w' => a = putSel a0_ b [(0, 33, (.pointer (some ⟨g, 2, none⟩))), (1, 34, (.int .i64 x.f1)), (2, 35, (.bool true)), (3, 36, (.bool true)), (4, 37, undef), (5, 38, undef), (6, 39, undef), (7, 40, (.bool true)), (8, 41, (.bool true)), (9, 42, undef), (10, 43, undef), (11, 44, undef), (12, 45, undef), (13, 46, undef), (14, 47, undef), (15, 48, undef), (16, 49, undef), (17, 50, undef), (18, 51, undef), (19, 52, undef), (20, 53, undef), (21, 54, (.bool true)), (22, 32, (.bool true))] ∧ (Below w2.heap.size w2 w')) HT_.out HW_.out (by kernel_rfl) (by kernel_rfl) ?_ ?_ ?_
     ·exact ⟨by simp only [putSel, Bool.false_eq_true, if_false], below_drew1 HB2.out⟩
     ·skip
      clear HB2
      refine steps_cons ?_ ?_
      ·rintro b a w' ⟨ha, Q_HB2⟩ hb_ hon hoff
       refine ⟨_, rfl, fun K hK => ?_⟩
       have e4 : a.tmps[4]? = some ((.pointer (some ⟨g, 0, none⟩))) := by rw [ha]; exact (putSel_off rfl).trans rfl
       replace ha := Aside0.mk ha
       have HB2 := Aside0.mk Q_HB2
       refine value_ (w1 := w') (v := (.pointer (some ⟨g, 2, none⟩))) (by rfl) rfl ?_ ?_
       ·go_simp
        (try simp only [i64_w])
        try (first | rfl | assumption)
       refine hK.out _ _ ⟨(by rw [ha.out]; exact putSel_upk 0 hb_ rfl rfl rfl), Q_HB2⟩
      refine steps_cons ?_ ?_
      ·rintro b a w' ⟨ha, Q_HB2⟩ hb_ hon hoff
       refine ⟨_, rfl, fun K hK => ?_⟩
       have e33 : a.tmps[33]? = some ((.pointer (some ⟨g, 2, none⟩))) := by rw [ha]; exact putSel_on (e := (0, 33, (.pointer (some ⟨g, 2, none⟩)))) 0 rfl rfl (hon 0 (by kernel_rfl)) rfl
       replace ha := Aside0.mk ha
       have HB2 := Aside0.mk Q_HB2
       obtain ⟨x0_, x1_, x2_⟩ := HALL.out _ HB2.out
       refine value_ (w1 := w') (v := (.int .i64 x.f1)) (by rfl) rfl ?_ ?_
       ·go_simp
        (try simp only [i64_w])
        try (first | rfl | assumption)
       refine hK.out _ _ ⟨(by rw [ha.out]; exact putSel_upk 1 hb_ rfl rfl rfl), Q_HB2⟩
      refine steps_cons ?_ ?_
      ·rintro b a w' ⟨ha, Q_HB2⟩ hb_ hon hoff
       refine ⟨_, rfl, fun K hK => ?_⟩
       have e34 : a.tmps[34]? = some ((.int .i64 x.f1)) := by rw [ha]; exact putSel_on (e := (1, 34, (.int .i64 x.f1))) 1 rfl rfl (hon 1 (by kernel_rfl)) rfl
       replace ha := Aside0.mk ha
       have HB2 := Aside0.mk Q_HB2
       refine value_ (w1 := w') (v := (.bool true)) (by rfl) rfl ?_ ?_
       ·go_simp
        (try simp only [i64_w])
        try (first | rfl | assumption)
       refine hK.out _ _ ⟨(by rw [ha.out]; exact putSel_upk 2 hb_ rfl rfl rfl), Q_HB2⟩
      refine steps_cons ?_ ?_
      ·rintro b a w' ⟨ha, Q_HB2⟩ hb_ hon hoff
       refine ⟨_, rfl, fun K hK => ?_⟩
       have e35 : a.tmps[35]? = some ((.bool true)) := by rw [ha]; exact putSel_on (e := (2, 35, (.bool true))) 2 rfl rfl (hon 2 (by kernel_rfl)) rfl
       replace ha := Aside0.mk ha
       have HB2 := Aside0.mk Q_HB2
       refine value_ (w1 := w') (v := (.bool true)) (by rfl) rfl ?_ ?_
       ·go_simp
        (try simp only [i64_w])
        try (first | rfl | assumption)
       refine hK.out _ _ ⟨(by rw [ha.out]; exact putSel_upk 3 hb_ rfl rfl rfl), Q_HB2⟩
      refine steps_cons ?_ ?_
      ·rintro b a w' ⟨ha, Q_HB2⟩ hb_ hon hoff
       refine ⟨_, rfl, fun K hK => ?_⟩
       have e36 : a.tmps[36]? = some ((.bool true)) := by rw [ha]; exact putSel_on (e := (3, 36, (.bool true))) 3 rfl rfl (hon 3 (by kernel_rfl)) rfl
       replace ha := Aside0.mk ha
       have HB2 := Aside0.mk Q_HB2
       refine off_ (wanted_off rfl rfl rfl (e36.trans (by first | rfl | (simp [*]; done)))) ?_
       refine hK.out _ _ ⟨(by rw [ha.out]; exact putSel_upk 4 hb_ rfl rfl rfl), Q_HB2⟩
      refine steps_cons ?_ ?_
      ·rintro b a w' ⟨ha, Q_HB2⟩ hb_ hon hoff
       refine ⟨_, rfl, fun K hK => ?_⟩
       have e36 : a.tmps[36]? = some ((.bool true)) := by rw [ha]; exact putSel_on (e := (3, 36, (.bool true))) 3 rfl rfl (hon 3 (by kernel_rfl)) rfl
       replace ha := Aside0.mk ha
       have HB2 := Aside0.mk Q_HB2
       refine off_ (wanted_off rfl rfl rfl (e36.trans (by first | rfl | (simp [*]; done)))) ?_
       refine hK.out _ _ ⟨(by rw [ha.out]; exact putSel_upk 5 hb_ rfl rfl rfl), Q_HB2⟩
      refine steps_cons ?_ ?_
      ·rintro b a w' ⟨ha, Q_HB2⟩ hb_ hon hoff
       refine ⟨_, rfl, fun K hK => ?_⟩
       have e36 : a.tmps[36]? = some ((.bool true)) := by rw [ha]; exact putSel_on (e := (3, 36, (.bool true))) 3 rfl rfl (hon 3 (by kernel_rfl)) rfl
       replace ha := Aside0.mk ha
       have HB2 := Aside0.mk Q_HB2
       refine off_ (wanted_off rfl rfl rfl (e36.trans (by first | rfl | (simp [*]; done)))) ?_
       refine hK.out _ _ ⟨(by rw [ha.out]; exact putSel_upk 6 hb_ rfl rfl rfl), Q_HB2⟩
      refine steps_cons ?_ ?_
      ·rintro b a w' ⟨ha, Q_HB2⟩ hb_ hon hoff
       refine ⟨_, rfl, fun K hK => ?_⟩
       have e36 : a.tmps[36]? = some ((.bool true)) := by rw [ha]; exact putSel_on (e := (3, 36, (.bool true))) 3 rfl rfl (hon 3 (by kernel_rfl)) rfl
       have e39 : a.tmps[39]? = some (undef) := by rw [ha]; exact putSel_on (e := (6, 39, undef)) 6 rfl rfl (hon 6 (by kernel_rfl)) rfl
       replace ha := Aside0.mk ha
       have HB2 := Aside0.mk Q_HB2
       refine value_ (w1 := w') (v := (.bool true)) (by rfl) rfl ?_ ?_
       ·go_simp
        (try simp only [i64_w])
        try (first | rfl | assumption)
       refine hK.out _ _ ⟨(by rw [ha.out]; exact putSel_upk 7 hb_ rfl rfl rfl), Q_HB2⟩
      refine steps_cons ?_ ?_
      ·rintro b a w' ⟨ha, Q_HB2⟩ hb_ hon hoff
       refine ⟨_, rfl, fun K hK => ?_⟩
       have e40 : a.tmps[40]? = some ((.bool true)) := by rw [ha]; exact putSel_on (e := (7, 40, (.bool true))) 7 rfl rfl (hon 7 (by kernel_rfl)) rfl
       replace ha := Aside0.mk ha
       have HB2 := Aside0.mk Q_HB2
       refine value_ (w1 := w') (v := (.bool true)) (by rfl) rfl ?_ ?_
       ·go_simp
        (try simp only [i64_w])
        try (first | rfl | assumption)
       refine hK.out _ _ ⟨(by rw [ha.out]; exact putSel_upk 8 hb_ rfl rfl rfl), Q_HB2⟩
      refine steps_cons ?_ ?_
      ·rintro b a w' ⟨ha, Q_HB2⟩ hb_ hon hoff
       refine ⟨_, rfl, fun K hK => ?_⟩
       have e41 : a.tmps[41]? = some ((.bool true)) := by rw [ha]; exact putSel_on (e := (8, 41, (.bool true))) 8 rfl rfl (hon 8 (by kernel_rfl)) rfl
       replace ha := Aside0.mk ha
       have HB2 := Aside0.mk Q_HB2
       refine off_ (wanted_off rfl rfl rfl (e41.trans (by first | rfl | (simp [*]; done)))) ?_
       refine hK.out _ _ ⟨(by rw [ha.out]; exact putSel_upk 9 hb_ rfl rfl rfl), Q_HB2⟩
      refine steps_cons ?_ ?_
      ·rintro b a w' ⟨ha, Q_HB2⟩ hb_ hon hoff
       refine ⟨_, rfl, fun K hK => ?_⟩
       have e41 : a.tmps[41]? = some ((.bool true)) := by rw [ha]; exact putSel_on (e := (8, 41, (.bool true))) 8 rfl rfl (hon 8 (by kernel_rfl)) rfl
       replace ha := Aside0.mk ha
       have HB2 := Aside0.mk Q_HB2
       refine off_ (wanted_off rfl rfl rfl (e41.trans (by first | rfl | (simp [*]; done)))) ?_
       refine hK.out _ _ ⟨(by rw [ha.out]; exact putSel_upk 10 hb_ rfl rfl rfl), Q_HB2⟩
      refine steps_cons ?_ ?_
      ·rintro b a w' ⟨ha, Q_HB2⟩ hb_ hon hoff
       refine ⟨_, rfl, fun K hK => ?_⟩
       have e41 : a.tmps[41]? = some ((.bool true)) := by rw [ha]; exact putSel_on (e := (8, 41, (.bool true))) 8 rfl rfl (hon 8 (by kernel_rfl)) rfl
       replace ha := Aside0.mk ha
       have HB2 := Aside0.mk Q_HB2
       refine off_ (wanted_off rfl rfl rfl (e41.trans (by first | rfl | (simp [*]; done)))) ?_
       refine hK.out _ _ ⟨(by rw [ha.out]; exact putSel_upk 11 hb_ rfl rfl rfl), Q_HB2⟩
      refine steps_cons ?_ ?_
      ·rintro b a w' ⟨ha, Q_HB2⟩ hb_ hon hoff
       refine ⟨_, rfl, fun K hK => ?_⟩
       have e44 : a.tmps[44]? = some (undef) := by rw [ha]; exact putSel_on (e := (11, 44, undef)) 11 rfl rfl (hon 11 (by kernel_rfl)) rfl
       replace ha := Aside0.mk ha
       have HB2 := Aside0.mk Q_HB2
       refine off_ (wanted_un rfl rfl rfl e44) ?_
       refine hK.out _ _ ⟨(by rw [ha.out]; exact putSel_upk 12 hb_ rfl rfl rfl), Q_HB2⟩
      refine steps_cons ?_ ?_
      ·rintro b a w' ⟨ha, Q_HB2⟩ hb_ hon hoff
       refine ⟨_, rfl, fun K hK => ?_⟩
       have e44 : a.tmps[44]? = some (undef) := by rw [ha]; exact putSel_on (e := (11, 44, undef)) 11 rfl rfl (hon 11 (by kernel_rfl)) rfl
       replace ha := Aside0.mk ha
       have HB2 := Aside0.mk Q_HB2
       refine off_ (wanted_un rfl rfl rfl e44) ?_
       refine hK.out _ _ ⟨(by rw [ha.out]; exact putSel_upk 13 hb_ rfl rfl rfl), Q_HB2⟩
      refine steps_cons ?_ ?_
      ·rintro b a w' ⟨ha, Q_HB2⟩ hb_ hon hoff
       refine ⟨_, rfl, fun K hK => ?_⟩
       have e44 : a.tmps[44]? = some (undef) := by rw [ha]; exact putSel_on (e := (11, 44, undef)) 11 rfl rfl (hon 11 (by kernel_rfl)) rfl
       replace ha := Aside0.mk ha
       have HB2 := Aside0.mk Q_HB2
       refine off_ (wanted_un rfl rfl rfl e44) ?_
       refine hK.out _ _ ⟨(by rw [ha.out]; exact putSel_upk 14 hb_ rfl rfl rfl), Q_HB2⟩
      refine steps_cons ?_ ?_
      ·rintro b a w' ⟨ha, Q_HB2⟩ hb_ hon hoff
       refine ⟨_, rfl, fun K hK => ?_⟩
       have e44 : a.tmps[44]? = some (undef) := by rw [ha]; exact putSel_on (e := (11, 44, undef)) 11 rfl rfl (hon 11 (by kernel_rfl)) rfl
       replace ha := Aside0.mk ha
       have HB2 := Aside0.mk Q_HB2
       refine off_ (wanted_un rfl rfl rfl e44) ?_
       refine hK.out _ _ ⟨(by rw [ha.out]; exact putSel_upk 15 hb_ rfl rfl rfl), Q_HB2⟩
      refine steps_cons ?_ ?_
      ·rintro b a w' ⟨ha, Q_HB2⟩ hb_ hon hoff
       refine ⟨_, rfl, fun K hK => ?_⟩
       have e44 : a.tmps[44]? = some (undef) := by rw [ha]; exact putSel_on (e := (11, 44, undef)) 11 rfl rfl (hon 11 (by kernel_rfl)) rfl
       replace ha := Aside0.mk ha
       have HB2 := Aside0.mk Q_HB2
       refine off_ (wanted_un rfl rfl rfl e44) ?_
       refine hK.out _ _ ⟨(by rw [ha.out]; exact putSel_upk 16 hb_ rfl rfl rfl), Q_HB2⟩
      refine steps_cons ?_ ?_
      ·rintro b a w' ⟨ha, Q_HB2⟩ hb_ hon hoff
       refine ⟨_, rfl, fun K hK => ?_⟩
       have e44 : a.tmps[44]? = some (undef) := by rw [ha]; exact putSel_on (e := (11, 44, undef)) 11 rfl rfl (hon 11 (by kernel_rfl)) rfl
       replace ha := Aside0.mk ha
       have HB2 := Aside0.mk Q_HB2
       refine off_ (wanted_un rfl rfl rfl e44) ?_
       refine hK.out _ _ ⟨(by rw [ha.out]; exact putSel_upk 17 hb_ rfl rfl rfl), Q_HB2⟩
      refine steps_cons ?_ ?_
      ·rintro b a w' ⟨ha, Q_HB2⟩ hb_ hon hoff
       refine ⟨_, rfl, fun K hK => ?_⟩
       have e44 : a.tmps[44]? = some (undef) := by rw [ha]; exact putSel_on (e := (11, 44, undef)) 11 rfl rfl (hon 11 (by kernel_rfl)) rfl
       replace ha := Aside0.mk ha
       have HB2 := Aside0.mk Q_HB2
       refine off_ (wanted_un rfl rfl rfl e44) ?_
       refine hK.out _ _ ⟨(by rw [ha.out]; exact putSel_upk 18 hb_ rfl rfl rfl), Q_HB2⟩
      refine steps_cons ?_ ?_
      ·rintro b a w' ⟨ha, Q_HB2⟩ hb_ hon hoff
       refine ⟨_, rfl, fun K hK => ?_⟩
       have e44 : a.tmps[44]? = some (undef) := by rw [ha]; exact putSel_on (e := (11, 44, undef)) 11 rfl rfl (hon 11 (by kernel_rfl)) rfl
       replace ha := Aside0.mk ha
       have HB2 := Aside0.mk Q_HB2
       refine off_ (wanted_un rfl rfl rfl e44) ?_
       refine hK.out _ _ ⟨(by rw [ha.out]; exact putSel_upk 19 hb_ rfl rfl rfl), Q_HB2⟩
      refine steps_cons ?_ ?_
      ·rintro b a w' ⟨ha, Q_HB2⟩ hb_ hon hoff
       refine ⟨_, rfl, fun K hK => ?_⟩
       have e41 : a.tmps[41]? = some ((.bool true)) := by rw [ha]; exact putSel_on (e := (8, 41, (.bool true))) 8 rfl rfl (hon 8 (by kernel_rfl)) rfl
       replace ha := Aside0.mk ha
       have HB2 := Aside0.mk Q_HB2
       refine off_ (wanted_off rfl rfl rfl (e41.trans (by first | rfl | (simp [*]; done)))) ?_
       refine hK.out _ _ ⟨(by rw [ha.out]; exact putSel_upk 20 hb_ rfl rfl rfl), Q_HB2⟩
      refine steps_cons ?_ ?_
      ·rintro b a w' ⟨ha, Q_HB2⟩ hb_ hon hoff
       refine ⟨_, rfl, fun K hK => ?_⟩
       have e41 : a.tmps[41]? = some ((.bool true)) := by rw [ha]; exact putSel_on (e := (8, 41, (.bool true))) 8 rfl rfl (hon 8 (by kernel_rfl)) rfl
       have e53 : a.tmps[53]? = some (undef) := by rw [ha]; exact putSel_on (e := (20, 53, undef)) 20 rfl rfl (hon 20 (by kernel_rfl)) rfl
       replace ha := Aside0.mk ha
       have HB2 := Aside0.mk Q_HB2
       refine value_ (w1 := w') (v := (.bool true)) (by rfl) rfl ?_ ?_
       ·go_simp
        (try simp only [i64_w])
        try (first | rfl | assumption)
       refine hK.out _ _ ⟨(by rw [ha.out]; exact putSel_upk 21 hb_ rfl rfl rfl), Q_HB2⟩
      refine steps_cons ?_ ?_
      ·rintro b a w' ⟨ha, Q_HB2⟩ hb_ hon hoff
       refine ⟨_, rfl, fun K hK => ?_⟩
       have e54 : a.tmps[54]? = some ((.bool true)) := by rw [ha]; exact putSel_on (e := (21, 54, (.bool true))) 21 rfl rfl (hon 21 (by kernel_rfl)) rfl
       replace ha := Aside0.mk ha
       have HB2 := Aside0.mk Q_HB2
       refine value_ (w1 := w') (v := (.bool true)) (by rfl) rfl ?_ ?_
       ·go_simp
        (try simp only [i64_w])
        try (first | rfl | assumption)
       refine hK.out _ _ ⟨(by rw [ha.out]; exact putSel_upk 22 hb_ rfl rfl rfl), Q_HB2⟩
      exact steps_nil
     rintro b a we hall ⟨ha, Q_HB2⟩
     clear HB2
     have hb0_ := hall 0 (by kernel_rfl)
     have hb1_ := hall 1 (by kernel_rfl)
     have hb2_ := hall 2 (by kernel_rfl)
     have hb3_ := hall 3 (by kernel_rfl)
     have hb4_ := hall 4 (by kernel_rfl)
     have hb5_ := hall 5 (by kernel_rfl)
     have hb6_ := hall 6 (by kernel_rfl)
     have hb7_ := hall 7 (by kernel_rfl)
     have hb8_ := hall 8 (by kernel_rfl)
     have hb9_ := hall 9 (by kernel_rfl)
     have hb10_ := hall 10 (by kernel_rfl)
     have hb11_ := hall 11 (by kernel_rfl)
     have hb12_ := hall 12 (by kernel_rfl)
     have hb13_ := hall 13 (by kernel_rfl)
     have hb14_ := hall 14 (by kernel_rfl)
     have hb15_ := hall 15 (by kernel_rfl)
     have hb16_ := hall 16 (by kernel_rfl)
     have hb17_ := hall 17 (by kernel_rfl)
     have hb18_ := hall 18 (by kernel_rfl)
     have hb19_ := hall 19 (by kernel_rfl)
     have hb20_ := hall 20 (by kernel_rfl)
     have hb21_ := hall 21 (by kernel_rfl)
     have hb22_ := hall 22 (by kernel_rfl)
     subst ha
     simp only [putSel, hb0_, hb1_, hb2_, hb3_, hb4_, hb5_, hb6_, hb7_, hb8_, hb9_, hb10_, hb11_, hb12_, hb13_, hb14_, hb15_, hb16_, hb17_, hb18_, hb19_, hb20_, hb21_, hb22_, if_true, Act.put, List.setIfInBounds_toArray, List.set_cons_zero, List.set_cons_succ]
     have HB2 := Aside0.mk Q_HB2
     clear Q_HB2
     clear hall hb0_ hb1_ hb2_ hb3_ hb4_ hb5_ hb6_ hb7_ hb8_ hb9_ hb10_ hb11_ hb12_ hb13_ hb14_ hb15_ hb16_ hb17_ hb18_ hb19_ hb20_ hb21_ hb22_
     go_wp2_with fail
     go_ret
     exact FIN.out _ HB2.out
   ·have HF := Aside0.mk (show fineL l = false by unfold fineL; rw [← HO.out, HST.out, okX_spot hs]; rfl)
    have fin : ∀ W, Below w.heap.size w W → (Ending.returned (.bool false) = Ending.returned (.bool (fineL l)) ∧ Below w.heap.size w W) := fun W hW => ⟨by rw [HF.out], hW⟩
    have FIN := Aside0.mk fin
    by_cases h1 : 0 ≤ x.f0.f0
    ·by_cases h2 : x.f0.f0 ≤ x.f0.f1
     ·have h3 : ¬ x.f0.f1 ≤ 16777216 := fun h3 => hs ⟨h1, h2, h3⟩
      clear hs fin
      go_wp2_with (first | rw [← HG1.out, ← HW1.out] | rw [← HW2.out])
      go_ret
      exact FIN.out _ HB2.out
     ·clear hs fin
      go_wp2_with (first | rw [← HG1.out, ← HW1.out] | rw [← HW2.out])
      go_ret
      exact FIN.out _ HB2.out
    ·clear hs fin
     go_wp2_with (first | rw [← HG1.out, ← HW1.out] | rw [← HW2.out])
     go_ret
     exact FIN.out _ HB2.out
  ·obtain rfl : j = l.length := by omega
   have HF := Aside0.mk (show fineL l = decide ((l.length : Int) ≤ 4096) by
    have h := HO.out
    rw [List.drop_eq_nil_of_le (Nat.le_refl _)] at h
    unfold fineL
    rw [← h]
    show (true && decide (l.length ≤ 4096)) = _
    rw [Bool.true_and]
    exact decide_eq_decide.2 (by omega))
   have hlt' : ¬ ((l.length : Int) < (l.length : Int)) := by omega
   go_wp2_with fail
   go_ret
   exact ⟨by rw [HF.out]; rfl, HB.out⟩
end Go.Proofs.Ytjbnffadfohofaa.MsgF
end
-- MERGED YtjbnffadfohofaaCarryS
section
namespace Go.Proofs.Ytjbnffadfohofaa.CarryS
open Go.RowKit Go.Proofs.Ytjbnffadfohofaa.P Go.Proofs.YtjbnffadfohofaaW.PrintWords Go.Proofs.YtjbnffadfohofaaW.PrintLast Go.Proofs.YtjbnffadfohofaaW.PrintMore Go.Proofs.Ytjbnffadfohofaa.Own Go.Proofs.Ytjbnffadfohofaa.NoteN Go.Proofs.Ytjbnffadfohofaa.CarryN Go.Proofs.Ytjbnffadfohofaa.MsgA
set_option linter.unusedSimpArgs false
set_option linter.unusedVariables false
def Sh (g : Nat) (rev : Int) (v : Value) (ops : Int) (b : Bool) (w : World) : Prop := w.heap[g]? = some (.cells #[.int .i64 rev, v, .int .i64 ops, .bool b] 53 (0, 0))
theorem Sh.cells {g : Nat} {rev ops : Int} {v : Value} {b : Bool} {w : World} (h : Sh g rev v ops b w) : w.cell? ⟨g, 0, none⟩ = some (.int .i64 rev) ∧ w.cell? ⟨g, 1, none⟩ = some v ∧ w.cell? ⟨g, 2, none⟩ = some (.int .i64 ops) ∧ w.cell? ⟨g, 3, none⟩ = some (.bool b) := by
 unfold Sh at h
 exact ⟨by rw [cell_of_row w _ 0 _ _ _ h]; rfl, by rw [cell_of_row w _ 1 _ _ _ h]; rfl, by rw [cell_of_row w _ 2 _ _ _ h]; rfl, by rw [cell_of_row w _ 3 _ _ _ h]; rfl⟩
theorem Sh.lt {g : Nat} {rev ops : Int} {v : Value} {b : Bool} {w : World} (h : Sh g rev v ops b w) : g < w.heap.size := (Array.getElem?_eq_some_iff.1 h).1
theorem Sh.fz {g : Nat} {rev ops : Int} {v : Value} {b : Bool} {w : World} (h : Sh g rev v ops b w) (o : Nat) : w.frozen? ⟨g, o, none⟩ = false := frozen_of_row w _ o _ _ h
theorem Sh.below {g : Nat} {rev ops : Int} {v : Value} {b : Bool} {w w' : World} (h : Sh g rev v ops b w) (hb : Below w.heap.size w w') : Sh g rev v ops b w' := (hb.block _ h.lt).trans h
theorem Sh.new (w : World) (rev ops : Int) (v : Value) (b : Bool) : Sh w.heap.size rev v ops b (w.alloc (.cells #[.int .i64 rev, v, .int .i64 ops, .bool b] 53)) := Own.heap_new w _
theorem Sh.set1 {g : Nat} {rev ops : Int} {v : Value} {b : Bool} {w : World} (h : Sh g rev v ops b w) (u : Value) : Sh g rev u ops b (w.setCell ⟨g, 1, none⟩ u) := heap_setCell_same w g 1 _ _ u h
theorem Sh.set2 {g : Nat} {rev ops : Int} {v : Value} {b : Bool} {w : World} (h : Sh g rev v ops b w) (u : Int) : Sh g rev v u b (w.setCell ⟨g, 2, none⟩ (.int .i64 u)) := heap_setCell_same w g 2 _ _ (.int .i64 u) h
set_option maxHeartbeats 2000000 in
set_option maxRecDepth 100000 in
theorem none_c (g : Nat) (rev ops : Int) (v : Value) (b : Bool) (w : World) (h : Sh g rev v ops b w) : Calls Try.prog 29 #[.pointer (some ⟨g, 0, none⟩)] w fun e w' => e = .returned (.bool (!b)) ∧ w' = w := by
 obtain ⟨x0, x1, x2, x3⟩ := h.cells
 clear h
 go_enter Try.func29, Try.ntmps29
 go_wp2_with fail
 go_ret
 exact ⟨by cases b <;> rfl, rfl⟩
set_option maxHeartbeats 2000000 in
set_option maxRecDepth 100000 in
theorem rev_c (g : Nat) (rev ops : Int) (v : Value) (w : World) (h : Sh g rev v ops true w) : Calls Try.prog 16 #[.pointer (some ⟨g, 0, none⟩)] w fun e w' => e = .returned (.int .i64 rev) ∧ w' = w := by
 have HN := Aside0.mk (none_c g rev ops v true w h)
 obtain ⟨x0, x1, x2, x3⟩ := h.cells
 clear h
 go_enter Try.func16, Try.ntmps16
 go_wp2_with fail
 refine HN.out.mono ?_
 rintro e w1 ⟨rfl, rfl⟩
 go_wp2_with fail
 go_ret
 exact ⟨rfl, rfl⟩
set_option maxHeartbeats 2000000 in
set_option maxRecDepth 100000 in
theorem ops_c (g : Nat) (rev ops : Int) (v : Value) (w : World) (h : Sh g rev v ops true w) : Calls Try.prog 17 #[.pointer (some ⟨g, 0, none⟩)] w fun e w' => e = .returned (.int .i64 ops) ∧ w' = w := by
 have HN := Aside0.mk (none_c g rev ops v true w h)
 obtain ⟨x0, x1, x2, x3⟩ := h.cells
 clear h
 go_enter Try.func17, Try.ntmps17
 go_wp2_with fail
 refine HN.out.mono ?_
 rintro e w1 ⟨rfl, rfl⟩
 go_wp2_with fail
 go_ret
 exact ⟨rfl, rfl⟩
set_option maxHeartbeats 2000000 in
set_option maxRecDepth 100000 in
theorem notes_c (g : Nat) (rev ops : Int) (A : Option Addr) (c : Nat) (l : List Nt) (w : World) (h : Sh g rev (.slice A l.length c) ops true w) (hC : NC w A l) (hl : l.length ≤ 1000000) : Calls Try.prog 18 #[.pointer (some ⟨g, 0, none⟩)] w fun e w' => ∃ u, e = .returned u ∧ Nr w.heap.size w' u l ∧ Below w.heap.size w w' := by
 have HN := Aside0.mk (none_c g rev ops _ true w h)
 have HC := Aside0.mk (clone_n A c l w hC hl)
 obtain ⟨x0, x1, x2, x3⟩ := h.cells
 clear h hC hl
 go_enter Try.func18, Try.ntmps18
 go_wp2_with fail
 refine HN.out.mono ?_
 rintro e w1 ⟨rfl, rfl⟩
 go_wp2_with fail
 refine HC.out.mono ?_
 rintro e w2 ⟨u, rfl, hu, hb⟩
 have HU := Aside0.mk hu
 have HB := Aside0.mk hb
 clear hu hb x0 x1 x2 x3
 go_wp2_with fail
 go_ret
 exact ⟨_, rfl, HU.out, HB.out⟩
def Made (rev : Int) (A : Option Addr) (c : Nat) (l : List Nt) (ok : Bool) (w : World) (e : Ending) (w' : World) : Prop :=
 Below w.heap.size w w' ∧ ((ok = false ∧ e = .returned (.pointer none)) ∨ (ok = true ∧ ∃ g, e = .returned (.pointer (some ⟨g, 0, none⟩)) ∧ w.heap.size ≤ g ∧ Sh g rev (.slice A l.length c) 0 true w'))
def notesM (A : Option Addr) (n c : Nat) : Mg := ⟨5, 0, 0, 0, 0, 0, .slice none 0 0, ⟨#[]⟩, .slice A n c⟩
theorem good_notes (A : Option Addr) (n c : Nat) (gn : Bool) : MsgD.goodM (notesM A n c) true gn = gn := by
 cases gn
 ·rfl
 ·show (!(MsgD.fieldsL 5).isEmpty && MsgC.Mg.same (MsgD.kindM 5) (MsgD.kindM 5) true true) = true
  unfold MsgC.Mg.same MsgC.Mg.nums MsgD.kindM
  simp only [beq_self_eq_true, Bool.and_self, Bool.and_true, Bool.true_and]
  rfl
set_option maxHeartbeats 4000000 in
set_option maxRecDepth 100000 in
theorem new_c (rev : Int) (A : Option Addr) (c : Nat) (l : List Nt) (w : World) (hC : NC w A l) (hc : l.length ≤ c) (hl : l.length ≤ 1000000) :
  Calls Try.prog 12 #[.int .i64 rev, .slice A l.length c] w (Made rev A c l (fineL l && decide (0 ≤ rev)) w) := by
 obtain ⟨gn, hf⟩ : ∃ gn, gn = fineL l := ⟨_, rfl⟩
 rw [← hf]
 have HG := Aside0.mk (MsgD.good_c (notesM A l.length c) true gn w ⟨_, _, _, rfl, by decide⟩ ⟨_, _, _, rfl, by omega⟩
  (fun W _ => edit_Good.calls 10 none 0 [] true W (Kd.C_nil _ _) (by simp) (by rfl))
  (fun W hb => by rw [hf]; exact MsgF.fine_c A c l W (NC.below hC hb) hc hl))
 rw [good_notes] at HG
 clear hC hc hl hf
 go_enter Try.func12, Try.ntmps12
 go_wp2_with fail
 refine HG.out.mono ?_
 rintro e w1 ⟨rfl, hb⟩
 have HB := Aside0.mk hb
 clear hb HG
 cases gn with
 | false =>
  go_wp2_with fail
  go_ret
  exact ⟨HB.out, .inl ⟨rfl, rfl⟩⟩
 | true =>
  by_cases hr : rev < 0
  ·have hr' : rev < 0 := hr
   go_wp2_with fail
   go_ret
   exact ⟨HB.out, .inl ⟨by rw [decide_eq_false (show ¬ (0 ≤ rev) by omega)]; rfl, rfl⟩⟩
  ·have hr' : 0 ≤ rev := by omega
   have HS := Aside0.mk (Sh.new w1 rev 0 (.slice A l.length c) true)
   have HB2 := Aside0.mk (below_alloc HB.out (.cells #[.int .i64 rev, .slice A l.length c, .int .i64 0, .bool true] 53))
   go_wp2_with fail
   go_ret
   exact ⟨HB2.out, .inr ⟨by rw [decide_eq_true (show 0 ≤ rev by omega)]; rfl, _, rfl, HB.out.size, HS.out⟩⟩
theorem one_op {w : World} {A : Option Addr} {c : Nat} {op : List S49} (hC : Kd.C k49 w A op.length op) (hc : op.length ≤ c) :
  Kd.C (Kd.slice 49 k49) (w.alloc (.cells #[.slice A op.length c] 34)) (some ⟨w.heap.size, 0, none⟩) ([op] : List (List S49)).length [op] := by
 refine ⟨rfl, by simp, fun _ => ⟨_, rfl, fun j p hj => ?_⟩⟩
 cases j with
 | succ j => simp at hj
 | zero =>
  obtain rfl : op = p := by simpa using hj
  refine ⟨[.slice A op.length c], rfl, ?_, fun i u hu => ?_⟩
  ·exact ⟨A, c, rfl, hc, Kd.C_below hC (below_alloc (Below.refl _ _) _)⟩
  ·have e : ((⟨w.heap.size, 0, none⟩ : Addr).add (0 * 1 + i)) = ⟨w.heap.size, i, none⟩ := by simp [Addr.add]; exact fun h => h.symm
   show World.cell? _ ((⟨w.heap.size, 0, none⟩ : Addr).add (0 * 1 + i)) = _
   rw [e, cell_of_row _ _ i _ _ _ (Own.heap_new w (.cells #[.slice A op.length c] 34))]
   simpa using hu
def Went (g : Nat) (rev ops : Int) (l' : List Nt) (v : Value) (good : Bool) (w : World) (e : Ending) (w' : World) : Prop :=
 w.grownBy w' (some g) ∧ ((good = false ∧ e = .returned (.int .i64 60) ∧ Sh g rev v ops true w') ∨
  (good = true ∧ e = .returned (.int .i64 0) ∧ ∃ A c, l'.length ≤ c ∧ NC w' A l' ∧ (∀ ad, A = some ad → 0 < l'.length → w.heap.size ≤ ad.block) ∧ Sh g rev (.slice A l'.length c) (ops + 1) true w'))
theorem grownBy_setCell (W : World) (b o : Nat) (v : Value) : W.grownBy (W.setCell ⟨b, o, none⟩ v) (some b) :=
 EditR.grownBy_setCell W b o v
theorem NC.far {w w' : World} {A : Option Addr} {l : List Nt} (h : NC w A l) (hs : ∀ ad, A = some ad → 0 < l.length → w'.heap[ad.block]? = w.heap[ad.block]?) : NC w' A l := by
 refine ⟨h.1, h.2.1, fun hp => ?_⟩
 obtain ⟨ad, e, hr⟩ := h.2.2 hp
 refine ⟨ad, e, fun j p hj => ?_⟩
 obtain ⟨c, h1, h2, h3⟩ := hr j p hj
 refine ⟨c, h1, ?_, fun i u hu => ?_⟩
 ·obtain rfl := k44_open h2
  exact k44_mk _ p
 ·refine (World.cell?_of_block ?_).trans (h3 i u hu)
  have hb : ∀ m, (ad.add m).block = ad.block := fun m => by unfold Addr.add; split <;> rfl
  rw [hb]
  exact hs ad e hp
set_option maxHeartbeats 8000000 in
set_option maxRecDepth 100000 in
theorem own_c (g : Nat) (rev ops : Int) (A : Option Addr) (c : Nat) (l : List Nt) (Ao : Option Addr) (co : Nat) (op : List S49) (w : World) (hs : Sh g rev (.slice A l.length c) ops true w) (hC : NC w A l) (hc : l.length ≤ c)
  (hO : Kd.C k49 w Ao op.length op) (hco : op.length ≤ co) (k : Nat) (l' : List Nt) (ok : Bool) (hm : carry_Move.f k l [op] = some (l', ok)) (gd : Bool) (hg : edit_Good.f k op = some gd) (ho : 0 ≤ ops ∧ ops ≤ 1000000) :
  Calls Try.prog 15 #[.pointer (some ⟨g, 0, none⟩), .slice Ao op.length co] w (Went g rev ops l' (.slice A l.length c) (ok && gd) w) := by
 have HN := Aside0.mk (none_c g rev ops _ true w hs)
 have HS := Aside0.mk hs
 have HM := Aside0.mk (carry_Move.calls k A c l (some ⟨w.heap.size, 0, none⟩) 1 [op] l' ok (w.alloc (.cells #[.slice Ao op.length co] 34)) (hC.below (below_alloc (Below.refl _ _) _)) hc (one_op hO hco) (by simp) hm)
 have HG := Aside0.mk (fun W (hb : Below w.heap.size w W) => edit_Good.calls k Ao co op gd W (Kd.C_below hO hb) hco hg)
 have HO := Aside0.mk ho
 have HWA := Aside0.mk (below_alloc (Below.refl w.heap.size w) (.cells #[.slice Ao op.length co] 34))
 obtain ⟨x0, x1, x2, x3⟩ := hs.cells
 clear hs hC hc hO hco hm hg ho
 go_enter Try.func15, Try.ntmps15
 go_wp2_with fail
 refine HN.out.mono ?_
 rintro e w1 ⟨rfl, rfl⟩
 go_wp2_with fail
 refine HM.out.mono ?_
 rintro e w2 ⟨v, rfl, hr, hb⟩
 have HB2 := Aside0.mk (HWA.out.trans (hb.mono HWA.out.size))
 have HR2 := Aside0.mk (Nr.of_R (B' := w1.heap.size) hr (by simp))
 have HS2 := Aside0.mk (HS.out.below HB2.out)
 clear hr hb x0 x1 x2 x3 HM HN HWA
 obtain ⟨A', c', rfl, hc', hC', hfar⟩ := HR2.out
 have HC' := Aside0.mk hC'
 have HF' := Aside0.mk hfar
 have HE' := Aside0.mk hc'
 clear hC' hfar hc'
 cases ok with
 | false =>
  go_wp2_with fail
  go_ret
  exact ⟨grown_of_below HB2.out _, .inl ⟨rfl, rfl, HS2.out⟩⟩
 | true =>
  have HG2 := Aside0.mk (HG.out w2 HB2.out)
  clear HG
  go_wp2_with fail
  refine HG2.out.mono ?_
  rintro e w3 ⟨rfl, hb⟩
  have HB3 := Aside0.mk (below_step HB2.out hb)
  have HS3 := Aside0.mk (HS2.out.below hb)
  have HC3 := Aside0.mk (HC'.out.below hb)
  clear hb HG2
  cases gd with
  | false =>
   go_wp2_with fail
   go_ret
   exact ⟨grown_of_below HB3.out _, .inl ⟨rfl, rfl, HS3.out⟩⟩
  | true =>
   have ho := HO.out
   have hgl := HS.out.lt
   have HS4 := Aside0.mk (HS3.out.set1 (.slice A' l'.length c'))
   have HS5 := Aside0.mk (HS4.out.set2 (ops + 1))
   have HW := Aside0.mk (show wrap64 (ops + 1) = ops + 1 by unfold wrap64; omega)
   have HGR := Aside0.mk (((grown_of_below HB3.out (some g)).trans (grownBy_setCell w3 g 1 (.slice A' l'.length c'))).trans (grownBy_setCell (w3.setCell ⟨g, 1, none⟩ (.slice A' l'.length c')) g 2 (.int .i64 (ops + 1))))
   have HC5 := Aside0.mk (NC.far HC3.out (w' := (w3.setCell ⟨g, 1, none⟩ (.slice A' l'.length c')).setCell ⟨g, 2, none⟩ (.int .i64 (ops + 1))) (fun ad e hp => by
    have := HF'.out ad e hp
    rw [Below.heap_setCell _ _ _ _ (show ad.block ≠ g by omega), Below.heap_setCell _ _ _ _ (show ad.block ≠ g by omega)]))
   obtain ⟨x0, x1, x2, x3⟩ := HS3.out.cells
   have f1 := HS3.out.fz 1
   have f2 := HS3.out.fz 2
   have f2' := HS4.out.fz 2
   obtain ⟨y0, y1, y2, y3⟩ := HS4.out.cells
   clear ho hgl
   go_wp2_with (first | rw [HW.out])
   go_ret
   exact ⟨HGR.out, .inr ⟨rfl, rfl, A', c', HE'.out, HC5.out, HF'.out, HS5.out⟩⟩
end Go.Proofs.Ytjbnffadfohofaa.CarryS
end
-- MERGED YtjbnffadfohofaaCarryLives
section
namespace Go.Proofs.Ytjbnffadfohofaa.CarryLives
open Go.RowKit Go.Proofs.Ytjbnffadfohofaa.P Go.Proofs.YtjbnffadfohofaaW.PrintWords Go.Proofs.YtjbnffadfohofaaW.PrintLast Go.Proofs.YtjbnffadfohofaaW.PrintMore Go.Proofs.Ytjbnffadfohofaa.Own Go.Proofs.Ytjbnffadfohofaa.NoteN Go.Proofs.Ytjbnffadfohofaa.CarryN Go.Proofs.Ytjbnffadfohofaa.MsgA Go.Proofs.Ytjbnffadfohofaa.CarryS
set_option linter.unusedSimpArgs false
set_option linter.unusedVariables false
abbrev Rn := S49
def n0 : Nt := ⟨⟨1, 3⟩, 7⟩
def n1 : Nt := ⟨⟨3, 5⟩, 7⟩
def p0 : List Rn := [⟨0, ⟨#[120, 121]⟩, 0⟩, ⟨5, ⟨#[]⟩, 0⟩]
set_option maxRecDepth 100000 in
theorem fine_0 : fineL [n0] = true := by kernel_rfl
set_option maxRecDepth 100000 in
theorem good_0 : edit_Good.f 100 p0 = some true := by kernel_rfl
set_option maxRecDepth 100000 in
theorem move_0 : carry_Move.f 100 [n0] [p0] = some ([n1], true) := by kernel_rfl
theorem addr0 (b i : Nat) : ((⟨b, 0, none⟩ : Addr).add i) = ⟨b, i, none⟩ := by simp [Addr.add]; exact fun h => h.symm
theorem lit_n (w : World) (x : Nt) : NC (w.alloc (.cells #[.int .i64 x.f0.f0, .int .i64 x.f0.f1, .int .i64 x.f1] 44)) (some ⟨w.heap.size, 0, none⟩) [x] := by
 refine ⟨rfl, by simp, fun _ => ⟨_, rfl, fun j p hj => ?_⟩⟩
 cases j with
 | succ j => simp at hj
 | zero =>
  obtain rfl : x = p := by simpa using hj
  refine ⟨_, rfl, k44_mk _ x, fun i u hu => ?_⟩
  rw [show (0 * k44.sz + i) = i by omega, addr0, cell_of_row _ _ i _ _ _ (Own.heap_new w _)]
  simpa using hu
theorem lit_r2 (w : World) (x y : Rn) : Kd.C k49 (w.alloc (.cells #[.int .i64 x.f0, .string x.f1, .int .i64 x.f2, .int .i64 y.f0, .string y.f1, .int .i64 y.f2] 49)) (some ⟨w.heap.size, 0, none⟩) ([x, y] : List Rn).length [x, y] := by
 refine ⟨rfl, by simp, fun _ => ⟨_, rfl, fun j p hj => ?_⟩⟩
 cases j with
 | zero =>
  obtain rfl : x = p := by simpa using hj
  refine ⟨_, rfl, k49_mk _ x, fun i u hu => ?_⟩
  rw [show (0 * k49.sz + i) = i by omega, addr0, cell_of_row _ _ i _ _ _ (Own.heap_new w _)]
  rcases i with _ | _ | _ | i
  ·simpa using hu
  ·simpa using hu
  ·simpa using hu
  ·simp at hu
 | succ j =>
  cases j with
  | succ j => simp at hj
  | zero =>
   obtain rfl : y = p := by simpa using hj
   refine ⟨_, rfl, k49_mk _ y, fun i u hu => ?_⟩
   rw [show ((0 + 1) * k49.sz + i) = 3 + i by show (0 + 1) * 3 + i = _; omega, addr0, cell_of_row _ _ (3 + i) _ _ _ (Own.heap_new w _)]
   rcases i with _ | _ | _ | i
   ·simpa using hu
   ·simpa using hu
   ·simpa using hu
   ·simp at hu
set_option maxHeartbeats 8000000 in
set_option maxRecDepth 100000 in
theorem lives_c (w : World) : Calls Try.prog 8 #[] w fun e w' => e = .returned (.bool true) ∧ Below w.heap.size w w' := by
 have HA := Aside0.mk (below_alloc (Below.refl w.heap.size w) (.cells #[.int .i64 1, .int .i64 3, .int .i64 7] 44))
 have HN := Aside0.mk (new_c 3 (some ⟨w.heap.size, 0, none⟩) 1 [n0] _ (lit_n w n0) (by simp) (by simp))
 rw [fine_0] at HN
 have HC := Aside0.mk (lit_n w n0)
 have e0 : n0.f0.f0 = 1 := rfl
 have e1 : n0.f0.f1 = 3 := rfl
 have e2 : n0.f1 = 7 := rfl
 rw [e0, e1, e2] at HN HC
 clear e0 e1 e2
 go_enter Try.func8, Try.ntmps8
 go_wp2_with fail
 refine HN.out.mono ?_
 rintro e w1 ⟨hb, h | ⟨_, g, rfl, hg, hs⟩⟩
 ·cases h.1
 have HB1 := Aside0.mk (HA.out.trans (hb.mono HA.out.size))
 have HC1 := Aside0.mk (HC.out.below hb)
 have HS1 := Aside0.mk hs
 have HGE := Aside0.mk (show w.heap.size ≤ g by simp at hg; omega)
 clear hb hs hg HN HC HA
 have HB2 := Aside0.mk (below_alloc HB1.out (.cells #[.int .i64 0, .string ⟨#[120, 121]⟩, .int .i64 0, .int .i64 5, .string ⟨#[]⟩, .int .i64 0] 49))
 have HAL := Aside0.mk (below_alloc (Below.refl w1.heap.size w1) (.cells #[.int .i64 0, .string ⟨#[120, 121]⟩, .int .i64 0, .int .i64 5, .string ⟨#[]⟩, .int .i64 0] 49))
 have HO := Aside0.mk (own_c g 3 0 (some ⟨w.heap.size, 0, none⟩) 1 [n0] (some ⟨w1.heap.size, 0, none⟩) 2 p0 _ (HS1.out.below HAL.out) (HC1.out.below HAL.out) (by simp) (lit_r2 w1 ⟨0, ⟨#[120, 121]⟩, 0⟩ ⟨5, ⟨#[]⟩, 0⟩) (by decide) 100 [n1] true move_0 true good_0 (by omega))
 go_wp2_with fail
 refine HO.out.mono ?_
 rintro e w2 ⟨hgr, h | ⟨_, rfl, A, c, hc, hC, _, hs⟩⟩
 ·cases h.1
 have HB3 := Aside0.mk (HB2.out.grown hgr HB2.out.size (fun k e => by cases e; exact HGE.out))
 have HS3 := Aside0.mk hs
 have HNN := Aside0.mk (notes_c g 3 (0 + 1) A c [n1] w2 hs hC (by simp))
 clear hgr hs hC hc HO HAL HB2 HS1 HC1 HB1
 go_wp2_with fail
 refine HNN.out.mono ?_
 rintro e w3 ⟨u, rfl, ⟨Au, cu, rfl, hcu, hCu, _⟩, hb⟩
 have HB4 := Aside0.mk (below_step HB3.out hb)
 have HS4 := Aside0.mk (HS3.out.below hb)
 obtain ⟨ad, rfl, y0, y1, y2⟩ := at_nt hCu 0 (by simp)
 rw [show ([n1] : List Nt).getD 0 z44 = n1 from rfl] at y0 y1 y2
 rw [show n1.f0.f0 = 3 from rfl] at y0
 rw [show n1.f0.f1 = 5 from rfl] at y1
 rw [show n1.f1 = 7 from rfl] at y2
 rw [show ad.add (0 * 3) = ad from by simp [Addr.add]] at y0 y1 y2
 clear hb hCu hcu HNN HS3 HB3
 have HR := Aside0.mk (rev_c g 3 _ _ w3 HS4.out)
 have HP := Aside0.mk (ops_c g 3 _ _ w3 HS4.out)
 go_wp2_with (first | (go_at_call 16; refine HR.out.mono ?_; rintro e w4 ⟨rfl, rfl⟩) | (go_at_call 17; refine HP.out.mono ?_; rintro e w4 ⟨rfl, rfl⟩))
 go_ret
 exact ⟨rfl, HB4.out⟩
end Go.Proofs.Ytjbnffadfohofaa.CarryLives
end
-- MERGED YtjbnffadfohofaaCarryShowsL
section
namespace Go.Proofs.Ytjbnffadfohofaa.CarryShowsL
open Go.RowKit Go.Proofs.Ytjbnffadfohofaa.P Go.Proofs.YtjbnffadfohofaaW.PrintWords Go.Proofs.YtjbnffadfohofaaW.PrintLast Go.Proofs.YtjbnffadfohofaaW.PrintMore Go.Proofs.Ytjbnffadfohofaa.Own Go.Proofs.Ytjbnffadfohofaa.EditL Go.Proofs.Ytjbnffadfohofaa.EditK Go.Proofs.Ytjbnffadfohofaa.EditF Go.Proofs.Ytjbnffadfohofaa.EditH1 Go.Proofs.Ytjbnffadfohofaa.PlaceOv Go.Proofs.Ytjbnffadfohofaa.NoteN Go.Proofs.Ytjbnffadfohofaa.CarryN Go.Proofs.Ytjbnffadfohofaa.CarryM Go.Proofs.Ytjbnffadfohofaa.CarryR Go.Proofs.Ytjbnffadfohofaa.CarryS Go.Proofs.Ytjbnffadfohofaa.CarryLives
set_option linter.unusedSimpArgs false
set_option linter.unusedVariables false
theorem at_op {w : World} {A : Option Addr} {l : List (List EditL.Rn)} (h : Kd.C (Kd.slice 49 k49) w A l.length l) (j : Nat) (hj : j < l.length) : ∃ ad Ao co, A = some ad ∧ w.cell? (ad.add j) = some (.slice Ao (l.getD j []).length co) ∧ (l.getD j []).length ≤ co ∧ Kd.C k49 w Ao (l.getD j []).length (l.getD j []) := by
 obtain ⟨ad, e, hr⟩ := h.2.2 (by omega)
 obtain ⟨c, h1, ⟨Ao, co, rfl, hco, hC⟩, h3⟩ := hr j _ (List.getElem?_eq_getElem hj)
 have eg : l.getD j [] = l[j] := by rw [List.getD_eq_getElem?_getD, List.getElem?_eq_getElem hj]; rfl
 rw [eg]
 refine ⟨ad, Ao, co, e, ?_, hco, hC⟩
 have := h3 0 _ rfl
 rwa [show j * (Kd.slice 49 k49).sz + 0 = j by show j * 1 + 0 = j; omega] at this
structure Sw (g : Nat) (rev : Int) (n : Nat) (w : World) (now : List Nt) (At : Option Addr) (ct : Nat) (As : Option Addr) (cs : Nat) (many : Nat) (W : World) : Prop where
 len : now.length = n
 ct_ : now.length ≤ ct
 at_ : NC W At now
 far : ∀ ad, At = some ad → 0 < now.length → ad.block ≠ g
 cs_ : now.length ≤ cs
 as_ : NC W As now
 fas : ∀ ad, As = some ad → 0 < now.length → ad.block ≠ g
 sh : Sh g rev (.slice As now.length cs) (many : Int) true W
 lo : Below w.heap.size w W
set_option maxHeartbeats 32000000 in
set_option maxRecDepth 100000 in
theorem shows_c (rev : Int) (A : Option Addr) (c : Nat) (l : List Nt) (A1 : Option Addr) (c1 : Nat) (ops : List (List EditL.Rn)) (w : World) (hC : NC w A l) (hc : l.length ≤ c) (hO : Kd.C (Kd.slice 49 k49) w A1 ops.length ops) (hc1 : ops.length ≤ c1) :
  Calls Try.prog 4 #[.int .i64 rev, .slice A l.length c, .slice A1 ops.length c1] w fun e w' => e = .returned (.bool true) ∧ Below w.heap.size w w' := by
 obtain ⟨K, hK⟩ : ∃ K, K = 20000 := ⟨_, rfl⟩
 by_cases h40 : 40 < l.length
 ·have h40' : (40 : Int) < (l.length : Int) := by omega
  go_enter Try.func4, Try.ntmps4
  go_wp2_with fail
  refine (lives_c _).mono ?_
  rintro e w1 ⟨rfl, hb⟩
  go_wp2_with fail
  go_ret
  exact ⟨rfl, hb⟩
 have h40' : ¬ (40 : Int) < (l.length : Int) := by omega
 obtain ⟨t, ht, hli⟩ := CarryM.light_f ops K (by omega)
 have HLI := Aside0.mk (variorumlaw36_light.calls K A1 c1 ops t w hO hc1 ht)
 cases t with
 | false =>
  clear hC hO hc hc1 ht hli
  go_enter Try.func4, Try.ntmps4
  go_wp2_with fail
  refine HLI.out.mono ?_
  rintro e w0 ⟨rfl, hb0⟩
  have HB0 := Aside0.mk hb0
  clear hb0
  go_wp2_with fail
  refine (lives_c _).mono ?_
  rintro e w1 ⟨rfl, hb⟩
  have HB1 := Aside0.mk (below_step HB0.out hb)
  clear hb
  go_wp2_with fail
  go_ret
  exact ⟨rfl, HB1.out⟩
 | true =>
  obtain ⟨hol, hfw⟩ := hli rfl
  have HOL := Aside0.mk hol
  have HFW := Aside0.mk hfw
  have HC := Aside0.mk hC
  have HCC := Aside0.mk hc
  have HO := Aside0.mk hO
  have H40 := Aside0.mk (show l.length ≤ 40 by omega)
  have HKK := Aside0.mk hK
  have HN := Aside0.mk (fun W (hb : Below w.heap.size w W) => new_c rev A c l W (NC.below hC hb) hc (by omega))
  have HRN := Aside0.mk (fun W (hb : Below w.heap.size w W) => variorumref11_Notes.calls K A c l (fineL l) W (NC.below hC hb) hc (notes_f l (by omega) K (by omega)))
  have HLT := Aside0.mk (fun (ad : Addr) (e : A = some ad) (hp : 0 < l.length) => (show ad.block < w.heap.size by
   obtain ⟨ad2, e2, h0, _⟩ := at_nt hC 0 hp
   rw [e] at e2
   obtain rfl := Option.some.inj e2
   have := World.block_lt_of_cell? w _ h0
   rwa [show (ad.add (0 * 3)).block = ad.block by unfold Addr.add; split <;> rfl] at this))
  clear hC hO hc hc1 ht hli hol hfw hK h40
  go_enter Try.func4, Try.ntmps4
  go_wp2_with fail
  refine HLI.out.mono ?_
  rintro e w0 ⟨rfl, hb0⟩
  have HB0 := Aside0.mk hb0
  clear hb0 HLI
  go_wp2_with fail
  refine (HN.out w0 HB0.out).mono ?_
  rintro e w1 ⟨hb1, hres⟩
  have HB1 := Aside0.mk (below_step HB0.out hb1)
  clear hb1 HN
  by_cases hr : rev < 0
  ·rcases hres with ⟨hq, rfl⟩ | ⟨hq, _⟩
   ·clear hq
    go_wp2_with fail
    refine (lives_c _).mono ?_
    rintro e w2 ⟨rfl, hb⟩
    have HB2 := Aside0.mk (below_step HB1.out hb)
    clear hb
    go_wp2_with fail
    go_ret
    exact ⟨rfl, HB2.out⟩
   ·rw [decide_eq_false (show ¬ 0 ≤ rev by omega), Bool.and_false] at hq; cases hq
  ·have HRN1 := Aside0.mk (HRN.out w1 HB1.out)
   rw [decide_eq_true (show 0 ≤ rev by omega), Bool.and_true] at hres
   have hr' : ¬ rev < 0 := hr
   cases hfl : fineL l with
   | false =>
    rw [hfl] at hres HRN1
    rcases hres with ⟨_, rfl⟩ | ⟨hq, _⟩
    ·clear hfl HRN
     go_wp2_with fail
     refine HRN1.out.mono ?_
     rintro e w2 ⟨rfl, hb⟩
     have HB2 := Aside0.mk (below_step HB1.out hb)
     clear hb
     go_wp2_with fail
     refine (lives_c _).mono ?_
     rintro e w3 ⟨rfl, hb⟩
     have HB3 := Aside0.mk (below_step HB2.out hb)
     clear hb
     go_wp2_with fail
     go_ret
     exact ⟨rfl, HB3.out⟩
    ·cases hq
   | true =>
    rw [hfl] at hres HRN1
    rcases hres with ⟨hq, _⟩ | ⟨_, g, rfl, hg, hs⟩
    ·cases hq
    have HGE := Aside0.mk (Nat.le_trans HB0.out.size hg)
    have HS1 := Aside0.mk hs
    clear hfl HRN hg hs
    go_wp2_with fail
    refine HRN1.out.mono ?_
    rintro e w2 ⟨rfl, hb⟩
    have HB2 := Aside0.mk (below_step HB1.out hb)
    have HSW := Aside0.mk (show Sw g rev l.length w l A c A c 0 w2 from ⟨rfl, HCC.out, NC.below HC.out HB2.out, fun ad e hp => by have := HLT.out ad e hp; have := HGE.out; omega, HCC.out, NC.below HC.out HB2.out, fun ad e hp => by have := HLT.out ad e hp; have := HGE.out; omega, HS1.out.below hb, HB2.out⟩)
    clear hb HRN1 HS1 HB1 HB0
    go_wp2_with fail
    go_loopw [8, 9, 44] (fun tv mv iv wr => ∃ (j many : Nat) (now : List Nt) (At : Option Addr) (ct : Nat) (As : Option Addr) (cs : Nat), j ≤ ops.length ∧ many ≤ j ∧ tv = .slice At now.length ct ∧ mv = .int .i64 (many : Int) ∧ iv = .int .i64 (j : Int) ∧ Sw g rev l.length w now At ct As cs many wr) (fun _ _ iv _ => ops.length - (intOf iv).toNat)
    case atStart => exact ⟨0, 0, l, A, c, A, c, Nat.zero_le _, Nat.le_refl _, rfl, rfl, rfl, HSW.out⟩
    case round =>
     clear HSW HB2
     obtain ⟨j, many, now, At, ct, As, cs, hj, hm, rfl, rfl, rfl, hsw⟩ := hrel
     have HW := Aside0.mk hsw
     have HMJ := Aside0.mk hm
     clear hsw hm
     by_cases hlt : j < ops.length
     ·have hlt' : (j : Int) < (ops.length : Int) := by omega
      have h12 : j < 12 := by have := HOL.out; omega
      obtain ⟨ad, Ao, co, rfl, y, hco, hCo⟩ := at_op (Kd.C_below HO.out HW.out.lo) j hlt
      obtain ⟨op, hop⟩ : ∃ op, op = ops.getD j [] := ⟨_, rfl⟩
      rw [← hop] at y hco hCo
      have hfo : Fw op := HFW.out op (by rw [hop, List.getD_eq_getElem?_getD, List.getElem?_eq_getElem hlt]; exact List.getElem_mem hlt)
      have hf1 : ∀ x ∈ [op], Fw x := fun x hx => by rw [List.mem_singleton.1 hx]; exact hfo
      have hnl : now.length ≤ 1000 := by have := HW.out.len; have := H40.out; omega
      obtain ⟨nx, okm, hmv⟩ : ∃ nx okm, moveS [op] now = (nx, okm) := ⟨_, _, rfl⟩
      have HRM := Aside0.mk (variorumref36_Move.calls K At ct now (some ⟨wr.heap.size, 0, none⟩) 1 [op] nx okm (wr.alloc (.cells #[.slice Ao op.length co] 34)) (NC.below HW.out.at_ (below_alloc (Below.refl _ _) _)) HW.out.ct_ (one_op hCo hco) (by simp) (by rw [rmove_f [op] (by simp) hf1 now hnl K (by have := HKK.out; omega), hmv]))
      have HCM := Aside0.mk (show carry_Move.f K now [op] = some (nx, okm) by rw [move_f [op] (by simp) hf1 now hnl K (by have := HKK.out; omega), hmv])
      have HGD := Aside0.mk (show edit_Good.f K op = some (good op) from EditF.good_f (by have := hfo.1; omega) K (by have := hfo.1; have := HKK.out; omega))
      have HRG := Aside0.mk (fun W (hb : Below wr.heap.size wr W) => variorumref06_Good.calls Ao co op (good op) W (Kd.C_below hCo hb) hco (rgood_f (by have := hfo.1; omega)))
      have HCO := Aside0.mk hCo
      have HCB := Aside0.mk hco
      have HLN := Aside0.mk (fun h : okm = true => (show nx.length = now.length by have := move_len (ops := [op]) (l := now) (by rw [hmv]; exact h); rwa [hmv] at this))
      have HGO := Aside0.mk (fun (h : okm = true) (h0 : 0 < l.length) => move_good (op := op) (l := now) (by rw [hmv]; exact h) (by rw [HW.out.len]; exact h0))
      have HNL := Aside0.mk (show nx.length ≤ 1000 by have := moveS_length [op] now; rw [hmv] at this; exact Nat.le_trans this hnl)
      have HNO := Aside0.mk hnl
      have HAL := Aside0.mk (below_alloc (Below.refl wr.heap.size wr) (.cells #[.slice Ao op.length co] 34))
      clear hfo hf1 hmv hop hCo hco hnl
      go_wp2_with fail
      refine HRM.out.mono ?_
      rintro e w3 ⟨v, rfl, hrow, hb⟩
      have HB3 := Aside0.mk (HAL.out.trans (hb.mono HAL.out.size))
      obtain ⟨An, cn, rfl, hcn, hCn, hfn⟩ := Nr.of_R (B' := wr.heap.size) hrow (by simp)
      have HCN := Aside0.mk hCn
      have HFN := Aside0.mk hfn
      have HEN := Aside0.mk hcn
      clear hrow hb y hCn hfn hcn HRM HAL
      cases okm with
      | false =>
       have HOW := Aside0.mk (own_c g rev (many : Int) As cs now Ao co op w3 (HW.out.sh.below HB3.out) (NC.below HW.out.as_ HB3.out) HW.out.cs_ (Kd.C_below HCO.out HB3.out) HCB.out K nx false HCM.out (good op) HGD.out (by have := HMJ.out; omega))
       go_wp2_with fail
       refine HOW.out.mono ?_
       rintro e w5 ⟨hgr, hres⟩
       clear HOW
       rcases hres with ⟨_, rfl, hs5⟩ | ⟨hq, _⟩
       rotate_left
       ·cases hq
       have HLO5 := Aside0.mk (show Below w.heap.size w w5 from (below_step HW.out.lo HB3.out).grown hgr (Nat.le_trans HW.out.lo.size HB3.out.size) (fun k e => by cases e; exact HGE.out))
       have keep : ∀ (X : Option Addr), NC wr X now → (∀ ad, X = some ad → 0 < now.length → ad.block ≠ g) → NC w5 X now := fun X hX hne => NC.far (NC.below hX HB3.out) (fun ad e hp => hgr.block ad.block (by
         obtain ⟨ad2, e2, h0, _⟩ := at_nt (NC.below hX HB3.out) 0 hp
         rw [e] at e2
         obtain rfl := Option.some.inj e2
         have := World.block_lt_of_cell? w3 _ h0
         rwa [show (ad.add (0 * 3)).block = ad.block by unfold Addr.add; split <;> rfl] at this) (fun e3 => hne ad e hp (Option.some.inj e3)))
       have HSW5 := Aside0.mk (show Sw g rev l.length w now At ct As cs many w5 from ⟨HW.out.len, HW.out.ct_, keep At HW.out.at_ HW.out.far, HW.out.far, HW.out.cs_, keep As HW.out.as_ HW.out.fas, HW.out.fas, hs5, HLO5.out⟩)
       clear keep hs5 hgr
       have HRV := Aside0.mk (rev_c g rev _ _ w5 HSW5.out.sh)
       have HOP := Aside0.mk (ops_c g rev _ _ w5 HSW5.out.sh)
       have HNT := Aside0.mk (notes_c g rev _ As cs now w5 HSW5.out.sh HSW5.out.as_ (by have := HNO.out; omega))
       have HNX := Aside0.mk (fun W (hb : Below w5.heap.size w5 W) (v : Value) (hv : Nr w5.heap.size W v now) => (show Calls Try.prog 11 #[v, .slice At now.length ct] W fun e w' => e = .returned (.bool true) ∧ Below W.heap.size W w' by
        obtain ⟨Av, cv, rfl, hcv, hCv, _⟩ := hv
        refine (variorumref26_Notes.calls K Av cv now At ct now true W hCv hcv (NC.below HSW5.out.at_ hb) HSW5.out.ct_ (CarryM.same_f now HNO.out K (by have := HNO.out; have := HKK.out; omega))).mono ?_
        rintro e w' ⟨rfl, d, rfl⟩
        exact ⟨rfl, pw_below_drewN (Below.refl _ _) d⟩))
       go_wp2_with fail
       refine HRV.out.mono ?_
       rintro e w6 ⟨rfl, rfl⟩
       go_wp2_with fail
       refine HOP.out.mono ?_
       rintro e w7 ⟨rfl, rfl⟩
       go_wp2_with fail
       refine HNT.out.mono ?_
       rintro e w8 ⟨u, rfl, hu, hb8⟩
       have HU := Aside0.mk hu
       have HB8 := Aside0.mk hb8
       clear hu hb8
       go_wp2_with fail
       refine (HNX.out w8 HB8.out u HU.out).mono ?_
       rintro e w9 ⟨rfl, hb9⟩
       have HB9 := Aside0.mk (below_step HB8.out hb9)
       clear hb9
       go_wp2_with fail
       go_roundw
       case rel => exact ⟨j + 1, many, now, At, ct, As, cs, by omega, by have := HMJ.out; omega, rfl, rfl, by go_num, ⟨HSW5.out.len, HSW5.out.ct_, NC.below HSW5.out.at_ HB9.out, HSW5.out.far, HSW5.out.cs_, NC.below HSW5.out.as_ HB9.out, HSW5.out.fas, HSW5.out.sh.below HB9.out, below_step HSW5.out.lo HB9.out⟩⟩
       case measure => simp [intOf]; omega
      | true =>
       by_cases h0 : 0 < l.length
       ·have h0' : (0 : Int) < (l.length : Int) := by omega
        have HGG := Aside0.mk (HGO.out rfl h0)
        rw [HGG.out] at HGD
        have HOW := Aside0.mk (own_c g rev (many : Int) As cs now Ao co op w3 (HW.out.sh.below HB3.out) (NC.below HW.out.as_ HB3.out) HW.out.cs_ (Kd.C_below HCO.out HB3.out) HCB.out K nx true HCM.out true HGD.out (by have := HMJ.out; omega))
        go_wp2_with fail
        refine HOW.out.mono ?_
        rintro e w5 ⟨hgr, hres⟩
        clear HOW
        rcases hres with ⟨hq, _⟩ | ⟨_, rfl, A5, c5, hc5, hC5, hf5, hs5⟩
        ·cases hq
        have HLO5 := Aside0.mk (show Below w.heap.size w w5 from (below_step HW.out.lo HB3.out).grown hgr (Nat.le_trans HW.out.lo.size HB3.out.size) (fun k e => by cases e; exact HGE.out))
        have hne : ∀ ad, An = some ad → 0 < nx.length → ad.block ≠ g := fun ad e hp => by
         have h1 := HFN.out ad e hp
         have h2 := HW.out.sh.lt
         omega
        have HC5 := Aside0.mk (show NC w5 An nx from NC.far (NC.below HCN.out (Below.refl _ _)) (fun ad e hp => hgr.block ad.block (by
          obtain ⟨ad2, e2, h0, _⟩ := at_nt (NC.below HCN.out (Below.refl _ _)) 0 hp
          rw [e] at e2
          obtain rfl := Option.some.inj e2
          have := World.block_lt_of_cell? w3 _ h0
          rwa [show (ad.add (0 * 3)).block = ad.block by unfold Addr.add; split <;> rfl] at this) (fun e3 => hne ad e hp (Option.some.inj e3))))
        have HSW5 := Aside0.mk (show Sw g rev l.length w nx An cn A5 c5 (many + 1) w5 from ⟨(HLN.out (by trivial)).trans HW.out.len, HEN.out, HC5.out, hne, hc5, hC5, fun ad e hp => by have h1 := hf5 ad e hp; have h2 := HW.out.sh.lt; have h3 := HB3.out.size; omega, hs5, HLO5.out⟩)
        clear hne hc5 hC5 hf5 hs5 hgr
        have HM1 := Aside0.mk (show wrap64 ((many : Int) + 1) = ((many + 1 : Nat) : Int) by have := HMJ.out; unfold wrap64; omega)
        have hm12 : many < 12 := by have := HMJ.out; omega
        have HRV := Aside0.mk (rev_c g rev _ _ w5 HSW5.out.sh)
        have HOP := Aside0.mk (ops_c g rev _ _ w5 HSW5.out.sh)
        have HNT := Aside0.mk (notes_c g rev _ A5 c5 nx w5 HSW5.out.sh HSW5.out.as_ (by have := HNL.out; omega))
        have HNX := Aside0.mk (fun W (hb : Below w5.heap.size w5 W) (v : Value) (hv : Nr w5.heap.size W v nx) => (show Calls Try.prog 11 #[v, .slice An nx.length cn] W fun e w' => e = .returned (.bool true) ∧ Below W.heap.size W w' by
         obtain ⟨Av, cv, rfl, hcv, hCv, _⟩ := hv
         refine (variorumref26_Notes.calls K Av cv nx An cn nx true W hCv hcv (NC.below HSW5.out.at_ hb) HSW5.out.ct_ (CarryM.same_f nx HNL.out K (by have := HNL.out; have := HKK.out; omega))).mono ?_
         rintro e w' ⟨rfl, d, rfl⟩
         exact ⟨rfl, pw_below_drewN (Below.refl _ _) d⟩))
        go_wp2_with (first | rw [HM1.out])
        refine HRV.out.mono ?_
        rintro e w6 ⟨rfl, rfl⟩
        go_wp2_with fail
        refine HOP.out.mono ?_
        rintro e w7 ⟨rfl, rfl⟩
        go_wp2_with (first | rw [HM1.out])
        refine HNT.out.mono ?_
        rintro e w8 ⟨u, rfl, hu, hb8⟩
        have HU := Aside0.mk hu
        have HB8 := Aside0.mk hb8
        clear hu hb8
        go_wp2_with fail
        refine (HNX.out w8 HB8.out u HU.out).mono ?_
        rintro e w9 ⟨rfl, hb9⟩
        have HB9 := Aside0.mk (below_step HB8.out hb9)
        clear hb9
        go_wp2_with fail
        go_roundw
        case rel => exact ⟨j + 1, many + 1, nx, An, cn, A5, c5, by omega, by have := HMJ.out; omega, rfl, rfl, by go_num, ⟨HSW5.out.len, HSW5.out.ct_, NC.below HSW5.out.at_ HB9.out, HSW5.out.far, HSW5.out.cs_, NC.below HSW5.out.as_ HB9.out, HSW5.out.fas, HSW5.out.sh.below HB9.out, below_step HSW5.out.lo HB9.out⟩⟩
        case measure => simp [intOf]; omega
       ·have h0' : ¬ (0 : Int) < (l.length : Int) := by omega
        have HRG3 := Aside0.mk (HRG.out w3 HB3.out)
        cases hgd : good op with
        | false =>
         rw [hgd] at HGD HRG3
         clear hgd HRG
         go_wp2_with fail
         refine HRG3.out.mono ?_
         rintro e w4 ⟨rfl, hb4⟩
         have HB4 := Aside0.mk (below_step HB3.out hb4)
         clear hb4 HRG3
         have HOW := Aside0.mk (own_c g rev (many : Int) As cs now Ao co op w4 (HW.out.sh.below HB4.out) (NC.below HW.out.as_ HB4.out) HW.out.cs_ (Kd.C_below HCO.out HB4.out) HCB.out K nx true HCM.out false HGD.out (by have := HMJ.out; omega))
         go_wp2_with fail
         refine HOW.out.mono ?_
         rintro e w5 ⟨hgr, hres⟩
         clear HOW
         rcases hres with ⟨_, rfl, hs5⟩ | ⟨hq, _⟩
         rotate_left
         ·cases hq
         have HLO5 := Aside0.mk (show Below w.heap.size w w5 from (below_step HW.out.lo HB4.out).grown hgr (Nat.le_trans HW.out.lo.size HB4.out.size) (fun k e => by cases e; exact HGE.out))
         have keep : ∀ (X : Option Addr), NC wr X now → (∀ ad, X = some ad → 0 < now.length → ad.block ≠ g) → NC w5 X now := fun X hX hne => NC.far (NC.below hX HB4.out) (fun ad e hp => hgr.block ad.block (by
           obtain ⟨ad2, e2, h0, _⟩ := at_nt (NC.below hX HB4.out) 0 hp
           rw [e] at e2
           obtain rfl := Option.some.inj e2
           have := World.block_lt_of_cell? w4 _ h0
           rwa [show (ad.add (0 * 3)).block = ad.block by unfold Addr.add; split <;> rfl] at this) (fun e3 => hne ad e hp (Option.some.inj e3)))
         have HSW5 := Aside0.mk (show Sw g rev l.length w now At ct As cs many w5 from ⟨HW.out.len, HW.out.ct_, keep At HW.out.at_ HW.out.far, HW.out.far, HW.out.cs_, keep As HW.out.as_ HW.out.fas, HW.out.fas, hs5, HLO5.out⟩)
         clear keep hs5 hgr
         have HRV := Aside0.mk (rev_c g rev _ _ w5 HSW5.out.sh)
         have HOP := Aside0.mk (ops_c g rev _ _ w5 HSW5.out.sh)
         have HNT := Aside0.mk (notes_c g rev _ As cs now w5 HSW5.out.sh HSW5.out.as_ (by have := HNO.out; omega))
         have HNX := Aside0.mk (fun W (hb : Below w5.heap.size w5 W) (v : Value) (hv : Nr w5.heap.size W v now) => (show Calls Try.prog 11 #[v, .slice At now.length ct] W fun e w' => e = .returned (.bool true) ∧ Below W.heap.size W w' by
          obtain ⟨Av, cv, rfl, hcv, hCv, _⟩ := hv
          refine (variorumref26_Notes.calls K Av cv now At ct now true W hCv hcv (NC.below HSW5.out.at_ hb) HSW5.out.ct_ (CarryM.same_f now HNO.out K (by have := HNO.out; have := HKK.out; omega))).mono ?_
          rintro e w' ⟨rfl, d, rfl⟩
          exact ⟨rfl, pw_below_drewN (Below.refl _ _) d⟩))
         go_wp2_with fail
         refine HRV.out.mono ?_
         rintro e w6 ⟨rfl, rfl⟩
         go_wp2_with fail
         refine HOP.out.mono ?_
         rintro e w7 ⟨rfl, rfl⟩
         go_wp2_with fail
         refine HNT.out.mono ?_
         rintro e w8 ⟨u, rfl, hu, hb8⟩
         have HU := Aside0.mk hu
         have HB8 := Aside0.mk hb8
         clear hu hb8
         go_wp2_with fail
         refine (HNX.out w8 HB8.out u HU.out).mono ?_
         rintro e w9 ⟨rfl, hb9⟩
         have HB9 := Aside0.mk (below_step HB8.out hb9)
         clear hb9
         go_wp2_with fail
         go_roundw
         case rel => exact ⟨j + 1, many, now, At, ct, As, cs, by omega, by have := HMJ.out; omega, rfl, rfl, by go_num, ⟨HSW5.out.len, HSW5.out.ct_, NC.below HSW5.out.at_ HB9.out, HSW5.out.far, HSW5.out.cs_, NC.below HSW5.out.as_ HB9.out, HSW5.out.fas, HSW5.out.sh.below HB9.out, below_step HSW5.out.lo HB9.out⟩⟩
         case measure => simp [intOf]; omega
        | true =>
         rw [hgd] at HGD HRG3
         clear hgd HRG
         go_wp2_with fail
         refine HRG3.out.mono ?_
         rintro e w4 ⟨rfl, hb4⟩
         have HB4 := Aside0.mk (below_step HB3.out hb4)
         have HX4 := Aside0.mk hb4
         clear hb4 HRG3
         have HOW := Aside0.mk (own_c g rev (many : Int) As cs now Ao co op w4 (HW.out.sh.below HB4.out) (NC.below HW.out.as_ HB4.out) HW.out.cs_ (Kd.C_below HCO.out HB4.out) HCB.out K nx true HCM.out true HGD.out (by have := HMJ.out; omega))
         go_wp2_with fail
         refine HOW.out.mono ?_
         rintro e w5 ⟨hgr, hres⟩
         clear HOW
         rcases hres with ⟨hq, _⟩ | ⟨_, rfl, A5, c5, hc5, hC5, hf5, hs5⟩
         ·cases hq
         have HLO5 := Aside0.mk (show Below w.heap.size w w5 from (below_step HW.out.lo HB4.out).grown hgr (Nat.le_trans HW.out.lo.size HB4.out.size) (fun k e => by cases e; exact HGE.out))
         have hne : ∀ ad, An = some ad → 0 < nx.length → ad.block ≠ g := fun ad e hp => by
          have h1 := HFN.out ad e hp
          have h2 := HW.out.sh.lt
          omega
         have HC5 := Aside0.mk (show NC w5 An nx from NC.far (NC.below HCN.out HX4.out) (fun ad e hp => hgr.block ad.block (by
           obtain ⟨ad2, e2, h0, _⟩ := at_nt (NC.below HCN.out HX4.out) 0 hp
           rw [e] at e2
           obtain rfl := Option.some.inj e2
           have := World.block_lt_of_cell? w4 _ h0
           rwa [show (ad.add (0 * 3)).block = ad.block by unfold Addr.add; split <;> rfl] at this) (fun e3 => hne ad e hp (Option.some.inj e3))))
         have HSW5 := Aside0.mk (show Sw g rev l.length w nx An cn A5 c5 (many + 1) w5 from ⟨(HLN.out (by trivial)).trans HW.out.len, HEN.out, HC5.out, hne, hc5, hC5, fun ad e hp => by have h1 := hf5 ad e hp; have h2 := HW.out.sh.lt; have h3 := HB4.out.size; omega, hs5, HLO5.out⟩)
         clear hne hc5 hC5 hf5 hs5 hgr
         have HM1 := Aside0.mk (show wrap64 ((many : Int) + 1) = ((many + 1 : Nat) : Int) by have := HMJ.out; unfold wrap64; omega)
         have hm12 : many < 12 := by have := HMJ.out; omega
         have HRV := Aside0.mk (rev_c g rev _ _ w5 HSW5.out.sh)
         have HOP := Aside0.mk (ops_c g rev _ _ w5 HSW5.out.sh)
         have HNT := Aside0.mk (notes_c g rev _ A5 c5 nx w5 HSW5.out.sh HSW5.out.as_ (by have := HNL.out; omega))
         have HNX := Aside0.mk (fun W (hb : Below w5.heap.size w5 W) (v : Value) (hv : Nr w5.heap.size W v nx) => (show Calls Try.prog 11 #[v, .slice An nx.length cn] W fun e w' => e = .returned (.bool true) ∧ Below W.heap.size W w' by
          obtain ⟨Av, cv, rfl, hcv, hCv, _⟩ := hv
          refine (variorumref26_Notes.calls K Av cv nx An cn nx true W hCv hcv (NC.below HSW5.out.at_ hb) HSW5.out.ct_ (CarryM.same_f nx HNL.out K (by have := HNL.out; have := HKK.out; omega))).mono ?_
          rintro e w' ⟨rfl, d, rfl⟩
          exact ⟨rfl, pw_below_drewN (Below.refl _ _) d⟩))
         go_wp2_with (first | rw [HM1.out])
         refine HRV.out.mono ?_
         rintro e w6 ⟨rfl, rfl⟩
         go_wp2_with fail
         refine HOP.out.mono ?_
         rintro e w7 ⟨rfl, rfl⟩
         go_wp2_with (first | rw [HM1.out])
         refine HNT.out.mono ?_
         rintro e w8 ⟨u, rfl, hu, hb8⟩
         have HU := Aside0.mk hu
         have HB8 := Aside0.mk hb8
         clear hu hb8
         go_wp2_with fail
         refine (HNX.out w8 HB8.out u HU.out).mono ?_
         rintro e w9 ⟨rfl, hb9⟩
         have HB9 := Aside0.mk (below_step HB8.out hb9)
         clear hb9
         go_wp2_with fail
         go_roundw
         case rel => exact ⟨j + 1, many + 1, nx, An, cn, A5, c5, by omega, by have := HMJ.out; omega, rfl, rfl, by go_num, ⟨HSW5.out.len, HSW5.out.ct_, NC.below HSW5.out.at_ HB9.out, HSW5.out.far, HSW5.out.cs_, NC.below HSW5.out.as_ HB9.out, HSW5.out.fas, HSW5.out.sh.below HB9.out, below_step HSW5.out.lo HB9.out⟩⟩
         case measure => simp [intOf]; omega
     ·obtain rfl : j = ops.length := by omega
      have hlt' : ¬ ((ops.length : Int) < (ops.length : Int)) := by omega
      go_wp2_with fail
      refine (lives_c _).mono ?_
      rintro e w3 ⟨rfl, hb⟩
      have HB3 := Aside0.mk (below_step HW.out.lo hb)
      clear hb
      go_wp2_with fail
      go_ret
      exact ⟨rfl, HB3.out⟩
theorem row (a : Int) (A : Option Addr) (c : Nat) (x : List ((Int × Int) × Int)) (A1 : Option Addr) (c1 : Nat) (x1 : List (List (Int × ByteArray × Int))) (w : World) (_ : (Lit.int .i64 a).wf = true) (h : Kd.C (Kd.pair (Kd.pair (Kd.int .i64) (Kd.int .i64)) (Kd.int .i64)) w A x.length x) (hc : x.length ≤ c)
  (hok : x.length ≤ maxLen ∧ ∀ y ∈ x, (fun x : (Int × Int) × Int => (fun x : Int × Int => (Lit.int .i64 x.1).wf = true ∧ (Lit.int .i64 x.2).wf = true) x.1 ∧ (Lit.int .i64 x.2).wf = true) y)
  (h2 : Kd.C (Kd.slice 49 (Kd.pair (Kd.int .i64) (Kd.pair Kd.string (Kd.int .i64)))) w A1 x1.length x1) (hc1 : x1.length ≤ c1)
  (hok2 : x1.length ≤ maxLen ∧ ∀ y ∈ x1, (fun l : List (Int × ByteArray × Int) => l.length ≤ maxLen ∧ ∀ x ∈ l, (fun x : Int × ByteArray × Int => (Lit.int .i64 x.1).wf = true ∧ x.2.1.size ≤ maxLen ∧ (Lit.int .i64 x.2.2).wf = true) x) y) :
  Calls Try.prog 4 #[.int .i64 a, .slice A x.length c, .slice A1 x1.length c1] w fun e w' => e = .returned (.bool true) ∧ Below w.heap.size w w' := by
 have hC : NC w A (x.map mkN) := by
  have := Maps1.C_map (d := Kd.pair (Kd.pair (Kd.int .i64) (Kd.int .i64)) (Kd.int .i64)) (d' := k44) rfl mkN (fun x cs hx => hx) h
  rw [NC, List.length_map]; exact this
 have hC2 : Kd.C (Kd.slice 49 k49) w A1 x1.length (x1.map (fun l => l.map LightF.mk)) := Maps1.C_map (d := Kd.slice 49 (Kd.pair (Kd.int .i64) (Kd.pair Kd.string (Kd.int .i64)))) (d' := Kd.slice 49 k49) rfl _ (fun x cs hx => Maps1.K_slice_map (d := Kd.pair (Kd.int .i64) (Kd.pair Kd.string (Kd.int .i64))) (d' := k49) rfl LightF.mk (fun x cs hx => hx) x cs hx) h2
 have := shows_c a A c (x.map mkN) A1 c1 (x1.map (fun l => l.map LightF.mk)) w hC (by rw [List.length_map]; exact hc) (by rw [List.length_map]; exact hC2) (by rw [List.length_map]; exact hc1)
 rw [List.length_map, List.length_map] at this
 exact this
end Go.Proofs.Ytjbnffadfohofaa.CarryShowsL
end
-- MERGED YtjbnffadfohofaaOpens
section
namespace Go.Proofs.Ytjbnffadfohofaa.Opens
open Go.ChangeShapes Go.WideShapes Go.Deep Go.RowKit Go.Proofs.YtjbnffadfohofaaW.PrintWords
def Opens {α : Type} (P : Program) (t : TypeId) (d : Kd α) (ok : α → Prop) : Prop :=
 P.cellsOf t = d.sz ∧ ∀ (H : Type) (enc : TypeId × Value → H) (w : World) (base : Nat) (sp : Nat → Bool) (held : Bool) (fuel : Nat) (cs : List Value) (x : DataW H × List MemPlace),
  DataW.trod enc P w base sp held fuel t cs = some x → ∃ a : α, d.K w a cs ∧ ok a
theorem list_of {α : Type} (Q : Nat → α → Prop) : ∀ len : Nat, (∀ i, i < len → ∃ x, Q i x) → ∃ l : List α, l.length = len ∧ ∀ i x, l[i]? = some x → Q i x
 | 0, _ => ⟨[], rfl, fun i x hx => by simp at hx⟩
 | k + 1, each => by
  obtain ⟨l, hl, hf⟩ := list_of Q k (fun i hi => each i (by omega))
  obtain ⟨x, h1⟩ := each k (by omega)
  refine ⟨l ++ [x], by simp [hl], fun i y hy => ?_⟩
  by_cases hik : i < l.length
  ·rw [List.getElem?_append_left hik] at hy
   exact hf i y hy
  ·rw [List.getElem?_append_right (by omega)] at hy
   have hi0 : i - l.length = 0 := by
    rcases Nat.eq_zero_or_pos (i - l.length) with h | h
    ·exact h
    ·rw [List.getElem?_eq_none (by simp; omega)] at hy; cases hy
   rw [hi0] at hy
   obtain rfl : x = y := by simpa using hy
   obtain rfl : i = k := by omega
   exact h1
section
variable {P : Program} {t e : TypeId} {α β γ δ : Type}
theorem int_ {k : IntKind} (ht : P.underlying t = some (.int k)) (hc : P.cellsOf t = 1) : Opens P t (Kd.int k) (fun n => (Lit.int k n).wf = true) :=
 ⟨hc, fun _ _ _ _ _ _ _ _ _ h => by
  obtain ⟨n, rfl, _, hw⟩ := DataW.trod_int ht h
  exact ⟨n, rfl, hw⟩⟩
theorem string_ (ht : P.underlying t = some .string) (hc : P.cellsOf t = 1) : Opens P t Kd.string (fun s => s.size ≤ maxLen) :=
 ⟨hc, fun _ _ _ _ _ _ _ _ _ h => by
  obtain ⟨n, rfl, _, hw⟩ := DataW.trod_string ht h
  exact ⟨n, rfl, hw⟩⟩
theorem slice_ {d : Kd α} {ok : α → Prop} (ht : P.underlying t = some (.slice e)) (hc : P.cellsOf t = 1) (he : Opens P e d ok) : Opens P t (Kd.slice e d) (fun l => l.length ≤ maxLen ∧ ∀ x ∈ l, ok x) := by
 refine ⟨hc, fun H enc w base sp held fuel cs x h => ?_⟩
 rcases open_slice ht h with ⟨rfl, _⟩ | ⟨a, len, cap, m, n, D, Pl, rfl, hb, hl, hm, hmm, _, hi⟩
 ·refine ⟨[], ⟨none, 0, rfl, Nat.le_refl _, rfl, Nat.zero_le _, fun h => absurd h (by simp)⟩, Nat.zero_le _, fun _ h => by cases h⟩
 ·have hlm : len ≤ m := by rw [hmm]; split <;> omega
  have each : ∀ i, i < len → ∃ (x : α) (cs' : List Value), w.cells? base (a.add (i * P.cellsOf e)) (P.cellsOf e) = some cs' ∧ d.K w x cs' ∧ ok x := by
   intro i hlt
   obtain ⟨cs', h1, h2⟩ := hi i (by omega)
   obtain ⟨x, h3, h4⟩ := he.2 H enc w base sp held n cs' _ h2
   exact ⟨x, cs', h1, h3, h4⟩
  have hex := list_of (fun i x => ∃ cs' : List Value, w.cells? base (a.add (i * P.cellsOf e)) (P.cellsOf e) = some cs' ∧ d.K w x cs' ∧ ok x) len each
  obtain ⟨l, hll, hf⟩ := hex
  subst hll
  refine ⟨l, ⟨some a, cap, rfl, hl, rfl, ?_, fun _ => ⟨a, rfl, fun j p hj => ?_⟩⟩, by omega, fun x hx => ?_⟩
  ·unfold maxLen at hm; omega
  ·obtain ⟨cs', h1, h2, _⟩ := hf j p hj
   obtain ⟨_, h3, h4⟩ := World.cells?_some h1
   refine ⟨cs', d.K_len h2, h2, fun i u hu => ?_⟩
   have hil : i < P.cellsOf e := by
    have := (List.getElem?_eq_some_iff.1 hu).1
    omega
   rw [← Go.Deep.add_add, ← he.1, h4 i hil, hu]
  ·obtain ⟨i, hi⟩ := List.getElem?_of_mem hx
   obtain ⟨_, _, _, h⟩ := hf i x hi
   exact h
theorem struct2_ {d0 : Kd α} {d1 : Kd β} {ok0 : α → Prop} {ok1 : β → Prop} {f0 f1 : Field} (ht : P.underlying t = some (.struct #[f0, f1])) (hc : P.cellsOf t = d0.sz + d1.sz) (h0 : Opens P f0.type d0 ok0) (h1 : Opens P f1.type d1 ok1) (o0 : f0.offset = 0) (o1 : f1.offset = d0.sz) :
  Opens P t (Kd.pair d0 d1) (fun x => ok0 x.1 ∧ ok1 x.2) := by
 refine ⟨hc, fun H enc w base sp held fuel cs x h => ?_⟩
 obtain ⟨ys, n, _, _, hl, hyl, hf⟩ := DataW.trod_struct ht h
 have g0 := hf 0 f0 rfl
 have g1 := hf 1 f1 rfl
 simp only [List.size_toArray, List.length_cons, List.length_nil] at hyl
 rw [List.getElem?_eq_getElem (by omega)] at g0 g1
 obtain ⟨a, ka, oa⟩ := h0.2 _ _ _ _ _ _ _ _ _ g0
 obtain ⟨b, kb, ob⟩ := h1.2 _ _ _ _ _ _ _ _ _ g1
 refine ⟨(a, b), ⟨_, _, ?_, ka, kb⟩, oa, ob⟩
 rw [o0, o1, h0.1, h1.1, List.drop_zero]
 rw [hc] at hl
 have e1 : (cs.drop d0.sz).take d1.sz = cs.drop d0.sz := List.take_of_length_le (by rw [List.length_drop]; omega)
 rw [e1, List.take_append_drop]
theorem struct3_ {d0 : Kd α} {d1 : Kd β} {d2 : Kd γ} {ok0 : α → Prop} {ok1 : β → Prop} {ok2 : γ → Prop} {f0 f1 f2 : Field} (ht : P.underlying t = some (.struct #[f0, f1, f2])) (hc : P.cellsOf t = d0.sz + (d1.sz + d2.sz)) (h0 : Opens P f0.type d0 ok0) (h1 : Opens P f1.type d1 ok1) (h2 : Opens P f2.type d2 ok2)
  (o0 : f0.offset = 0) (o1 : f1.offset = d0.sz) (o2 : f2.offset = d0.sz + d1.sz) : Opens P t (Kd.pair d0 (Kd.pair d1 d2)) (fun x => ok0 x.1 ∧ ok1 x.2.1 ∧ ok2 x.2.2) := by
 refine ⟨hc, fun H enc w base sp held fuel cs x h => ?_⟩
 obtain ⟨ys, n, _, _, hl, hyl, hf⟩ := DataW.trod_struct ht h
 have g0 := hf 0 f0 rfl
 have g1 := hf 1 f1 rfl
 have g2 := hf 2 f2 rfl
 simp only [List.size_toArray, List.length_cons, List.length_nil] at hyl
 rw [List.getElem?_eq_getElem (by omega)] at g0 g1 g2
 obtain ⟨a, ka, oa⟩ := h0.2 _ _ _ _ _ _ _ _ _ g0
 obtain ⟨b, kb, ob⟩ := h1.2 _ _ _ _ _ _ _ _ _ g1
 obtain ⟨c, kc, oc⟩ := h2.2 _ _ _ _ _ _ _ _ _ g2
 refine ⟨(a, b, c), ⟨_, _, ?_, ka, _, _, rfl, kb, kc⟩, oa, ob, oc⟩
 rw [o0, o1, o2, h0.1, h1.1, h2.1, List.drop_zero]
 rw [hc] at hl
 have e1 : (cs.drop (d0.sz + d1.sz)).take d2.sz = cs.drop (d0.sz + d1.sz) := List.take_of_length_le (by rw [List.length_drop]; omega)
 rw [e1, ← List.drop_drop, List.take_append_drop, List.take_append_drop]
theorem arg_ {d : Kd α} {ok : α → Prop} (ho : Opens P t d ok) {H : Type} {enc : TypeId × Value → H} {w : World} {base : Nat} {sp : Nat → Bool} {held : Bool} {v : Value} {x : DataW H} {ps : List MemPlace} (h : DataW.Trod enc P w base sp held t v x ps) : ∃ a : α, d.K w a v.cells.toList ∧ ok a := by
 obtain ⟨fuel, hf⟩ := h
 exact ho.2 _ _ _ _ _ _ _ _ _ hf
end
theorem slice_shape {α : Type} {e : Nat} {d : Kd α} {w : World} {a : Option Addr} {n c : Nat} {l : List α} (h : (Kd.slice e d).K w l (Value.slice a n c).cells.toList) : n = l.length ∧ l.length ≤ c ∧ Kd.C d w a l.length l := by
 obtain ⟨A, c', e1, hc, hC⟩ := h
 simp only [Value.cells, List.cons.injEq, Value.slice.injEq] at e1
 obtain ⟨⟨rfl, rfl, rfl⟩, _⟩ := e1
 exact ⟨rfl, hc, hC⟩
end Go.Proofs.Ytjbnffadfohofaa.Opens
end
-- MERGED YtjbnffadfohofaaWSized
namespace Go.Proofs.YtjbnffadfohofaaW.PrintWords
end Go.Proofs.YtjbnffadfohofaaW.PrintWords
-- MERGED YtjbnffadfohofaaLawCarryShows
section
namespace Go.Proofs.Ytjbnffadfohofaa.carryShows
open Go.ChangeShapes Go.WideShapes Go.ChangeAt Go.RowKit Go.Proofs.YtjbnffadfohofaaW.PrintWords
open Go.ChangeMaps (open_string shut_string)
set_option linter.unusedVariables false
theorem own : ownKnob Try.prog.godebug = none := by kernel_rfl
theorem laidOut : laidOutB Try.prog = true := by kernel_rfl
theorem o3 : Opens.Opens Try.prog 3 (Kd.int .i64) (fun n => (Lit.int .i64 n).wf = true) := Opens.int_ (t := 3) Try.underlying3 (by kernel_rfl)
theorem o42 : Opens.Opens Try.prog 42 (Kd.pair (Kd.int .i64) (Kd.int .i64)) (fun x => (fun n => (Lit.int .i64 n).wf = true) x.1 ∧ (fun n => (Lit.int .i64 n).wf = true) x.2) := Opens.struct2_ (t := 42) Try.underlying42 (by kernel_rfl) o3 o3 rfl rfl
theorem o44 : Opens.Opens Try.prog 44 (Kd.pair (Kd.pair (Kd.int .i64) (Kd.int .i64)) (Kd.int .i64)) (fun x => (fun x => (fun n => (Lit.int .i64 n).wf = true) x.1 ∧ (fun n => (Lit.int .i64 n).wf = true) x.2) x.1 ∧ (fun n => (Lit.int .i64 n).wf = true) x.2) := Opens.struct2_ (t := 44) Try.underlying44 (by kernel_rfl) o42 o3 rfl rfl
theorem o22 : Opens.Opens Try.prog 22 (Kd.slice 44 (Kd.pair (Kd.pair (Kd.int .i64) (Kd.int .i64)) (Kd.int .i64))) (fun l => l.length ≤ maxLen ∧ ∀ x ∈ l, (fun x => (fun x => (fun n => (Lit.int .i64 n).wf = true) x.1 ∧ (fun n => (Lit.int .i64 n).wf = true) x.2) x.1 ∧ (fun n => (Lit.int .i64 n).wf = true) x.2) x) := Opens.slice_ (t := 22) (e := 44) Try.underlying22 (by kernel_rfl) o44
theorem o9 : Opens.Opens Try.prog 9 Kd.string (fun s => s.size ≤ maxLen) := Opens.string_ (t := 9) Try.underlying9 (by kernel_rfl)
theorem o49 : Opens.Opens Try.prog 49 (Kd.pair (Kd.int .i64) (Kd.pair Kd.string (Kd.int .i64))) (fun x => (fun n => (Lit.int .i64 n).wf = true) x.1 ∧ (fun s => s.size ≤ maxLen) x.2.1 ∧ (fun n => (Lit.int .i64 n).wf = true) x.2.2) := Opens.struct3_ (t := 49) Try.underlying49 (by kernel_rfl) o3 o9 o3 rfl rfl rfl
theorem o34 : Opens.Opens Try.prog 34 (Kd.slice 49 (Kd.pair (Kd.int .i64) (Kd.pair Kd.string (Kd.int .i64)))) (fun l => l.length ≤ maxLen ∧ ∀ x ∈ l, (fun x => (fun n => (Lit.int .i64 n).wf = true) x.1 ∧ (fun s => s.size ≤ maxLen) x.2.1 ∧ (fun n => (Lit.int .i64 n).wf = true) x.2.2) x) := Opens.slice_ (t := 34) (e := 49) Try.underlying34 (by kernel_rfl) o49
theorem o23 : Opens.Opens Try.prog 23 (Kd.slice 34 (Kd.slice 49 (Kd.pair (Kd.int .i64) (Kd.pair Kd.string (Kd.int .i64))))) (fun l => l.length ≤ maxLen ∧ ∀ x ∈ l, (fun l => l.length ≤ maxLen ∧ ∀ x ∈ l, (fun x => (fun n => (Lit.int .i64 n).wf = true) x.1 ∧ (fun s => s.size ≤ maxLen) x.2.1 ∧ (fun n => (Lit.int .i64 n).wf = true) x.2.2) x) x) := Opens.slice_ (t := 23) (e := 34) Try.underlying23 (by kernel_rfl) o34
set_option maxRecDepth 100000 in
theorem lifted (os : Os) (started : os.Started) (H : Type) (enc : TypeId × Value → H) :
  ReturnsInHanded {} Try.checked os 4 .any (Rows.carryShowsSpec.pre6 enc Try.prog Try.f4 Rows.carryShowsRow.domain false) (Rows.carryShowsSpec.post enc Try.prog Try.f4 false true false false) := by
 refine returnsInHanded_of_change_sized (C := Try.checked) own started (by kernel_rfl) Try.func4
  (ChangeSpec.witness6 (enc := enc) (C := Try.checked) false ⟨#[], #[(.int .i64 0), (.slice none 0 0), (.slice none 0 0)], []⟩ 8 (by kernel_rfl) (by kernel_rfl) (by kernel_rfl) (by kernel_rfl)) ?_
 intro W base args ds gs before hval0 hW hcnd hsz0 _
 have hsz : (DataW.weightsEach Try.prog (Try.f4.params.toList ++ Rows.carryShowsSpec.plain.varTypes Try.prog) (ds ++ gs)).all (· ≤ reachBytes) = true := hsz0
 have hval : ∀ (j : Nat) t v, Try.f4.params[j]? = some t → args[j]? = some v → Value.okWide Try.prog W .any base t v := hval0
 have hW' := hW
 obtain ⟨p, q, hA0, hV, rfl, hfz, hnd⟩ := hW
 have hA : DataW.TrodAll enc Try.prog W 0 (fun _ => true) true Try.f4.params.toList args.toList ds p := hA0
 rw [Try.params4] at hA hval hsz
 obtain ⟨v0, vs0, d0, ds0, p0, q0, hargs, rfl, rfl, h0, r0⟩ := trodAll_cons hA
 obtain ⟨v1, vs1, d1, ds1, p1, q1, rfl, rfl, rfl, h1, r1⟩ := trodAll_cons r0
 obtain ⟨v2, vs2, d2, ds2, p2, q2, rfl, rfl, rfl, h2, r2⟩ := trodAll_cons r1
 obtain ⟨rfl, rfl, rfl⟩ := trodAll_nil r2
 obtain rfl : args = #[v0, v1, v2] := by cases args; simp_all
 obtain ⟨rfl, rfl⟩ := trodVars_none hV
 obtain ⟨a0, rfl, rfl, rfl, w0⟩ := open_int Try.underlying3 (hval 0 3 v0 rfl rfl) h0
 obtain ⟨a1, len1, cap1, rfl⟩ := okWide_slice Try.underlying22 (hval 1 22 v1 rfl rfl)
 have k1 := h1
 have lt1 : ∀ x ∈ p1, x.block < W.heap.size := by obtain ⟨m, hm⟩ := k1; exact DataW.trod_lt m _ _ _ hm
 obtain ⟨x1, hK1, ok1⟩ := Opens.arg_ o22 h1
 obtain ⟨rfl, hc1, hC1⟩ := Opens.slice_shape hK1
 obtain ⟨a2, len2, cap2, rfl⟩ := okWide_slice Try.underlying23 (hval 2 23 v2 rfl rfl)
 have k2 := h2
 have lt2 : ∀ x ∈ p2, x.block < W.heap.size := by obtain ⟨m, hm⟩ := k2; exact DataW.trod_lt m _ _ _ hm
 obtain ⟨x2, hK2, ok2⟩ := Opens.arg_ o23 h2
 obtain ⟨rfl, hc2, hC2⟩ := Opens.slice_shape hK2
 clear hA0 hval0 hsz0 hsz
 refine (CarryShowsL.row a0 a1 cap1 x1 a2 cap2 x2 W w0 hC1 hc1 ok1 hC2 hc2 ok2).mono fun e W' ⟨he, bel⟩ => ?_
 subst he
 exact ⟨_, rfl, _, _, _, [], _, [], hW', trodAll_mk1 (shut_bool Try.underlying4 _), (trodAll_cons_mk (shut_int Try.underlying3 w0) (trodAll_cons_mk (Below.trod laidOut (by kernel_rfl) (of_decide_eq_true (by kernel_rfl)) k1 bel lt1) (trodAll_cons_mk (Below.trod laidOut (by kernel_rfl) (of_decide_eq_true (by kernel_rfl)) k2 bel lt2) trodAll_mk0))), rfl, bel.frame _, fun h => by cases h⟩
theorem over : Rows.carryShowsRow.holds Try.pinned (OpenSpec.ofChange Rows.carryShowsSpec) :=
 OpenClaim.holds_of_wide 4 Try.f4 rfl rfl rfl rfl rfl rfl rfl ⟨rfl, rfl, rfl, rfl, rfl⟩ rfl rfl rfl rfl rfl (by kernel_rfl) Try.func4 (by kernel_rfl)
  (of_decide_eq_true (by kernel_rfl)) (by unfold Func.isWrapper; first | (rw [if_pos (by decide +kernel)]; kernel_rfl) | (rw [if_neg (by decide +kernel)]; exact ⟨rfl, rfl⟩))
  (fun os started H enc _ => lifted os started H enc)
theorem proved : Rows.CarryShowsSaid := over
#print axioms proved
end Go.Proofs.Ytjbnffadfohofaa.carryShows
namespace Go.Proofs.Ytjbnffadfohofaa
theorem carryShows_holds : Rows.CarryShowsSaid := carryShows.proved
end Go.Proofs.Ytjbnffadfohofaa
end

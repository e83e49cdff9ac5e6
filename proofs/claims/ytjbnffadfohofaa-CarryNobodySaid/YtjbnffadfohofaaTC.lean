import Derived.RangeFuncNested
import Derived.RangeFuncBound
import Derived.RangeFuncCalls
import Derived.RangeFuncLeaves
import Derived.Shelf.Abstract
import Derived.Shelf.RegionOpen
import Derived.WalkKit
import Derived.OwnWalkIn
import Derived.TacticsInMore
import Derived.LoopNIn
import Derived.LoopIn
import Derived.Test.YtjbnffadfohofaaTB
import Derived.Test.YtjbnffadfohofaaTA
import Derived.Deep.QuietTactic
import Derived.BigQuiet
-- MERGED YtjbnffadfohofaaPlaceI
section
/- The walk of the iterator of an edit's steps. -/
namespace Go.Proofs.Ytjbnffadfohofaa.PlaceI
open Go.RowKit Go.Shelf Go.Proofs.Ytjbnffadfohofaa.P Go.Proofs.YtjbnffadfohofaaW.PrintWords Go.Proofs.YtjbnffadfohofaaW.PrintLast Go.Proofs.YtjbnffadfohofaaW.PrintMore Go.Proofs.Ytjbnffadfohofaa.Own Go.Proofs.Ytjbnffadfohofaa.EditL Go.Proofs.Ytjbnffadfohofaa.EditK Go.Proofs.Ytjbnffadfohofaa.RangeG Go.Proofs.Ytjbnffadfohofaa.EditJ Go.Proofs.Ytjbnffadfohofaa.EditI Go.Proofs.Ytjbnffadfohofaa.EditR Go.Proofs.Ytjbnffadfohofaa.VaryR
attribute [local go_sem] Oper.semAt_some
set_option linter.unusedSimpArgs false
set_option linter.unusedVariables false

/-- A run, and how many bytes stand ahead of it. -/
structure St where
  r : Rn
  i : Int
  o : Int
def encS (s : St) : Array Value := #[.agg #[.int .i64 s.r.f0, .string s.r.f1, .int .i64 s.r.f2, .int .i64 s.i, .int .i64 s.o]]
def scs (s : St) : Obj := .cells #[.int .i64 s.r.f0, .string s.r.f1, .int .i64 s.r.f2, .int .i64 s.i, .int .i64 s.o] 76 (0, 0)
def stepsL : List Rn → Int → Int → List St
  | [], _, _ => []
  | r :: l, i, o => ⟨r, i, o⟩ :: stepsL l (i + (r.f0 + r.f2)) (o + (r.f0 + (r.f1.size : Int)))
theorem blk_step {W : World} {b : Nat} {s : St} (h : W.heap[b]? = some (scs s)) : W.cell? ⟨b, 0, none⟩ = some (.int .i64 s.r.f0) ∧ W.cell? ⟨b, 1, none⟩ = some (.string s.r.f1) ∧ W.cell? ⟨b, 2, none⟩ = some (.int .i64 s.r.f2) ∧ W.cell? ⟨b, 3, none⟩ = some (.int .i64 s.i) ∧ W.cell? ⟨b, 4, none⟩ = some (.int .i64 s.o) := by
  unfold scs at h
  exact ⟨by rw [cell_of_row W _ 0 _ _ _ h]; rfl, by rw [cell_of_row W _ 1 _ _ _ h]; rfl, by rw [cell_of_row W _ 2 _ _ _ h]; rfl, by rw [cell_of_row W _ 3 _ _ _ h]; rfl, by rw [cell_of_row W _ 4 _ _ _ h]; rfl⟩
set_option maxHeartbeats 4000000 in
set_option maxRecDepth 100000 in
theorem steps_it (A : Option Addr) (c T : Nat) (f : List Rn) (hf : ∀ r ∈ f, knd r ≠ 0) (hs : Sums 0 0 E f) (hl : f.length ≤ 140737488351232) : Gives Try.prog 53 #[.pointer (some ⟨T, 0, none⟩)] encS (stepsL f 0 0) (Held A c T f) := by
  intro n l J X W1 hP hK hY hJ
  obtain ⟨L, hL⟩ : ∃ L, L = stepsL f 0 0 := ⟨_, rfl⟩
  rw [← hL] at hY ⊢
  refine callsIn_of_wp Try.func53 rfl trivial ?_ rfl
  have HP := Aside0.mk hP
  have HK := Aside0.mk hK
  have HY := Aside0.mk hY
  have HL := Aside0.mk hL
  have HJ := Aside0.mk hJ
  have HF := Aside0.mk hf
  have HS := Aside0.mk hs
  have hh := hK _ _ _ hJ
  have cT : W1.cell? ⟨T, 0, none⟩ = some (.slice A f.length c) := by rw [cell_of_row _ _ 0 _ _ _ hh.1]; rfl
  have hT := (Array.getElem?_eq_some_iff.1 hh.1).1
  clear hP hK hY hL hJ hf hs hh
  simp only [Try.ntmps53, List.size_toArray, List.length_cons, List.length_nil, Nat.reduceAdd, Nat.reduceSub, Array.replicate_succ, Array.replicate_zero, List.push_toArray, List.append_toArray, List.nil_append, List.cons_append]
  gi_wp2
  obtain ⟨W2, hW2⟩ : ∃ W2, W2 = W1.alloc (.cells #[.int .i64 0, .string ⟨#[]⟩, .int .i64 0, .int .i64 0, .int .i64 0] 76) := ⟨_, rfl⟩
  have hJ2 : J [] (Priv.none.put W1.heap.size (scs ⟨⟨0, E, 0⟩, 0, 0⟩)) W2 := by
    rw [hW2]
    exact HP.out.lay HJ.out (below_alloc (Below.refl _ _) _) (Nat.le_refl _) (Own.heap_new _ _) rfl
  rw [← hW2]
  clear hW2
  obtain ⟨B3, hB3⟩ : ∃ b, b = W1.heap.size := ⟨_, rfl⟩
  rw [← hB3] at hJ2 ⊢
  have HJ2 := Aside0.mk hJ2
  clear hJ2 hB3 cT hT HJ
  gi_loopw [9] (fun iv wr => ∃ (i : Nat) (pre : List St) (s : St) (G : Priv), i ≤ f.length ∧ iv = .int .i64 (i : Int) ∧ J pre G wr ∧ pre ++ stepsL (f.drop i) s.i s.o = L ∧ G B3 = some (scs s) ∧ 0 ≤ s.i ∧ 0 ≤ s.o ∧ s.i + inL (f.drop i) ≤ 16777216 ∧ s.o + outL (f.drop i) ≤ 16777216) (fun iv _ => f.length - (intOf iv).toNat)
  case atStart => exact ⟨0, [], ⟨⟨0, E, 0⟩, 0, 0⟩, _, Nat.zero_le _, rfl, HJ2.out, HL.out.symm, Priv.put_same _ _ _, Int.le_refl _, Int.le_refl _, by have := HS.out.i; show (0 : Int) + inL f ≤ _; omega, by have := HS.out.o; rw [E_size] at this; show (0 : Int) + outL f ≤ _; omega⟩
  case round =>
    clear HJ2
    obtain ⟨i, pre, ⟨r0, si, so⟩, G, hi, rfl, hj, he, hg3, hsi, hso, hbi, hbo⟩ := hrel
    simp only at he hsi hso hbi hbo
    have HJr := Aside0.mk hj
    have HE := Aside0.mk he
    have HG3 := Aside0.mk hg3
    clear hj he hg3
    by_cases hlt : i < f.length
    · obtain ⟨ad, rfl, x0, x1, x2⟩ := at_nat (HK.out _ _ _ HJr.out).2 i hlt
      have hd' := EditK.drop_get hlt
      have hmem : f.getD i z49 ∈ f := by rw [List.getD_eq_getElem?_getD, List.getElem?_eq_getElem hlt]; exact List.getElem_mem hlt
      obtain ⟨r, hr⟩ : ∃ r, r = f.getD i z49 := ⟨_, rfl⟩
      rw [← hr] at x0 x1 x2 hd' hmem
      have hp := knd_pos (HF.out r hmem)
      have hs4 := inL_nonneg (l := f.drop (i + 1)) (fun x hx => HF.out x (List.mem_of_mem_drop hx))
      rw [hd'] at hbi hbo
      simp only [inL, outL] at hbi hbo
      have HD := Aside0.mk hd'
      have HBI := Aside0.mk hbi
      have HBO := Aside0.mk hbo
      have hb1 : si ≤ 16777216 := by omega
      have hb2 : so ≤ 16777216 := by omega
      have hb3 : 0 ≤ r.f0 := hp.1
      have hb4 : 0 ≤ r.f2 := hp.2
      have hb5 : r.f0 ≤ 16777216 := by omega
      have hb6 : r.f2 ≤ 16777216 := by omega
      have hb7 : (r.f1.size : Int) ≤ 16777216 := by omega
      have hlt' : (i : Int) < (f.length : Int) := by omega
      have hq := HP.out.lies _ _ _ HJr.out _ _ HG3.out
      obtain ⟨y0, y1, y2, y3, y4⟩ := blk_step hq
      have fa : ∀ o, wr.frozen? ⟨B3, o, none⟩ = false := fun o => frozen_of_row wr _ o _ _ hq
      have f0 := fa 0
      have f1 := fa 1
      have f2 := fa 2
      have hB3 := HP.out.lt HJr.out HG3.out
      have n1 : wr.heap.size ≠ B3 := by omega
      have n2 : B3 ≠ wr.heap.size := by omega
      -- the world at the round's call
      have hj5 : J pre ((G.put B3 (scs ⟨r, si, so⟩)).put wr.heap.size (rcs r.f0 r.f1 r.f2)) ((((wr.setCell ⟨B3, 0, none⟩ (.int .i64 r.f0)).setCell ⟨B3, 1, none⟩ (.string r.f1)).setCell ⟨B3, 2, none⟩ (.int .i64 r.f2)).alloc (.cells #[.int .i64 r.f0, .string r.f1, .int .i64 r.f2] 49)) := by
        have h1 := HP.out.set (W' := ((wr.setCell ⟨B3, 0, none⟩ (.int .i64 r.f0)).setCell ⟨B3, 1, none⟩ (.string r.f1)).setCell ⟨B3, 2, none⟩ (.int .i64 r.f2)) HJr.out HG3.out (fun q hq => by rw [Below.heap_setCell _ _ _ _ hq, Below.heap_setCell _ _ _ _ hq, Below.heap_setCell _ _ _ _ hq]) (by simp [World.setCell]) rfl rfl rfl (blk_put (blk_put (blk_put hq 0 _ rfl) 1 _ rfl) 2 _ rfl) rfl
        have hz : (((wr.setCell ⟨B3, 0, none⟩ (.int .i64 r.f0)).setCell ⟨B3, 1, none⟩ (.string r.f1)).setCell ⟨B3, 2, none⟩ (.int .i64 r.f2)).heap.size = wr.heap.size := by simp [World.setCell]
        have h2 := Own.heap_new (((wr.setCell ⟨B3, 0, none⟩ (.int .i64 r.f0)).setCell ⟨B3, 1, none⟩ (.string r.f1)).setCell ⟨B3, 2, none⟩ (.int .i64 r.f2)) (.cells #[.int .i64 r.f0, .string r.f1, .int .i64 r.f2] 49)
        rw [hz] at h2
        exact HP.out.lay h1 (below_alloc (Below.refl _ _) _) (by rw [hz]; exact Nat.le_refl _) h2 rfl
      obtain ⟨fn, tmps, assign, body, hyy, hR⟩ := HY.out (n - 1) pre ⟨r, si, so⟩ (stepsL (f.drop (i + 1)) (si + (r.f0 + r.f2)) (so + (r.f0 + (r.f1.size : Int)))) _ _ (by rw [← HE.out, HD.out]; rfl) hj5
      have HRR := Aside0.mk hR
      unfold encS at hyy
      simp only at hyy
      obtain ⟨B6, hB6⟩ : ∃ b, b = wr.heap.size := ⟨_, rfl⟩
      have n63 : B6 ≠ B3 := by omega
      have n36 : B3 ≠ B6 := by omega
      have HG5 := Aside0.mk (show ((G.put B3 (scs ⟨r, si, so⟩)).put wr.heap.size (rcs r.f0 r.f1 r.f2)) B3 = some (scs ⟨r, si, so⟩) by rw [Priv.put_other _ _ n2]; exact Priv.put_same _ _ _)
      have HG6 := Aside0.mk (show ((G.put B3 (scs ⟨r, si, so⟩)).put wr.heap.size (rcs r.f0 r.f1 r.f2)) B6 = some (rcs r.f0 r.f1 r.f2) by rw [hB6]; exact Priv.put_same _ _ _)
      obtain ⟨G5, hG5⟩ : ∃ g, g = (G.put B3 (scs ⟨r, si, so⟩)).put wr.heap.size (rcs r.f0 r.f1 r.f2) := ⟨_, rfl⟩
      rw [← hG5] at HG5 HG6 HRR
      have HB6 := Aside0.mk hB6
      clear hr hd' hmem hbi hbo hp hs4 hq fa hj5 hR hG5 hB6
      gi_wp2
      refine ⟨fun h => absurd h (by decide), ?_⟩
      refine HRR.out.mono ?_
      rintro e w3 (⟨rfl, hj3⟩ | ⟨rfl, hx3⟩)
      · have HJ3 := Aside0.mk hj3
        clear hj3 hyy hB3 x0 x1 x2 y0 y1 y2 y3 y4 f0 f1 f2
        rw [← HB6.out]
        clear HB6
        have hq3 := HP.out.lies _ _ _ HJ3.out _ _ HG5.out
        obtain ⟨y0, y1, y2, y3, y4⟩ := blk_step hq3
        obtain ⟨x0, x1, x2⟩ := blk_cells (HP.out.lies _ _ _ HJ3.out _ _ HG6.out)
        have fa : ∀ o, w3.frozen? ⟨B3, o, none⟩ = false := fun o => frozen_of_row w3 _ o _ _ hq3
        have f3 := fa 3
        have f4 := fa 4
        clear fa hq3
        simp only at y0 y1 y2 y3 y4
        gi_wp2
        go_roundw
        case rel =>
          have hq3 := HP.out.lies _ _ _ HJ3.out _ _ HG5.out
          have hjn := HP.out.set (W' := (w3.setCell ⟨B3, 3, none⟩ (.int .i64 (si + (r.f0 + r.f2)))).setCell ⟨B3, 4, none⟩ (.int .i64 (so + (r.f0 + (r.f1.size : Int))))) (o' := scs ⟨r, si + (r.f0 + r.f2), so + (r.f0 + (r.f1.size : Int))⟩) HJ3.out HG5.out (fun q hq => by rw [Below.heap_setCell _ _ _ _ hq, Below.heap_setCell _ _ _ _ hq]) (by simp [World.setCell]) rfl rfl rfl (blk_put (blk_put hq3 3 _ rfl) 4 _ rfl) rfl
          refine ⟨i + 1, pre ++ [⟨r, si, so⟩], ⟨r, si + (r.f0 + r.f2), so + (r.f0 + (r.f1.size : Int))⟩, _, by omega, by go_num, hjn, ?_, Priv.put_same _ _ _, ?_, ?_, ?_, ?_⟩
          · rw [← HE.out, HD.out]; simp [stepsL]
          · show 0 ≤ si + (r.f0 + r.f2); omega
          · show 0 ≤ so + (r.f0 + (r.f1.size : Int)); omega
          · have := HBI.out; show si + (r.f0 + r.f2) + _ ≤ _; omega
          · have := HBO.out; show so + (r.f0 + (r.f1.size : Int)) + _ ≤ _; omega
        case measure => simp [intOf]; omega
      · have HX3 := Aside0.mk hx3
        clear hx3 hyy
        gi_wp2
        refine bodyPost_ret (results_none rfl _ _ _) rfl ?_
        exact ⟨⟨_, rfl⟩, .inr HX3.out⟩
    · have hge : ¬ ((i : Int) < (f.length : Int)) := by omega
      have HE2 := Aside0.mk (show pre = L by have := HE.out; rw [show f.drop i = [] from by rw [show i = f.length by omega]; exact List.drop_length, show stepsL [] si so = [] from rfl, List.append_nil] at this; exact this)
      clear hlt
      gi_wp2
      refine bodyPost_end (results_none rfl _ _ _) rfl ?_
      exact ⟨⟨_, rfl⟩, .inl ⟨_, by rw [← HE2.out]; exact HJr.out⟩⟩
end Go.Proofs.Ytjbnffadfohofaa.PlaceI
end
-- MERGED YtjbnffadfohofaaPeditright
section
-- Written by wip/myprint.py of this session, over the kit's print.py: a Lean function for each Go function, and the proof that the code comes to it.
namespace Go.Proofs.Ytjbnffadfohofaa.P
open Go.RowKit Go.Proofs.YtjbnffadfohofaaW.PrintWords Go.Proofs.YtjbnffadfohofaaW.PrintLast Go.Proofs.YtjbnffadfohofaaW.PrintMore
attribute [local go_sem] max2_int min2_int max_two min_two max_three min_three max_four min_four   -- for this text's walks alone
set_option linter.unusedVariables false
set_option linter.unusedSimpArgs false

/-! ### edit_right: function 40 -/
def edit_right.l0 : Nat → List (S49) → Int → List (S49) → Int → Int → Option (Bool)
  | 0, _, _, _, _, _ => none
  | k + 1, x0, x3, x7, x8, x9 => if x9 < x8 then (if 0 ≤ x9 then (if x9 < (x7.length : Int) then ((edit_kind.f ((rd_T49 x7 x9).f0) ((rd_T49 x7 x9).f1) ((rd_T49 x7 x9).f2)).bind fun t143 => (if t143 = 0 then (some false) else (if t143 = x3 then (some false) else (if x3 = 3 then (if t143 = 2 then (some false) else (edit_right.l0 k x0 t143 x7 x8 (wrap64 (x9 + 1)))) else (edit_right.l0 k x0 t143 x7 x8 (wrap64 (x9 + 1))))))) else (none)) else (none)) else (some (decide ((x0.length : Int) ≤ 65536)))
def edit_right.f (k : Nat) (l0 : List (S49)) : Option (Bool) := edit_right.l0 k l0 0 l0 (l0.length : Int) 0
theorem edit_right.mono_l : ∀ k, (∀ y0 y1 y2 y3 y4, LeO (edit_right.l0 k y0 y1 y2 y3 y4) (edit_right.l0 (k + 1) y0 y1 y2 y3 y4))
  | 0 => fun _ _ _ _ _ r h => by simp [edit_right.l0] at h
  | k + 1 => by
    have ih0 := edit_right.mono_l k
    · intro y0 y1 y2 y3 y4
      unfold edit_right.l0
      repeat' first | (with_reducible exact ih0 _ _ _ _ _) | (with_reducible exact LeO.refl _) | (with_reducible refine LeO.ite ?_ ?_) | (with_reducible refine LeO.bind ?_ (fun _ => ?_))
theorem edit_right.mono : ∀ a0 k, LeO (edit_right.f k a0) (edit_right.f (k + 1) a0) := by
  intro a0 k
  have ih0 := edit_right.mono_l k
  unfold edit_right.f
  repeat' (with_reducible exact ih0 _ _ _ _ _)
set_option maxHeartbeats 8000000 in
set_option maxRecDepth 100000 in
theorem edit_right.calls (k : Nat) (A0 : Option Addr) (c0 : Nat) (l0 : List (S49)) (r : Bool) (w : World) (hr0 : Kd.C k49 w A0 l0.length l0) (hc0 : l0.length ≤ c0) (h : edit_right.f k l0 = some r) :
    Calls Try.prog 40 #[.slice A0 l0.length c0] w fun e w' => e = .returned (.bool r) ∧ Below w.heap.size w w' := by
  have hu49 := Try.underlying49
  have HR0 := Aside0.mk hr0
  have HC0 := Aside0.mk hc0
  clear hr0 hc0
  have HB := Aside0.mk (Below.refl w.heap.size w)
  have H : (edit_right.l0 k l0 0 l0 (l0.length : Int) 0) = some r := h
  clear h
  have H' := Aside0.mk H
  clear H
  go_enter Try.func40, Try.ntmps40
  go_wp2
  go_loopg [3, 9] k (fun kq v3 v9 w' => ∃ (x3_1 : Int) (x9_1 : Int), v3 = .int .i64 x3_1 ∧ v9 = .int .i64 x9_1 ∧ Aside0 (edit_right.l0 kq l0 x3_1 l0 (l0.length : Int) x9_1 = some r) ∧ Aside0 (kq ≤ k) ∧ Aside0 (Below w.heap.size w w'))
  case atStart => exact ⟨(0), (0), (by (rfl)), (by (rfl)), H', ⟨Nat.le_refl _⟩, ⟨by repeat ((with_reducible (exact HB.out)))⟩⟩
  case round =>
    clear H'
    obtain ⟨x3_1, x9_1, rfl, rfl, HA, HK1, HB⟩ := hrel
    cases gk with
    | zero => exact absurd HA.out (by simp [edit_right.l0])
    | succ k1 =>
      have H := HA.out
      clear HA
      simp only [edit_right.l0] at H
      by_cases c2 : x9_1 < (l0.length : Int)
      · rw [if_pos c2] at H
        have c2b0 : decide (x9_1 < (l0.length : Int)) = true := decide_eq_true c2
        clear c2
        by_cases c3 : 0 ≤ x9_1
        · rw [if_pos c3] at H
          have c3b0 : decide (0 ≤ x9_1) = true := decide_eq_true c3
          clear c3
          by_cases c4 : x9_1 < (l0.length : Int)
          · rw [if_pos c4] at H
            have c4b0 : decide (x9_1 < (l0.length : Int)) = true := decide_eq_true c4
            clear c4
            replace H := Option.bind_eq_some_iff.mp H
            obtain ⟨t143, A50, H⟩ := H
            replace H : (if t143 = 0 then (some false) else (if t143 = x3_1 then (some false) else (if x3_1 = 3 then (if t143 = 2 then (some false) else (edit_right.l0 k1 l0 t143 l0 (l0.length : Int) (wrap64 (x9_1 + 1)))) else (edit_right.l0 k1 l0 t143 l0 (l0.length : Int) (wrap64 (x9_1 + 1)))))) = some r := H
            have A5 := Aside0.mk A50
            clear A50
            by_cases c6 : t143 = 0
            · rw [if_pos c6] at H
              have c6b0 : (t143 == 0) = true := beq_iff_eq.mpr c6
              have c6b1 : (t143 != 0) = false := bne_eq_false_iff_eq.mpr c6
              clear c6
              obtain rfl := Option.some.inj H
              have p141 : 0 ≤ (x9_1 : Int) := of_decide_eq_true (by (with_reducible assumption))
              have q141 : x9_1 < (l0.length : Int) := of_decide_eq_true (by (with_reducible assumption))
              obtain ⟨ad141, e141, hx141_0, hx141_1, hx141_2⟩ := at_T49 HR0.out x9_1 p141 q141
              cases e141
              replace hx141_0 := (HB.out.cell (World.block_lt_of_cell? w _ hx141_0)).trans hx141_0
              replace hx141_1 := (HB.out.cell (World.block_lt_of_cell? w _ hx141_1)).trans hx141_1
              replace hx141_2 := (HB.out.cell (World.block_lt_of_cell? w _ hx141_2)).trans hx141_2
              replace p141 := eq_true p141
              replace q141 := eq_true q141
              go_wp2_with (first | ((with_reducible refine gate_dst (N := 5) rfl ?_); refine box_event ?hg (N := 5) ?hd (cs := #[.int .i64 0, .string (⟨#[]⟩ : ByteArray), .int .i64 0]) (t := 49) ?hr ?_; (case hd => rfl); (case hg => rfl); (case hr => (go_simp; done)); intro gb142 hg w7 hbox hb; have n0_ := Aside0.mk (below_step (by repeat ((with_reducible (exact HB.out)))) hb); have n1_ := Aside0.mk (hbox); have n2_ := Aside0.mk ((by rw [hg]; exact (below_size (by repeat ((with_reducible (exact HB.out))))) : w.heap.size ≤ gb142)); have n3_ := Aside0.mk ((by rw [hg]; exact (below_size (by repeat ((with_reducible (exact HB.out))))) : w.heap.size ≤ gb142)); clear HB; have HB := n0_; have BK142 := n1_; have GW142 := n2_; have GE142 := n3_; clear n0_ n1_ n2_ n3_; clear hb hbox hg; have hcz8_0 : w7.cell? ⟨gb142, 0, none⟩ = some (.int .i64 0) := (blk_cell BK142.out 0).trans rfl; have hcz8_1 : w7.cell? ⟨gb142, 1, none⟩ = some (.string (⟨#[]⟩ : ByteArray)) := (blk_cell BK142.out 1).trans rfl; have hcz8_2 : w7.cell? ⟨gb142, 2, none⟩ = some (.int .i64 0) := (blk_cell BK142.out 2).trans rfl; have hfz8_0 := blk_frozen BK142.out 0; have hfz8_1 := blk_frozen BK142.out 1; have hfz8_2 := blk_frozen BK142.out 2) | ((with_reducible refine gate_callee (f := 52) rfl ?_); refine goesL_ (some 14) rfl rfl Try.func52 (by kernel_rfl) rfl #[.agg #[.int .i64 ((rd_T49 l0 x9_1).f0), .string ((rd_T49 l0 x9_1).f1), .int .i64 ((rd_T49 l0 x9_1).f2)]] rfl (by (try simp only [List.map_toArray, List.map_cons, List.map_nil]); (rfl)) ?_; (with_reducible refine (edit_kind.calls ((rd_T49 l0 x9_1).f0) ((rd_T49 l0 x9_1).f1) ((rd_T49 l0 x9_1).f2) t143 _ A5.out).mono ?_); rintro e w9 ⟨rfl, hb⟩; refine ⟨_, rfl, ?_⟩; have n0_ := Aside0.mk (blk_below (g := gb142) (o := .cells #[.int .i64 ((rd_T49 l0 x9_1).f0), .string ((rd_T49 l0 x9_1).f1), .int .i64 ((rd_T49 l0 x9_1).f2)] 49 (0, 0)) (by (with_reducible repeat ((refine blk_drew ?_))); refine blk_put (cs := #[.int .i64 ((rd_T49 l0 x9_1).f0), .string ((rd_T49 l0 x9_1).f1), .int .i64 0]) ?_ 2 _ rfl; (with_reducible repeat ((refine blk_drew ?_))); refine blk_put (cs := #[.int .i64 ((rd_T49 l0 x9_1).f0), .string (⟨#[]⟩ : ByteArray), .int .i64 0]) ?_ 1 _ rfl; (with_reducible repeat ((refine blk_drew ?_))); refine blk_put (cs := #[.int .i64 0, .string (⟨#[]⟩ : ByteArray), .int .i64 0]) ?_ 0 _ rfl; (with_reducible repeat ((refine blk_drew ?_))); exact BK142.out) hb); have n1_ := Aside0.mk (below_step (by repeat ((with_reducible first | exact HB.out | refine below_set ?_ GE142.out))) hb); clear BK142; clear HB; have BK142 := n0_; have HB := n1_; clear n0_ n1_; (try clear hb); (try clear hb2); (try clear hk); (try clear hi)))
              go_ret
              exact ⟨by (rfl), by repeat ((with_reducible (exact HB.out)))⟩
            · rw [if_neg c6] at H
              have c6b0 : (t143 == 0) = false := beq_eq_false_iff_ne.mpr c6
              have c6b1 : (t143 != 0) = true := bne_iff_ne.mpr c6
              by_cases c10 : t143 = x3_1
              · rw [if_pos c10] at H
                have c10b0 : (t143 == x3_1) = true := beq_iff_eq.mpr c10
                have c10b1 : (t143 != x3_1) = false := bne_eq_false_iff_eq.mpr c10
                clear c10
                obtain rfl := Option.some.inj H
                have p141 : 0 ≤ (x9_1 : Int) := of_decide_eq_true (by (with_reducible assumption))
                have q141 : x9_1 < (l0.length : Int) := of_decide_eq_true (by (with_reducible assumption))
                obtain ⟨ad141, e141, hx141_0, hx141_1, hx141_2⟩ := at_T49 HR0.out x9_1 p141 q141
                cases e141
                replace hx141_0 := (HB.out.cell (World.block_lt_of_cell? w _ hx141_0)).trans hx141_0
                replace hx141_1 := (HB.out.cell (World.block_lt_of_cell? w _ hx141_1)).trans hx141_1
                replace hx141_2 := (HB.out.cell (World.block_lt_of_cell? w _ hx141_2)).trans hx141_2
                replace p141 := eq_true p141
                replace q141 := eq_true q141
                go_wp2_with (first | ((with_reducible refine gate_dst (N := 5) rfl ?_); refine box_event ?hg (N := 5) ?hd (cs := #[.int .i64 0, .string (⟨#[]⟩ : ByteArray), .int .i64 0]) (t := 49) ?hr ?_; (case hd => rfl); (case hg => rfl); (case hr => (go_simp; done)); intro gb142 hg w11 hbox hb; have n0_ := Aside0.mk (below_step (by repeat ((with_reducible (exact HB.out)))) hb); have n1_ := Aside0.mk (hbox); have n2_ := Aside0.mk ((by rw [hg]; exact (below_size (by repeat ((with_reducible (exact HB.out))))) : w.heap.size ≤ gb142)); have n3_ := Aside0.mk ((by rw [hg]; exact (below_size (by repeat ((with_reducible (exact HB.out))))) : w.heap.size ≤ gb142)); clear HB; have HB := n0_; have BK142 := n1_; have GW142 := n2_; have GE142 := n3_; clear n0_ n1_ n2_ n3_; clear hb hbox hg; have hcz12_0 : w11.cell? ⟨gb142, 0, none⟩ = some (.int .i64 0) := (blk_cell BK142.out 0).trans rfl; have hcz12_1 : w11.cell? ⟨gb142, 1, none⟩ = some (.string (⟨#[]⟩ : ByteArray)) := (blk_cell BK142.out 1).trans rfl; have hcz12_2 : w11.cell? ⟨gb142, 2, none⟩ = some (.int .i64 0) := (blk_cell BK142.out 2).trans rfl; have hfz12_0 := blk_frozen BK142.out 0; have hfz12_1 := blk_frozen BK142.out 1; have hfz12_2 := blk_frozen BK142.out 2) | ((with_reducible refine gate_callee (f := 52) rfl ?_); refine goesL_ (some 14) rfl rfl Try.func52 (by kernel_rfl) rfl #[.agg #[.int .i64 ((rd_T49 l0 x9_1).f0), .string ((rd_T49 l0 x9_1).f1), .int .i64 ((rd_T49 l0 x9_1).f2)]] rfl (by (try simp only [List.map_toArray, List.map_cons, List.map_nil]); (rfl)) ?_; (with_reducible refine (edit_kind.calls ((rd_T49 l0 x9_1).f0) ((rd_T49 l0 x9_1).f1) ((rd_T49 l0 x9_1).f2) t143 _ A5.out).mono ?_); rintro e w13 ⟨rfl, hb⟩; refine ⟨_, rfl, ?_⟩; have n0_ := Aside0.mk (blk_below (g := gb142) (o := .cells #[.int .i64 ((rd_T49 l0 x9_1).f0), .string ((rd_T49 l0 x9_1).f1), .int .i64 ((rd_T49 l0 x9_1).f2)] 49 (0, 0)) (by (with_reducible repeat ((refine blk_drew ?_))); refine blk_put (cs := #[.int .i64 ((rd_T49 l0 x9_1).f0), .string ((rd_T49 l0 x9_1).f1), .int .i64 0]) ?_ 2 _ rfl; (with_reducible repeat ((refine blk_drew ?_))); refine blk_put (cs := #[.int .i64 ((rd_T49 l0 x9_1).f0), .string (⟨#[]⟩ : ByteArray), .int .i64 0]) ?_ 1 _ rfl; (with_reducible repeat ((refine blk_drew ?_))); refine blk_put (cs := #[.int .i64 0, .string (⟨#[]⟩ : ByteArray), .int .i64 0]) ?_ 0 _ rfl; (with_reducible repeat ((refine blk_drew ?_))); exact BK142.out) hb); have n1_ := Aside0.mk (below_step (by repeat ((with_reducible first | exact HB.out | refine below_set ?_ GE142.out))) hb); clear BK142; clear HB; have BK142 := n0_; have HB := n1_; clear n0_ n1_; (try clear hb); (try clear hb2); (try clear hk); (try clear hi)))
                go_ret
                exact ⟨by (rfl), by repeat ((with_reducible (exact HB.out)))⟩
              · rw [if_neg c10] at H
                have c10b0 : (t143 == x3_1) = false := beq_eq_false_iff_ne.mpr c10
                have c10b1 : (t143 != x3_1) = true := bne_iff_ne.mpr c10
                by_cases c14 : x3_1 = 3
                · rw [if_pos c14] at H
                  have c14b0 : (x3_1 == 3) = true := beq_iff_eq.mpr c14
                  have c14b1 : (x3_1 != 3) = false := bne_eq_false_iff_eq.mpr c14
                  clear c14
                  by_cases c15 : t143 = 2
                  · rw [if_pos c15] at H
                    have c15b0 : (t143 == 2) = true := beq_iff_eq.mpr c15
                    have c15b1 : (t143 != 2) = false := bne_eq_false_iff_eq.mpr c15
                    clear c15
                    obtain rfl := Option.some.inj H
                    have p141 : 0 ≤ (x9_1 : Int) := of_decide_eq_true (by (with_reducible assumption))
                    have q141 : x9_1 < (l0.length : Int) := of_decide_eq_true (by (with_reducible assumption))
                    obtain ⟨ad141, e141, hx141_0, hx141_1, hx141_2⟩ := at_T49 HR0.out x9_1 p141 q141
                    cases e141
                    replace hx141_0 := (HB.out.cell (World.block_lt_of_cell? w _ hx141_0)).trans hx141_0
                    replace hx141_1 := (HB.out.cell (World.block_lt_of_cell? w _ hx141_1)).trans hx141_1
                    replace hx141_2 := (HB.out.cell (World.block_lt_of_cell? w _ hx141_2)).trans hx141_2
                    replace p141 := eq_true p141
                    replace q141 := eq_true q141
                    go_wp2_with (first | ((with_reducible refine gate_dst (N := 5) rfl ?_); refine box_event ?hg (N := 5) ?hd (cs := #[.int .i64 0, .string (⟨#[]⟩ : ByteArray), .int .i64 0]) (t := 49) ?hr ?_; (case hd => rfl); (case hg => rfl); (case hr => (go_simp; done)); intro gb142 hg w16 hbox hb; have n0_ := Aside0.mk (below_step (by repeat ((with_reducible (exact HB.out)))) hb); have n1_ := Aside0.mk (hbox); have n2_ := Aside0.mk ((by rw [hg]; exact (below_size (by repeat ((with_reducible (exact HB.out))))) : w.heap.size ≤ gb142)); have n3_ := Aside0.mk ((by rw [hg]; exact (below_size (by repeat ((with_reducible (exact HB.out))))) : w.heap.size ≤ gb142)); clear HB; have HB := n0_; have BK142 := n1_; have GW142 := n2_; have GE142 := n3_; clear n0_ n1_ n2_ n3_; clear hb hbox hg; have hcz17_0 : w16.cell? ⟨gb142, 0, none⟩ = some (.int .i64 0) := (blk_cell BK142.out 0).trans rfl; have hcz17_1 : w16.cell? ⟨gb142, 1, none⟩ = some (.string (⟨#[]⟩ : ByteArray)) := (blk_cell BK142.out 1).trans rfl; have hcz17_2 : w16.cell? ⟨gb142, 2, none⟩ = some (.int .i64 0) := (blk_cell BK142.out 2).trans rfl; have hfz17_0 := blk_frozen BK142.out 0; have hfz17_1 := blk_frozen BK142.out 1; have hfz17_2 := blk_frozen BK142.out 2) | ((with_reducible refine gate_callee (f := 52) rfl ?_); refine goesL_ (some 14) rfl rfl Try.func52 (by kernel_rfl) rfl #[.agg #[.int .i64 ((rd_T49 l0 x9_1).f0), .string ((rd_T49 l0 x9_1).f1), .int .i64 ((rd_T49 l0 x9_1).f2)]] rfl (by (try simp only [List.map_toArray, List.map_cons, List.map_nil]); (rfl)) ?_; (with_reducible refine (edit_kind.calls ((rd_T49 l0 x9_1).f0) ((rd_T49 l0 x9_1).f1) ((rd_T49 l0 x9_1).f2) t143 _ A5.out).mono ?_); rintro e w18 ⟨rfl, hb⟩; refine ⟨_, rfl, ?_⟩; have n0_ := Aside0.mk (blk_below (g := gb142) (o := .cells #[.int .i64 ((rd_T49 l0 x9_1).f0), .string ((rd_T49 l0 x9_1).f1), .int .i64 ((rd_T49 l0 x9_1).f2)] 49 (0, 0)) (by (with_reducible repeat ((refine blk_drew ?_))); refine blk_put (cs := #[.int .i64 ((rd_T49 l0 x9_1).f0), .string ((rd_T49 l0 x9_1).f1), .int .i64 0]) ?_ 2 _ rfl; (with_reducible repeat ((refine blk_drew ?_))); refine blk_put (cs := #[.int .i64 ((rd_T49 l0 x9_1).f0), .string (⟨#[]⟩ : ByteArray), .int .i64 0]) ?_ 1 _ rfl; (with_reducible repeat ((refine blk_drew ?_))); refine blk_put (cs := #[.int .i64 0, .string (⟨#[]⟩ : ByteArray), .int .i64 0]) ?_ 0 _ rfl; (with_reducible repeat ((refine blk_drew ?_))); exact BK142.out) hb); have n1_ := Aside0.mk (below_step (by repeat ((with_reducible first | exact HB.out | refine below_set ?_ GE142.out))) hb); clear BK142; clear HB; have BK142 := n0_; have HB := n1_; clear n0_ n1_; (try clear hb); (try clear hb2); (try clear hk); (try clear hi)))
                    go_ret
                    exact ⟨by (rfl), by repeat ((with_reducible (exact HB.out)))⟩
                  · rw [if_neg c15] at H
                    have c15b0 : (t143 == 2) = false := beq_eq_false_iff_ne.mpr c15
                    have c15b1 : (t143 != 2) = true := bne_iff_ne.mpr c15
                    have H' := Aside0.mk H
                    clear H
                    have p141 : 0 ≤ (x9_1 : Int) := of_decide_eq_true (by (with_reducible assumption))
                    have q141 : x9_1 < (l0.length : Int) := of_decide_eq_true (by (with_reducible assumption))
                    obtain ⟨ad141, e141, hx141_0, hx141_1, hx141_2⟩ := at_T49 HR0.out x9_1 p141 q141
                    cases e141
                    replace hx141_0 := (HB.out.cell (World.block_lt_of_cell? w _ hx141_0)).trans hx141_0
                    replace hx141_1 := (HB.out.cell (World.block_lt_of_cell? w _ hx141_1)).trans hx141_1
                    replace hx141_2 := (HB.out.cell (World.block_lt_of_cell? w _ hx141_2)).trans hx141_2
                    replace p141 := eq_true p141
                    replace q141 := eq_true q141
                    go_wp2_with (first | ((with_reducible refine gate_dst (N := 5) rfl ?_); refine box_event ?hg (N := 5) ?hd (cs := #[.int .i64 0, .string (⟨#[]⟩ : ByteArray), .int .i64 0]) (t := 49) ?hr ?_; (case hd => rfl); (case hg => rfl); (case hr => (go_simp; done)); intro gb142 hg w19 hbox hb; have n0_ := Aside0.mk (below_step (by repeat ((with_reducible (exact HB.out)))) hb); have n1_ := Aside0.mk (hbox); have n2_ := Aside0.mk ((by rw [hg]; exact (below_size (by repeat ((with_reducible (exact HB.out))))) : w.heap.size ≤ gb142)); have n3_ := Aside0.mk ((by rw [hg]; exact (below_size (by repeat ((with_reducible (exact HB.out))))) : w.heap.size ≤ gb142)); clear HB; have HB := n0_; have BK142 := n1_; have GW142 := n2_; have GE142 := n3_; clear n0_ n1_ n2_ n3_; clear hb hbox hg; have hcz20_0 : w19.cell? ⟨gb142, 0, none⟩ = some (.int .i64 0) := (blk_cell BK142.out 0).trans rfl; have hcz20_1 : w19.cell? ⟨gb142, 1, none⟩ = some (.string (⟨#[]⟩ : ByteArray)) := (blk_cell BK142.out 1).trans rfl; have hcz20_2 : w19.cell? ⟨gb142, 2, none⟩ = some (.int .i64 0) := (blk_cell BK142.out 2).trans rfl; have hfz20_0 := blk_frozen BK142.out 0; have hfz20_1 := blk_frozen BK142.out 1; have hfz20_2 := blk_frozen BK142.out 2) | ((with_reducible refine gate_callee (f := 52) rfl ?_); refine goesL_ (some 14) rfl rfl Try.func52 (by kernel_rfl) rfl #[.agg #[.int .i64 ((rd_T49 l0 x9_1).f0), .string ((rd_T49 l0 x9_1).f1), .int .i64 ((rd_T49 l0 x9_1).f2)]] rfl (by (try simp only [List.map_toArray, List.map_cons, List.map_nil]); (rfl)) ?_; (with_reducible refine (edit_kind.calls ((rd_T49 l0 x9_1).f0) ((rd_T49 l0 x9_1).f1) ((rd_T49 l0 x9_1).f2) t143 _ A5.out).mono ?_); rintro e w21 ⟨rfl, hb⟩; refine ⟨_, rfl, ?_⟩; have n0_ := Aside0.mk (blk_below (g := gb142) (o := .cells #[.int .i64 ((rd_T49 l0 x9_1).f0), .string ((rd_T49 l0 x9_1).f1), .int .i64 ((rd_T49 l0 x9_1).f2)] 49 (0, 0)) (by (with_reducible repeat ((refine blk_drew ?_))); refine blk_put (cs := #[.int .i64 ((rd_T49 l0 x9_1).f0), .string ((rd_T49 l0 x9_1).f1), .int .i64 0]) ?_ 2 _ rfl; (with_reducible repeat ((refine blk_drew ?_))); refine blk_put (cs := #[.int .i64 ((rd_T49 l0 x9_1).f0), .string (⟨#[]⟩ : ByteArray), .int .i64 0]) ?_ 1 _ rfl; (with_reducible repeat ((refine blk_drew ?_))); refine blk_put (cs := #[.int .i64 0, .string (⟨#[]⟩ : ByteArray), .int .i64 0]) ?_ 0 _ rfl; (with_reducible repeat ((refine blk_drew ?_))); exact BK142.out) hb); have n1_ := Aside0.mk (below_step (by repeat ((with_reducible first | exact HB.out | refine below_set ?_ GE142.out))) hb); clear BK142; clear HB; have BK142 := n0_; have HB := n1_; clear n0_ n1_; (try clear hb); (try clear hb2); (try clear hk); (try clear hi)))
                    go_roundg k1
                    case measure => have := HK1.out; omega
                    case rel => exact ⟨(t143), (wrap64 (x9_1 + 1)), (by (rfl)), (by (rfl)), H', ⟨by have := HK1.out; omega⟩, ⟨by repeat ((with_reducible (exact HB.out)))⟩⟩
                · rw [if_neg c14] at H
                  have c14b0 : (x3_1 == 3) = false := beq_eq_false_iff_ne.mpr c14
                  have c14b1 : (x3_1 != 3) = true := bne_iff_ne.mpr c14
                  have H' := Aside0.mk H
                  clear H
                  have p141 : 0 ≤ (x9_1 : Int) := of_decide_eq_true (by (with_reducible assumption))
                  have q141 : x9_1 < (l0.length : Int) := of_decide_eq_true (by (with_reducible assumption))
                  obtain ⟨ad141, e141, hx141_0, hx141_1, hx141_2⟩ := at_T49 HR0.out x9_1 p141 q141
                  cases e141
                  replace hx141_0 := (HB.out.cell (World.block_lt_of_cell? w _ hx141_0)).trans hx141_0
                  replace hx141_1 := (HB.out.cell (World.block_lt_of_cell? w _ hx141_1)).trans hx141_1
                  replace hx141_2 := (HB.out.cell (World.block_lt_of_cell? w _ hx141_2)).trans hx141_2
                  replace p141 := eq_true p141
                  replace q141 := eq_true q141
                  go_wp2_with (first | ((with_reducible refine gate_dst (N := 5) rfl ?_); refine box_event ?hg (N := 5) ?hd (cs := #[.int .i64 0, .string (⟨#[]⟩ : ByteArray), .int .i64 0]) (t := 49) ?hr ?_; (case hd => rfl); (case hg => rfl); (case hr => (go_simp; done)); intro gb142 hg w22 hbox hb; have n0_ := Aside0.mk (below_step (by repeat ((with_reducible (exact HB.out)))) hb); have n1_ := Aside0.mk (hbox); have n2_ := Aside0.mk ((by rw [hg]; exact (below_size (by repeat ((with_reducible (exact HB.out))))) : w.heap.size ≤ gb142)); have n3_ := Aside0.mk ((by rw [hg]; exact (below_size (by repeat ((with_reducible (exact HB.out))))) : w.heap.size ≤ gb142)); clear HB; have HB := n0_; have BK142 := n1_; have GW142 := n2_; have GE142 := n3_; clear n0_ n1_ n2_ n3_; clear hb hbox hg; have hcz23_0 : w22.cell? ⟨gb142, 0, none⟩ = some (.int .i64 0) := (blk_cell BK142.out 0).trans rfl; have hcz23_1 : w22.cell? ⟨gb142, 1, none⟩ = some (.string (⟨#[]⟩ : ByteArray)) := (blk_cell BK142.out 1).trans rfl; have hcz23_2 : w22.cell? ⟨gb142, 2, none⟩ = some (.int .i64 0) := (blk_cell BK142.out 2).trans rfl; have hfz23_0 := blk_frozen BK142.out 0; have hfz23_1 := blk_frozen BK142.out 1; have hfz23_2 := blk_frozen BK142.out 2) | ((with_reducible refine gate_callee (f := 52) rfl ?_); refine goesL_ (some 14) rfl rfl Try.func52 (by kernel_rfl) rfl #[.agg #[.int .i64 ((rd_T49 l0 x9_1).f0), .string ((rd_T49 l0 x9_1).f1), .int .i64 ((rd_T49 l0 x9_1).f2)]] rfl (by (try simp only [List.map_toArray, List.map_cons, List.map_nil]); (rfl)) ?_; (with_reducible refine (edit_kind.calls ((rd_T49 l0 x9_1).f0) ((rd_T49 l0 x9_1).f1) ((rd_T49 l0 x9_1).f2) t143 _ A5.out).mono ?_); rintro e w24 ⟨rfl, hb⟩; refine ⟨_, rfl, ?_⟩; have n0_ := Aside0.mk (blk_below (g := gb142) (o := .cells #[.int .i64 ((rd_T49 l0 x9_1).f0), .string ((rd_T49 l0 x9_1).f1), .int .i64 ((rd_T49 l0 x9_1).f2)] 49 (0, 0)) (by (with_reducible repeat ((refine blk_drew ?_))); refine blk_put (cs := #[.int .i64 ((rd_T49 l0 x9_1).f0), .string ((rd_T49 l0 x9_1).f1), .int .i64 0]) ?_ 2 _ rfl; (with_reducible repeat ((refine blk_drew ?_))); refine blk_put (cs := #[.int .i64 ((rd_T49 l0 x9_1).f0), .string (⟨#[]⟩ : ByteArray), .int .i64 0]) ?_ 1 _ rfl; (with_reducible repeat ((refine blk_drew ?_))); refine blk_put (cs := #[.int .i64 0, .string (⟨#[]⟩ : ByteArray), .int .i64 0]) ?_ 0 _ rfl; (with_reducible repeat ((refine blk_drew ?_))); exact BK142.out) hb); have n1_ := Aside0.mk (below_step (by repeat ((with_reducible first | exact HB.out | refine below_set ?_ GE142.out))) hb); clear BK142; clear HB; have BK142 := n0_; have HB := n1_; clear n0_ n1_; (try clear hb); (try clear hb2); (try clear hk); (try clear hi)))
                  go_roundg k1
                  case measure => have := HK1.out; omega
                  case rel => exact ⟨(t143), (wrap64 (x9_1 + 1)), (by (rfl)), (by (rfl)), H', ⟨by have := HK1.out; omega⟩, ⟨by repeat ((with_reducible (exact HB.out)))⟩⟩
          · rw [if_neg c4] at H
            exact absurd H (by simp)
        · rw [if_neg c3] at H
          exact absurd H (by simp)
      · rw [if_neg c2] at H
        have c2b0 : decide (x9_1 < (l0.length : Int)) = false := decide_eq_false c2
        clear c2
        obtain rfl := Option.some.inj H
        go_wp2
        go_ret
        exact ⟨by (rfl), by repeat ((with_reducible (exact HB.out)))⟩

end Go.Proofs.Ytjbnffadfohofaa.P
end
-- MERGED YtjbnffadfohofaaPeditsums
section
-- Written by wip/myprint.py of this session, over the kit's print.py: a Lean function for each Go function, and the proof that the code comes to it.
namespace Go.Proofs.Ytjbnffadfohofaa.P
open Go.RowKit Go.Proofs.YtjbnffadfohofaaW.PrintWords Go.Proofs.YtjbnffadfohofaaW.PrintLast Go.Proofs.YtjbnffadfohofaaW.PrintMore
attribute [local go_sem] max2_int min2_int max_two min_two max_three min_three max_four min_four   -- for this text's walks alone
set_option linter.unusedVariables false
set_option linter.unusedSimpArgs false

/-! ### edit_sums: function 41 -/
def edit_sums.l0 : Nat → Int → Int → List (S49) → Int → Int → Option (Int × Int × Bool)
  | 0, _, _, _, _, _ => none
  | k + 1, x2, x3, x7, x8, x9 => if x9 < x8 then (if 0 ≤ x9 then (if x9 < (x7.length : Int) then (if (mx ((rd_T49 x7 x9).f0) ((rd_T49 x7 x9).f2)) > (wrap64 (16777216 - x2)) then (some (0, 0, false)) else (if (mx ((rd_T49 x7 x9).f0) (((rd_T49 x7 x9).f1).size : Int)) > (wrap64 (16777216 - x3)) then (some (0, 0, false)) else (edit_sums.l0 k (wrap64 (x2 + (wrap64 (((rd_T49 x7 x9).f0) + ((rd_T49 x7 x9).f2))))) (wrap64 (x3 + (wrap64 (((rd_T49 x7 x9).f0) + (((rd_T49 x7 x9).f1).size : Int))))) x7 x8 (wrap64 (x9 + 1))))) else (none)) else (none)) else (some (x2, x3, true))
def edit_sums.f (k : Nat) (l0 : List (S49)) : Option (Int × Int × Bool) := edit_sums.l0 k 0 0 l0 (l0.length : Int) 0
theorem edit_sums.mono_l : ∀ k, (∀ y0 y1 y2 y3 y4, LeO (edit_sums.l0 k y0 y1 y2 y3 y4) (edit_sums.l0 (k + 1) y0 y1 y2 y3 y4))
  | 0 => fun _ _ _ _ _ r h => by simp [edit_sums.l0] at h
  | k + 1 => by
    have ih0 := edit_sums.mono_l k
    · intro y0 y1 y2 y3 y4
      unfold edit_sums.l0
      repeat' first | (with_reducible exact ih0 _ _ _ _ _) | (with_reducible exact LeO.refl _) | (with_reducible refine LeO.ite ?_ ?_)
theorem edit_sums.mono : ∀ a0 k, LeO (edit_sums.f k a0) (edit_sums.f (k + 1) a0) := by
  intro a0 k
  have ih0 := edit_sums.mono_l k
  unfold edit_sums.f
  repeat' (with_reducible exact ih0 _ _ _ _ _)
set_option maxHeartbeats 8000000 in
set_option maxRecDepth 100000 in
theorem edit_sums.calls (k : Nat) (A0 : Option Addr) (c0 : Nat) (l0 : List (S49)) (r1 : Int) (r2 : Int) (r3 : Bool) (w : World) (hr0 : Kd.C k49 w A0 l0.length l0) (hc0 : l0.length ≤ c0) (h : edit_sums.f k l0 = some (r1, r2, r3)) :
    Calls Try.prog 41 #[.slice A0 l0.length c0] w fun e w' => e = .returned (.tuple #[.int .i64 r1, .int .i64 r2, .bool r3]) ∧ Below w.heap.size w w' := by
  have hu49 := Try.underlying49
  have HR0 := Aside0.mk hr0
  have HC0 := Aside0.mk hc0
  clear hr0 hc0
  have HB := Aside0.mk (Below.refl w.heap.size w)
  have H : (edit_sums.l0 k 0 0 l0 (l0.length : Int) 0) = some (r1, r2, r3) := h
  clear h
  have H' := Aside0.mk H
  clear H
  go_enter Try.func41, Try.ntmps41
  go_wp2
  go_loopg [2, 3, 9] k (fun kq v2 v3 v9 w' => ∃ (x2_1 : Int) (x3_1 : Int) (x9_1 : Int), v2 = .int .i64 x2_1 ∧ v3 = .int .i64 x3_1 ∧ v9 = .int .i64 x9_1 ∧ Aside0 (edit_sums.l0 kq x2_1 x3_1 l0 (l0.length : Int) x9_1 = some (r1, r2, r3)) ∧ Aside0 (kq ≤ k) ∧ Aside0 (Below w.heap.size w w'))
  case atStart => exact ⟨(0), (0), (0), (by (rfl)), (by (rfl)), (by (rfl)), H', ⟨Nat.le_refl _⟩, ⟨by repeat ((with_reducible (exact HB.out)))⟩⟩
  case round =>
    clear H'
    obtain ⟨x2_1, x3_1, x9_1, rfl, rfl, rfl, HA, HK1, HB⟩ := hrel
    cases gk with
    | zero => exact absurd HA.out (by simp [edit_sums.l0])
    | succ k1 =>
      have H := HA.out
      clear HA
      simp only [edit_sums.l0] at H
      by_cases c2 : x9_1 < (l0.length : Int)
      · rw [if_pos c2] at H
        have c2b0 : decide (x9_1 < (l0.length : Int)) = true := decide_eq_true c2
        clear c2
        by_cases c3 : 0 ≤ x9_1
        · rw [if_pos c3] at H
          have c3b0 : decide (0 ≤ x9_1) = true := decide_eq_true c3
          clear c3
          by_cases c4 : x9_1 < (l0.length : Int)
          · rw [if_pos c4] at H
            have c4b0 : decide (x9_1 < (l0.length : Int)) = true := decide_eq_true c4
            clear c4
            obtain ⟨ji5, hji5⟩ : ∃ j_ : Int, (mx ((rd_T49 l0 x9_1).f0) ((rd_T49 l0 x9_1).f2)) = j_ := ⟨_, rfl⟩
            replace H : (if (ji5) > (wrap64 (16777216 - x2_1)) then (some (0, 0, false)) else (if (mx ((rd_T49 l0 x9_1).f0) (((rd_T49 l0 x9_1).f1).size : Int)) > (wrap64 (16777216 - x3_1)) then (some (0, 0, false)) else (edit_sums.l0 k1 (wrap64 (x2_1 + (wrap64 (((rd_T49 l0 x9_1).f0) + ((rd_T49 l0 x9_1).f2))))) (wrap64 (x3_1 + (wrap64 (((rd_T49 l0 x9_1).f0) + (((rd_T49 l0 x9_1).f1).size : Int))))) l0 (l0.length : Int) (wrap64 (x9_1 + 1))))) = some (r1, r2, r3) := by (rw [hji5] at H; exact H)
            have hji5_ : (if ((rd_T49 l0 x9_1).f0) < ((rd_T49 l0 x9_1).f2) then ((rd_T49 l0 x9_1).f2) else ((rd_T49 l0 x9_1).f0)) = ji5 := hji5
            (try simp only [Int.ofNat_lt] at hji5_)
            by_cases c6 : (ji5) > (wrap64 (16777216 - x2_1))
            · rw [if_pos c6] at H
              have c6b0 : decide ((wrap64 (16777216 - x2_1)) < (ji5)) = true := decide_eq_true c6
              clear c6
              simp only [Option.some.injEq, Prod.mk.injEq] at H
              obtain ⟨rfl, rfl, rfl⟩ := H
              have p144 : 0 ≤ (x9_1 : Int) := of_decide_eq_true (by (with_reducible assumption))
              have q144 : x9_1 < (l0.length : Int) := of_decide_eq_true (by (with_reducible assumption))
              obtain ⟨ad144, e144, hx144_0, hx144_1, hx144_2⟩ := at_T49 HR0.out x9_1 p144 q144
              cases e144
              replace hx144_0 := (HB.out.cell (World.block_lt_of_cell? w _ hx144_0)).trans hx144_0
              replace hx144_1 := (HB.out.cell (World.block_lt_of_cell? w _ hx144_1)).trans hx144_1
              replace hx144_2 := (HB.out.cell (World.block_lt_of_cell? w _ hx144_2)).trans hx144_2
              replace p144 := eq_true p144
              replace q144 := eq_true q144
              go_wp2_with (first | ((with_reducible refine gate_dst (N := 6) rfl ?_); (try (refine gate_guard (by rfl) ?_; dsimp only)); refine box_event ?hg (N := 6) ?hd (cs := #[.int .i64 0, .string (⟨#[]⟩ : ByteArray), .int .i64 0]) (t := 49) ?hr ?_; (case hd => rfl); (case hg => rfl); (case hr => (go_simp; done)); intro gb145 hg w7 hbox hb; have n0_ := Aside0.mk (below_step (by repeat ((with_reducible (exact HB.out)))) hb); have n1_ := Aside0.mk (hbox); have n2_ := Aside0.mk ((by rw [hg]; exact (below_size (by repeat ((with_reducible (exact HB.out))))) : w.heap.size ≤ gb145)); have n3_ := Aside0.mk ((by rw [hg]; exact (below_size (by repeat ((with_reducible (exact HB.out))))) : w.heap.size ≤ gb145)); clear HB; have HB := n0_; have BK145 := n1_; have GW145 := n2_; have GE145 := n3_; clear n0_ n1_ n2_ n3_; clear hb hbox hg; have hcz8_0 : w7.cell? ⟨gb145, 0, none⟩ = some (.int .i64 0) := (blk_cell BK145.out 0).trans rfl; have hcz8_1 : w7.cell? ⟨gb145, 1, none⟩ = some (.string (⟨#[]⟩ : ByteArray)) := (blk_cell BK145.out 1).trans rfl; have hcz8_2 : w7.cell? ⟨gb145, 2, none⟩ = some (.int .i64 0) := (blk_cell BK145.out 2).trans rfl; have hfz8_0 := blk_frozen BK145.out 0; have hfz8_1 := blk_frozen BK145.out 1; have hfz8_2 := blk_frozen BK145.out 2))
              go_ret3
              exact ⟨by (rfl), by repeat ((with_reducible first | exact HB.out | refine below_set ?_ GE145.out))⟩
            · rw [if_neg c6] at H
              have c6b0 : decide ((wrap64 (16777216 - x2_1)) < (ji5)) = false := decide_eq_false c6
              clear c6
              obtain ⟨ji9, hji9⟩ : ∃ j_ : Int, (mx ((rd_T49 l0 x9_1).f0) (((rd_T49 l0 x9_1).f1).size : Int)) = j_ := ⟨_, rfl⟩
              replace H : (if (ji9) > (wrap64 (16777216 - x3_1)) then (some (0, 0, false)) else (edit_sums.l0 k1 (wrap64 (x2_1 + (wrap64 (((rd_T49 l0 x9_1).f0) + ((rd_T49 l0 x9_1).f2))))) (wrap64 (x3_1 + (wrap64 (((rd_T49 l0 x9_1).f0) + (((rd_T49 l0 x9_1).f1).size : Int))))) l0 (l0.length : Int) (wrap64 (x9_1 + 1)))) = some (r1, r2, r3) := by (rw [hji9] at H; exact H)
              have hji9_ : (if ((rd_T49 l0 x9_1).f0) < (((rd_T49 l0 x9_1).f1).size : Int) then (((rd_T49 l0 x9_1).f1).size : Int) else ((rd_T49 l0 x9_1).f0)) = ji9 := hji9
              (try simp only [Int.ofNat_lt] at hji9_)
              by_cases c10 : (ji9) > (wrap64 (16777216 - x3_1))
              · rw [if_pos c10] at H
                have c10b0 : decide ((wrap64 (16777216 - x3_1)) < (ji9)) = true := decide_eq_true c10
                clear c10
                simp only [Option.some.injEq, Prod.mk.injEq] at H
                obtain ⟨rfl, rfl, rfl⟩ := H
                have p144 : 0 ≤ (x9_1 : Int) := of_decide_eq_true (by (with_reducible assumption))
                have q144 : x9_1 < (l0.length : Int) := of_decide_eq_true (by (with_reducible assumption))
                obtain ⟨ad144, e144, hx144_0, hx144_1, hx144_2⟩ := at_T49 HR0.out x9_1 p144 q144
                cases e144
                replace hx144_0 := (HB.out.cell (World.block_lt_of_cell? w _ hx144_0)).trans hx144_0
                replace hx144_1 := (HB.out.cell (World.block_lt_of_cell? w _ hx144_1)).trans hx144_1
                replace hx144_2 := (HB.out.cell (World.block_lt_of_cell? w _ hx144_2)).trans hx144_2
                replace p144 := eq_true p144
                replace q144 := eq_true q144
                go_wp2_with (first | ((with_reducible refine gate_dst (N := 6) rfl ?_); (try (refine gate_guard (by rfl) ?_; dsimp only)); refine box_event ?hg (N := 6) ?hd (cs := #[.int .i64 0, .string (⟨#[]⟩ : ByteArray), .int .i64 0]) (t := 49) ?hr ?_; (case hd => rfl); (case hg => rfl); (case hr => (go_simp; done)); intro gb145 hg w11 hbox hb; have n0_ := Aside0.mk (below_step (by repeat ((with_reducible (exact HB.out)))) hb); have n1_ := Aside0.mk (hbox); have n2_ := Aside0.mk ((by rw [hg]; exact (below_size (by repeat ((with_reducible (exact HB.out))))) : w.heap.size ≤ gb145)); have n3_ := Aside0.mk ((by rw [hg]; exact (below_size (by repeat ((with_reducible (exact HB.out))))) : w.heap.size ≤ gb145)); clear HB; have HB := n0_; have BK145 := n1_; have GW145 := n2_; have GE145 := n3_; clear n0_ n1_ n2_ n3_; clear hb hbox hg; have hcz12_0 : w11.cell? ⟨gb145, 0, none⟩ = some (.int .i64 0) := (blk_cell BK145.out 0).trans rfl; have hcz12_1 : w11.cell? ⟨gb145, 1, none⟩ = some (.string (⟨#[]⟩ : ByteArray)) := (blk_cell BK145.out 1).trans rfl; have hcz12_2 : w11.cell? ⟨gb145, 2, none⟩ = some (.int .i64 0) := (blk_cell BK145.out 2).trans rfl; have hfz12_0 := blk_frozen BK145.out 0; have hfz12_1 := blk_frozen BK145.out 1; have hfz12_2 := blk_frozen BK145.out 2))
                go_ret3
                exact ⟨by (rfl), by repeat ((with_reducible first | exact HB.out | refine below_set ?_ GE145.out))⟩
              · rw [if_neg c10] at H
                have c10b0 : decide ((wrap64 (16777216 - x3_1)) < (ji9)) = false := decide_eq_false c10
                clear c10
                have H' := Aside0.mk H
                clear H
                have p144 : 0 ≤ (x9_1 : Int) := of_decide_eq_true (by (with_reducible assumption))
                have q144 : x9_1 < (l0.length : Int) := of_decide_eq_true (by (with_reducible assumption))
                obtain ⟨ad144, e144, hx144_0, hx144_1, hx144_2⟩ := at_T49 HR0.out x9_1 p144 q144
                cases e144
                replace hx144_0 := (HB.out.cell (World.block_lt_of_cell? w _ hx144_0)).trans hx144_0
                replace hx144_1 := (HB.out.cell (World.block_lt_of_cell? w _ hx144_1)).trans hx144_1
                replace hx144_2 := (HB.out.cell (World.block_lt_of_cell? w _ hx144_2)).trans hx144_2
                replace p144 := eq_true p144
                replace q144 := eq_true q144
                go_wp2_with (first | ((with_reducible refine gate_dst (N := 6) rfl ?_); (try (refine gate_guard (by rfl) ?_; dsimp only)); refine box_event ?hg (N := 6) ?hd (cs := #[.int .i64 0, .string (⟨#[]⟩ : ByteArray), .int .i64 0]) (t := 49) ?hr ?_; (case hd => rfl); (case hg => rfl); (case hr => (go_simp; done)); intro gb145 hg w13 hbox hb; have n0_ := Aside0.mk (below_step (by repeat ((with_reducible (exact HB.out)))) hb); have n1_ := Aside0.mk (hbox); have n2_ := Aside0.mk ((by rw [hg]; exact (below_size (by repeat ((with_reducible (exact HB.out))))) : w.heap.size ≤ gb145)); have n3_ := Aside0.mk ((by rw [hg]; exact (below_size (by repeat ((with_reducible (exact HB.out))))) : w.heap.size ≤ gb145)); clear HB; have HB := n0_; have BK145 := n1_; have GW145 := n2_; have GE145 := n3_; clear n0_ n1_ n2_ n3_; clear hb hbox hg; have hcz14_0 : w13.cell? ⟨gb145, 0, none⟩ = some (.int .i64 0) := (blk_cell BK145.out 0).trans rfl; have hcz14_1 : w13.cell? ⟨gb145, 1, none⟩ = some (.string (⟨#[]⟩ : ByteArray)) := (blk_cell BK145.out 1).trans rfl; have hcz14_2 : w13.cell? ⟨gb145, 2, none⟩ = some (.int .i64 0) := (blk_cell BK145.out 2).trans rfl; have hfz14_0 := blk_frozen BK145.out 0; have hfz14_1 := blk_frozen BK145.out 1; have hfz14_2 := blk_frozen BK145.out 2))
                go_roundg k1
                case measure => have := HK1.out; omega
                case rel => exact ⟨(wrap64 (x2_1 + (wrap64 (((rd_T49 l0 x9_1).f0) + ((rd_T49 l0 x9_1).f2))))), (wrap64 (x3_1 + (wrap64 (((rd_T49 l0 x9_1).f0) + (((rd_T49 l0 x9_1).f1).size : Int))))), (wrap64 (x9_1 + 1)), (by (rfl)), (by (rfl)), (by (rfl)), H', ⟨by have := HK1.out; omega⟩, ⟨by repeat ((with_reducible first | exact HB.out | refine below_set ?_ GE145.out))⟩⟩
          · rw [if_neg c4] at H
            exact absurd H (by simp)
        · rw [if_neg c3] at H
          exact absurd H (by simp)
      · rw [if_neg c2] at H
        have c2b0 : decide (x9_1 < (l0.length : Int)) = false := decide_eq_false c2
        clear c2
        simp only [Option.some.injEq, Prod.mk.injEq] at H
        obtain ⟨rfl, rfl, rfl⟩ := H
        go_wp2
        go_ret3
        exact ⟨by (rfl), by repeat ((with_reducible (exact HB.out)))⟩

end Go.Proofs.Ytjbnffadfohofaa.P
end
-- MERGED YtjbnffadfohofaaPeditGood
section
-- Written by wip/myprint.py of this session, over the kit's print.py: a Lean function for each Go function, and the proof that the code comes to it.
namespace Go.Proofs.Ytjbnffadfohofaa.P
open Go.RowKit Go.Proofs.YtjbnffadfohofaaW.PrintWords Go.Proofs.YtjbnffadfohofaaW.PrintLast Go.Proofs.YtjbnffadfohofaaW.PrintMore
attribute [local go_sem] max2_int min2_int max_two min_two max_three min_three max_four min_four   -- for this text's walks alone
set_option linter.unusedVariables false
set_option linter.unusedSimpArgs false

/-! ### edit_Good: function 30 -/
def edit_Good.f (k : Nat) (l0 : List (S49)) : Option (Bool) := (edit_right.f k l0).bind fun t146 => (if t146 = true then ((edit_sums.f k l0).bind fun bt147 => (some bt147.2.2)) else (some false))
theorem edit_Good.mono : ∀ a0 k, LeO (edit_Good.f k a0) (edit_Good.f (k + 1) a0) := by
  intro a0 k
  unfold edit_Good.f
  repeat' first | (with_reducible exact edit_right.mono _ _) | (with_reducible exact edit_sums.mono _ _) | (with_reducible exact LeO.refl _) | (with_reducible refine LeO.ite ?_ ?_) | (with_reducible refine LeO.bind ?_ (fun _ => ?_))
set_option maxHeartbeats 8000000 in
set_option maxRecDepth 100000 in
theorem edit_Good.calls (k : Nat) (A0 : Option Addr) (c0 : Nat) (l0 : List (S49)) (r : Bool) (w : World) (hr0 : Kd.C k49 w A0 l0.length l0) (hc0 : l0.length ≤ c0) (h : edit_Good.f k l0 = some r) :
    Calls Try.prog 30 #[.slice A0 l0.length c0] w fun e w' => e = .returned (.bool r) ∧ Below w.heap.size w w' := by
  have HR0 := Aside0.mk hr0
  have HC0 := Aside0.mk hc0
  clear hr0 hc0
  have HB := Aside0.mk (Below.refl w.heap.size w)
  have H : ((edit_right.f k l0).bind fun t146 => (if t146 = true then ((edit_sums.f k l0).bind fun bt147 => (some bt147.2.2)) else (some false))) = some r := h
  clear h
  replace H := Option.bind_eq_some_iff.mp H
  obtain ⟨t146, A20, H⟩ := H
  replace H : (if t146 = true then ((edit_sums.f k l0).bind fun bt147 => (some bt147.2.2)) else (some false)) = some r := H
  have A2 := Aside0.mk A20
  clear A20
  by_cases c3 : t146 = true
  · subst c3
    have H1 : ((edit_sums.f k l0).bind fun bt147 => (some bt147.2.2)) = some r := by rw [if_pos rfl] at H; exact H
    clear H
    have H := H1
    clear H1
    replace H := Option.bind_eq_some_iff.mp H
    obtain ⟨⟨t147, t148, t149⟩, A40, H⟩ := H
    replace H : (some t149) = some r := H
    have A4 := Aside0.mk A40
    clear A40
    obtain rfl := Option.some.inj H
    go_enter Try.func30, Try.ntmps30
    go_wp2_with (first | ((with_reducible refine gate_callee (f := 40) rfl ?_); refine goesL_ (some 7) rfl rfl Try.func40 (by kernel_rfl) rfl #[.slice A0 l0.length c0] rfl (by (try simp only [List.map_toArray, List.map_cons, List.map_nil]); (rfl)) ?_; (with_reducible refine (edit_right.calls k _ _ l0 true _ ?side1 ?side2 A2.out).mono ?_); (case side1 => repeat ((exact HR0.out))); (case side2 => exact HC0.out); rintro e w5 ⟨rfl, hb⟩; refine ⟨_, rfl, ?_⟩; have n0_ := Aside0.mk (below_step (by repeat ((with_reducible (exact HB.out)))) hb); clear HB; have HB := n0_; clear n0_; (try clear hb); (try clear hb2); (try clear hk); (try clear hi)) | ((with_reducible refine gate_callee (f := 41) rfl ?_); refine goesL_ (some 11) rfl rfl Try.func41 (by kernel_rfl) rfl #[.slice A0 l0.length c0] rfl (by (try simp only [List.map_toArray, List.map_cons, List.map_nil]); (rfl)) ?_; (with_reducible refine (edit_sums.calls k _ _ l0 t147 t148 t149 _ ?side1 ?side2 A4.out).mono ?_); (case side1 => repeat ((exact (Kd.C_below HR0.out HB.out)))); (case side2 => exact HC0.out); rintro e w6 ⟨rfl, hb⟩; refine ⟨_, rfl, ?_⟩; have n0_ := Aside0.mk (below_step (by repeat ((with_reducible (exact HB.out)))) hb); clear HB; have HB := n0_; clear n0_; (try clear hb); (try clear hb2); (try clear hk); (try clear hi)))
    go_ret
    exact ⟨by (rfl), by repeat ((with_reducible (exact HB.out)))⟩
  · replace c3 := Bool.eq_false_iff.mpr c3
    subst c3
    have H1 : (some false) = some r := by rw [if_neg (show ¬ (false = true) by decide)] at H; exact H
    clear H
    have H := H1
    clear H1
    obtain rfl := Option.some.inj H
    go_enter Try.func30, Try.ntmps30
    go_wp2_with (first | ((with_reducible refine gate_callee (f := 40) rfl ?_); refine goesL_ (some 7) rfl rfl Try.func40 (by kernel_rfl) rfl #[.slice A0 l0.length c0] rfl (by (try simp only [List.map_toArray, List.map_cons, List.map_nil]); (rfl)) ?_; (with_reducible refine (edit_right.calls k _ _ l0 false _ ?side1 ?side2 A2.out).mono ?_); (case side1 => repeat ((exact HR0.out))); (case side2 => exact HC0.out); rintro e w7 ⟨rfl, hb⟩; refine ⟨_, rfl, ?_⟩; have n0_ := Aside0.mk (below_step (by repeat ((with_reducible (exact HB.out)))) hb); clear HB; have HB := n0_; clear n0_; (try clear hb); (try clear hb2); (try clear hk); (try clear hi)))
    go_ret
    exact ⟨by (rfl), by repeat ((with_reducible (exact HB.out)))⟩

end Go.Proofs.Ytjbnffadfohofaa.P
end
-- MERGED YtjbnffadfohofaaPeditIn
section
-- Written by wip/myprint.py of this session, over the kit's print.py: a Lean function for each Go function, and the proof that the code comes to it.
namespace Go.Proofs.Ytjbnffadfohofaa.P
open Go.RowKit Go.Proofs.YtjbnffadfohofaaW.PrintWords Go.Proofs.YtjbnffadfohofaaW.PrintLast Go.Proofs.YtjbnffadfohofaaW.PrintMore
attribute [local go_sem] max2_int min2_int max_two min_two max_three min_three max_four min_four   -- for this text's walks alone
set_option linter.unusedVariables false
set_option linter.unusedSimpArgs false

/-! ### edit_In: function 42 -/
def edit_In.f (k : Nat) (l0 : List (S49)) : Option (Int) := (edit_Good.f k l0).bind fun t172 => (if t172 = true then ((edit_sums.f k l0).bind fun bt173 => (some bt173.1)) else (some 0))
theorem edit_In.mono : ∀ a0 k, LeO (edit_In.f k a0) (edit_In.f (k + 1) a0) := by
  intro a0 k
  unfold edit_In.f
  repeat' first | (with_reducible exact edit_Good.mono _ _) | (with_reducible exact edit_sums.mono _ _) | (with_reducible exact LeO.refl _) | (with_reducible refine LeO.ite ?_ ?_) | (with_reducible refine LeO.bind ?_ (fun _ => ?_))
set_option maxHeartbeats 8000000 in
set_option maxRecDepth 100000 in
theorem edit_In.calls (k : Nat) (A0 : Option Addr) (c0 : Nat) (l0 : List (S49)) (r : Int) (w : World) (hr0 : Kd.C k49 w A0 l0.length l0) (hc0 : l0.length ≤ c0) (h : edit_In.f k l0 = some r) :
    Calls Try.prog 42 #[.slice A0 l0.length c0] w fun e w' => e = .returned (.int .i64 r) ∧ Below w.heap.size w w' := by
  have HR0 := Aside0.mk hr0
  have HC0 := Aside0.mk hc0
  clear hr0 hc0
  have HB := Aside0.mk (Below.refl w.heap.size w)
  have H : ((edit_Good.f k l0).bind fun t172 => (if t172 = true then ((edit_sums.f k l0).bind fun bt173 => (some bt173.1)) else (some 0))) = some r := h
  clear h
  replace H := Option.bind_eq_some_iff.mp H
  obtain ⟨t172, A20, H⟩ := H
  replace H : (if t172 = true then ((edit_sums.f k l0).bind fun bt173 => (some bt173.1)) else (some 0)) = some r := H
  have A2 := Aside0.mk A20
  clear A20
  by_cases c3 : t172 = true
  · subst c3
    have H1 : ((edit_sums.f k l0).bind fun bt173 => (some bt173.1)) = some r := by rw [if_pos rfl] at H; exact H
    clear H
    have H := H1
    clear H1
    replace H := Option.bind_eq_some_iff.mp H
    obtain ⟨⟨t173, t174, t175⟩, A40, H⟩ := H
    replace H : (some t173) = some r := H
    have A4 := Aside0.mk A40
    clear A40
    obtain rfl := Option.some.inj H
    go_enter Try.func42, Try.ntmps42
    go_wp2_with (first | ((with_reducible refine gate_callee (f := 30) rfl ?_); refine goesL_ (some 7) rfl rfl Try.func30 (by kernel_rfl) rfl #[.slice A0 l0.length c0] rfl (by (try simp only [List.map_toArray, List.map_cons, List.map_nil]); (rfl)) ?_; (with_reducible refine (edit_Good.calls k _ _ l0 true _ ?side1 ?side2 A2.out).mono ?_); (case side1 => repeat ((exact HR0.out))); (case side2 => exact HC0.out); rintro e w5 ⟨rfl, hb⟩; refine ⟨_, rfl, ?_⟩; have n0_ := Aside0.mk (below_step (by repeat ((with_reducible (exact HB.out)))) hb); clear HB; have HB := n0_; clear n0_; (try clear hb); (try clear hb2); (try clear hk); (try clear hi)) | ((with_reducible refine gate_callee (f := 41) rfl ?_); refine goesL_ (some 11) rfl rfl Try.func41 (by kernel_rfl) rfl #[.slice A0 l0.length c0] rfl (by (try simp only [List.map_toArray, List.map_cons, List.map_nil]); (rfl)) ?_; (with_reducible refine (edit_sums.calls k _ _ l0 t173 t174 t175 _ ?side1 ?side2 A4.out).mono ?_); (case side1 => repeat ((exact (Kd.C_below HR0.out HB.out)))); (case side2 => exact HC0.out); rintro e w6 ⟨rfl, hb⟩; refine ⟨_, rfl, ?_⟩; have n0_ := Aside0.mk (below_step (by repeat ((with_reducible (exact HB.out)))) hb); clear HB; have HB := n0_; clear n0_; (try clear hb); (try clear hb2); (try clear hk); (try clear hi)))
    go_ret
    exact ⟨by (rfl), by repeat ((with_reducible (exact HB.out)))⟩
  · replace c3 := Bool.eq_false_iff.mpr c3
    subst c3
    have H1 : (some 0) = some r := by rw [if_neg (show ¬ (false = true) by decide)] at H; exact H
    clear H
    have H := H1
    clear H1
    obtain rfl := Option.some.inj H
    go_enter Try.func42, Try.ntmps42
    go_wp2_with (first | ((with_reducible refine gate_callee (f := 30) rfl ?_); refine goesL_ (some 7) rfl rfl Try.func30 (by kernel_rfl) rfl #[.slice A0 l0.length c0] rfl (by (try simp only [List.map_toArray, List.map_cons, List.map_nil]); (rfl)) ?_; (with_reducible refine (edit_Good.calls k _ _ l0 false _ ?side1 ?side2 A2.out).mono ?_); (case side1 => repeat ((exact HR0.out))); (case side2 => exact HC0.out); rintro e w7 ⟨rfl, hb⟩; refine ⟨_, rfl, ?_⟩; have n0_ := Aside0.mk (below_step (by repeat ((with_reducible (exact HB.out)))) hb); clear HB; have HB := n0_; clear n0_; (try clear hb); (try clear hb2); (try clear hk); (try clear hi)))
    go_ret
    exact ⟨by (rfl), by repeat ((with_reducible (exact HB.out)))⟩

end Go.Proofs.Ytjbnffadfohofaa.P
end
-- MERGED YtjbnffadfohofaaPvariorumref06Good
section
-- Written by wip/myprint.py of this session, over the kit's print.py: a Lean function for each Go function, and the proof that the code comes to it.
namespace Go.Proofs.Ytjbnffadfohofaa.P
open Go.RowKit Go.Proofs.YtjbnffadfohofaaW.PrintWords Go.Proofs.YtjbnffadfohofaaW.PrintLast Go.Proofs.YtjbnffadfohofaaW.PrintMore
attribute [local go_sem] max2_int min2_int max_two min_two max_three min_three max_four min_four   -- for this text's walks alone
set_option linter.unusedVariables false
set_option linter.unusedSimpArgs false

/-! ### variorumref06_Good: function 14 -/
-- NEEDS Derived.Test.YtjbnffadfohofaaEditK
def variorumref06_Good.f (l0 : List (S49)) : Option (Bool) := if l0.length ≤ 140737488351232 then some (EditL.good l0) else none
theorem variorumref06_Good.calls (A0 : Option Addr) (c0 : Nat) (l0 : List (S49)) (r : Bool) (w : World) (hr0 : Kd.C k49 w A0 l0.length l0) (hc0 : l0.length ≤ c0) (h : variorumref06_Good.f l0 = some r) :
    Calls Try.prog 14 #[.slice A0 l0.length c0] w fun e w' => e = .returned (.bool r) ∧ Below w.heap.size w w' := by
  unfold variorumref06_Good.f at h
  by_cases hl : l0.length ≤ 140737488351232
  · rw [if_pos hl] at h
    obtain rfl := Option.some.inj h
    exact EditK.good_c A0 c0 l0 w hr0 hc0 hl
  · rw [if_neg hl] at h; cases h

end Go.Proofs.Ytjbnffadfohofaa.P
end
-- MERGED YtjbnffadfohofaaPvariorumref06In
section
-- Written by wip/myprint.py of this session, over the kit's print.py: a Lean function for each Go function, and the proof that the code comes to it.
namespace Go.Proofs.Ytjbnffadfohofaa.P
open Go.RowKit Go.Proofs.YtjbnffadfohofaaW.PrintWords Go.Proofs.YtjbnffadfohofaaW.PrintLast Go.Proofs.YtjbnffadfohofaaW.PrintMore
attribute [local go_sem] max2_int min2_int max_two min_two max_three min_three max_four min_four   -- for this text's walks alone
set_option linter.unusedVariables false
set_option linter.unusedSimpArgs false

/-! ### variorumref06_In: function 32 -/
def variorumref06_In.f (k : Nat) (l0 : List (S49)) : Option (Int) := (variorumref06_Good.f l0).bind fun t104 => (if t104 = true then ((variorumref06_sums.f k l0).bind fun bt105 => (some bt105.1)) else (some 0))
theorem variorumref06_In.mono : ∀ a0 k, LeO (variorumref06_In.f k a0) (variorumref06_In.f (k + 1) a0) := by
  intro a0 k
  unfold variorumref06_In.f
  repeat' first
      | (with_reducible exact variorumref06_sums.mono _ _)
      | (with_reducible exact LeO.refl _)
      | (with_reducible exact LeO.none _)
      | (with_reducible refine LeO.ite ?_ ?_)
      | (with_reducible refine LeO.bind ?_ (fun _ => ?_))
      | exact variorumref06_sums.mono _ _
      | exact LeO.none _
      | refine LeO.ite ?_ ?_
      | refine LeO.bind ?_ (fun _ => ?_)
set_option maxHeartbeats 8000000 in
set_option maxRecDepth 100000 in
theorem variorumref06_In.calls (k : Nat) (A0 : Option Addr) (c0 : Nat) (l0 : List (S49)) (r : Int) (w : World) (hr0 : Kd.C k49 w A0 l0.length l0) (hc0 : l0.length ≤ c0) (h : variorumref06_In.f k l0 = some r) :
    Calls Try.prog 32 #[.slice A0 l0.length c0] w fun e w' => e = .returned (.int .i64 r) ∧ Below w.heap.size w w' := by
  have HR0 := Aside0.mk hr0
  have HC0 := Aside0.mk hc0
  clear hr0 hc0
  have HB := Aside0.mk (Below.refl w.heap.size w)
  have H : ((variorumref06_Good.f l0).bind fun t104 => (if t104 = true then ((variorumref06_sums.f k l0).bind fun bt105 => (some bt105.1)) else (some 0))) = some r := h
  clear h
  replace H := Option.bind_eq_some_iff.mp H
  obtain ⟨t104, A20, H⟩ := H
  replace H : (if t104 = true then ((variorumref06_sums.f k l0).bind fun bt105 => (some bt105.1)) else (some 0)) = some r := H
  have A2 := Aside0.mk A20
  clear A20
  by_cases c3 : t104 = true
  · subst c3
    have H1 : ((variorumref06_sums.f k l0).bind fun bt105 => (some bt105.1)) = some r := by rw [if_pos rfl] at H; exact H
    clear H
    have H := H1
    clear H1
    replace H := Option.bind_eq_some_iff.mp H
    obtain ⟨⟨t105, t106, t107⟩, A40, H⟩ := H
    replace H : (some t105) = some r := H
    have A4 := Aside0.mk A40
    clear A40
    obtain rfl := Option.some.inj H
    go_enter Try.func32, Try.ntmps32
    go_wp2_with (first | ((with_reducible refine gate_callee (f := 14) rfl ?_); refine goesL_ (some 7) rfl rfl Try.func14 (by kernel_rfl) rfl #[.slice A0 l0.length c0] rfl (by (try simp only [List.map_toArray, List.map_cons, List.map_nil]); first | done | rfl | (simp only [List.length_drop, List.length_take]; rfl)) ?_; (with_reducible refine (variorumref06_Good.calls _ _ l0 true _ ?side1 ?side2 A2.out).mono ?_); (case side1 => repeat (first | exact HR0.out | (with_reducible refine Kd.C_alloc ?_ _) | (with_reducible refine Kd.C_drewN ?_ _) | (with_reducible refine Kd.C_drew ?_))); (case side2 => exact HC0.out); rintro e w5 ⟨rfl, hb⟩; refine ⟨_, rfl, ?_⟩; have n0_ := Aside0.mk (below_step (by repeat (first | (with_reducible first | exact HB.out | apply below_alloc | apply pw_below_drewN | apply below_drew1) | exact HB.out)) hb); clear HB; have HB := n0_; clear n0_; (try clear hb); (try clear hb2); (try clear hk); (try clear hi)) | ((with_reducible refine gate_callee (f := 28) rfl ?_); refine goesL_ (some 11) rfl rfl Try.func28 (by kernel_rfl) rfl #[.slice A0 l0.length c0] rfl (by (try simp only [List.map_toArray, List.map_cons, List.map_nil]); first | done | rfl | (simp only [List.length_drop, List.length_take]; rfl)) ?_; (with_reducible refine (variorumref06_sums.calls k _ _ l0 t105 t106 t107 _ ?side1 ?side2 A4.out).mono ?_); (case side1 => repeat (first | exact (Kd.C_below HR0.out HB.out) | (with_reducible refine Kd.C_alloc ?_ _) | (with_reducible refine Kd.C_drewN ?_ _) | (with_reducible refine Kd.C_drew ?_))); (case side2 => exact HC0.out); rintro e w6 ⟨rfl, hb⟩; refine ⟨_, rfl, ?_⟩; have n0_ := Aside0.mk (below_step (by repeat (first | (with_reducible first | exact HB.out | apply below_alloc | apply pw_below_drewN | apply below_drew1) | exact HB.out)) hb); clear HB; have HB := n0_; clear n0_; (try clear hb); (try clear hb2); (try clear hk); (try clear hi)))
    go_ret
    exact ⟨by first | rfl | (simp [errW_none, errW_some] <;> rfl) | (simp [*, errW_none, errW_some] <;> rfl), by repeat (first | (with_reducible first | exact HB.out | apply below_alloc | apply pw_below_drewN | apply below_drew1) | exact HB.out)⟩
  · replace c3 := Bool.eq_false_iff.mpr c3
    subst c3
    have H1 : (some 0) = some r := by rw [if_neg (show ¬ (false = true) by decide)] at H; exact H
    clear H
    have H := H1
    clear H1
    obtain rfl := Option.some.inj H
    go_enter Try.func32, Try.ntmps32
    go_wp2_with (first | ((with_reducible refine gate_callee (f := 14) rfl ?_); refine goesL_ (some 7) rfl rfl Try.func14 (by kernel_rfl) rfl #[.slice A0 l0.length c0] rfl (by (try simp only [List.map_toArray, List.map_cons, List.map_nil]); first | done | rfl | (simp only [List.length_drop, List.length_take]; rfl)) ?_; (with_reducible refine (variorumref06_Good.calls _ _ l0 false _ ?side1 ?side2 A2.out).mono ?_); (case side1 => repeat (first | exact HR0.out | (with_reducible refine Kd.C_alloc ?_ _) | (with_reducible refine Kd.C_drewN ?_ _) | (with_reducible refine Kd.C_drew ?_))); (case side2 => exact HC0.out); rintro e w7 ⟨rfl, hb⟩; refine ⟨_, rfl, ?_⟩; have n0_ := Aside0.mk (below_step (by repeat (first | (with_reducible first | exact HB.out | apply below_alloc | apply pw_below_drewN | apply below_drew1) | exact HB.out)) hb); clear HB; have HB := n0_; clear n0_; (try clear hb); (try clear hb2); (try clear hk); (try clear hi)))
    go_ret
    exact ⟨by first | rfl | (simp [errW_none, errW_some] <;> rfl) | (simp [*, errW_none, errW_some] <;> rfl), by repeat (first | (with_reducible first | exact HB.out | apply below_alloc | apply pw_below_drewN | apply below_drew1) | exact HB.out)⟩

end Go.Proofs.Ytjbnffadfohofaa.P
end
-- MERGED YtjbnffadfohofaaPvariorumref06Out
section
-- Written by wip/myprint.py of this session, over the kit's print.py: a Lean function for each Go function, and the proof that the code comes to it.
namespace Go.Proofs.Ytjbnffadfohofaa.P
open Go.RowKit Go.Proofs.YtjbnffadfohofaaW.PrintWords Go.Proofs.YtjbnffadfohofaaW.PrintLast Go.Proofs.YtjbnffadfohofaaW.PrintMore
attribute [local go_sem] max2_int min2_int max_two min_two max_three min_three max_four min_four   -- for this text's walks alone
set_option linter.unusedVariables false
set_option linter.unusedSimpArgs false

/-! ### variorumref06_Out: function 34 -/
def variorumref06_Out.f (k : Nat) (l0 : List (S49)) : Option (Int) := (variorumref06_Good.f l0).bind fun t110 => (if t110 = true then ((variorumref06_sums.f k l0).bind fun bt111 => (some bt111.2.1)) else (some 0))
theorem variorumref06_Out.mono : ∀ a0 k, LeO (variorumref06_Out.f k a0) (variorumref06_Out.f (k + 1) a0) := by
  intro a0 k
  unfold variorumref06_Out.f
  repeat' first
      | (with_reducible exact variorumref06_sums.mono _ _)
      | (with_reducible exact LeO.refl _)
      | (with_reducible exact LeO.none _)
      | (with_reducible refine LeO.ite ?_ ?_)
      | (with_reducible refine LeO.bind ?_ (fun _ => ?_))
      | exact variorumref06_sums.mono _ _
      | exact LeO.none _
      | refine LeO.ite ?_ ?_
      | refine LeO.bind ?_ (fun _ => ?_)
set_option maxHeartbeats 8000000 in
set_option maxRecDepth 100000 in
theorem variorumref06_Out.calls (k : Nat) (A0 : Option Addr) (c0 : Nat) (l0 : List (S49)) (r : Int) (w : World) (hr0 : Kd.C k49 w A0 l0.length l0) (hc0 : l0.length ≤ c0) (h : variorumref06_Out.f k l0 = some r) :
    Calls Try.prog 34 #[.slice A0 l0.length c0] w fun e w' => e = .returned (.int .i64 r) ∧ Below w.heap.size w w' := by
  have HR0 := Aside0.mk hr0
  have HC0 := Aside0.mk hc0
  clear hr0 hc0
  have HB := Aside0.mk (Below.refl w.heap.size w)
  have H : ((variorumref06_Good.f l0).bind fun t110 => (if t110 = true then ((variorumref06_sums.f k l0).bind fun bt111 => (some bt111.2.1)) else (some 0))) = some r := h
  clear h
  replace H := Option.bind_eq_some_iff.mp H
  obtain ⟨t110, A20, H⟩ := H
  replace H : (if t110 = true then ((variorumref06_sums.f k l0).bind fun bt111 => (some bt111.2.1)) else (some 0)) = some r := H
  have A2 := Aside0.mk A20
  clear A20
  by_cases c3 : t110 = true
  · subst c3
    have H1 : ((variorumref06_sums.f k l0).bind fun bt111 => (some bt111.2.1)) = some r := by rw [if_pos rfl] at H; exact H
    clear H
    have H := H1
    clear H1
    replace H := Option.bind_eq_some_iff.mp H
    obtain ⟨⟨t111, t112, t113⟩, A40, H⟩ := H
    replace H : (some t112) = some r := H
    have A4 := Aside0.mk A40
    clear A40
    obtain rfl := Option.some.inj H
    go_enter Try.func34, Try.ntmps34
    go_wp2_with (first | ((with_reducible refine gate_callee (f := 14) rfl ?_); refine goesL_ (some 7) rfl rfl Try.func14 (by kernel_rfl) rfl #[.slice A0 l0.length c0] rfl (by (try simp only [List.map_toArray, List.map_cons, List.map_nil]); first | done | rfl | (simp only [List.length_drop, List.length_take]; rfl)) ?_; (with_reducible refine (variorumref06_Good.calls _ _ l0 true _ ?side1 ?side2 A2.out).mono ?_); (case side1 => repeat (first | exact HR0.out | (with_reducible refine Kd.C_alloc ?_ _) | (with_reducible refine Kd.C_drewN ?_ _) | (with_reducible refine Kd.C_drew ?_))); (case side2 => exact HC0.out); rintro e w5 ⟨rfl, hb⟩; refine ⟨_, rfl, ?_⟩; have n0_ := Aside0.mk (below_step (by repeat (first | (with_reducible first | exact HB.out | apply below_alloc | apply pw_below_drewN | apply below_drew1) | exact HB.out)) hb); clear HB; have HB := n0_; clear n0_; (try clear hb); (try clear hb2); (try clear hk); (try clear hi)) | ((with_reducible refine gate_callee (f := 28) rfl ?_); refine goesL_ (some 11) rfl rfl Try.func28 (by kernel_rfl) rfl #[.slice A0 l0.length c0] rfl (by (try simp only [List.map_toArray, List.map_cons, List.map_nil]); first | done | rfl | (simp only [List.length_drop, List.length_take]; rfl)) ?_; (with_reducible refine (variorumref06_sums.calls k _ _ l0 t111 t112 t113 _ ?side1 ?side2 A4.out).mono ?_); (case side1 => repeat (first | exact (Kd.C_below HR0.out HB.out) | (with_reducible refine Kd.C_alloc ?_ _) | (with_reducible refine Kd.C_drewN ?_ _) | (with_reducible refine Kd.C_drew ?_))); (case side2 => exact HC0.out); rintro e w6 ⟨rfl, hb⟩; refine ⟨_, rfl, ?_⟩; have n0_ := Aside0.mk (below_step (by repeat (first | (with_reducible first | exact HB.out | apply below_alloc | apply pw_below_drewN | apply below_drew1) | exact HB.out)) hb); clear HB; have HB := n0_; clear n0_; (try clear hb); (try clear hb2); (try clear hk); (try clear hi)))
    go_ret
    exact ⟨by first | rfl | (simp [errW_none, errW_some] <;> rfl) | (simp [*, errW_none, errW_some] <;> rfl), by repeat (first | (with_reducible first | exact HB.out | apply below_alloc | apply pw_below_drewN | apply below_drew1) | exact HB.out)⟩
  · replace c3 := Bool.eq_false_iff.mpr c3
    subst c3
    have H1 : (some 0) = some r := by rw [if_neg (show ¬ (false = true) by decide)] at H; exact H
    clear H
    have H := H1
    clear H1
    obtain rfl := Option.some.inj H
    go_enter Try.func34, Try.ntmps34
    go_wp2_with (first | ((with_reducible refine gate_callee (f := 14) rfl ?_); refine goesL_ (some 7) rfl rfl Try.func14 (by kernel_rfl) rfl #[.slice A0 l0.length c0] rfl (by (try simp only [List.map_toArray, List.map_cons, List.map_nil]); first | done | rfl | (simp only [List.length_drop, List.length_take]; rfl)) ?_; (with_reducible refine (variorumref06_Good.calls _ _ l0 false _ ?side1 ?side2 A2.out).mono ?_); (case side1 => repeat (first | exact HR0.out | (with_reducible refine Kd.C_alloc ?_ _) | (with_reducible refine Kd.C_drewN ?_ _) | (with_reducible refine Kd.C_drew ?_))); (case side2 => exact HC0.out); rintro e w7 ⟨rfl, hb⟩; refine ⟨_, rfl, ?_⟩; have n0_ := Aside0.mk (below_step (by repeat (first | (with_reducible first | exact HB.out | apply below_alloc | apply pw_below_drewN | apply below_drew1) | exact HB.out)) hb); clear HB; have HB := n0_; clear n0_; (try clear hb); (try clear hb2); (try clear hk); (try clear hi)))
    go_ret
    exact ⟨by first | rfl | (simp [errW_none, errW_some] <;> rfl) | (simp [*, errW_none, errW_some] <;> rfl), by repeat (first | (with_reducible first | exact HB.out | apply below_alloc | apply pw_below_drewN | apply below_drew1) | exact HB.out)⟩

end Go.Proofs.Ytjbnffadfohofaa.P
end
-- MERGED YtjbnffadfohofaaEditF
section
/- What the program's and the reference's functions of edits come to (their printed forms): whether runs are an edit, of how many bytes, to how many. -/
namespace Go.Proofs.Ytjbnffadfohofaa.EditF
open Go.RowKit Go.Proofs.Ytjbnffadfohofaa.P Go.Proofs.YtjbnffadfohofaaW.PrintWords Go.Proofs.YtjbnffadfohofaaW.PrintLast Go.Proofs.YtjbnffadfohofaaW.PrintMore Go.Proofs.Ytjbnffadfohofaa.EditL Go.Proofs.Ytjbnffadfohofaa.EditK

theorem kind_f (r : Rn) : edit_kind.f r.f0 r.f1 r.f2 = some (knd r) := rfl
theorem sums_l (l0 : List Rn) (hb : l0.length ≤ 140737488351232) : ∀ (suf pre : List Rn) (k : Nat) (i o : Int), l0 = pre ++ suf → suf.length < k → (∀ r ∈ suf, knd r ≠ 0) → 0 ≤ i → i ≤ 16777216 → 0 ≤ o → o ≤ 16777216 →
    edit_sums.l0 k i o l0 (l0.length : Int) (pre.length : Int) = some (cond (fits suf i o) (i + inL suf, o + outL suf, true) (0, 0, false)) := by
  intro suf
  induction suf with
  | nil =>
    intro pre k i o hl hk _ _ _ _ _
    obtain ⟨k, rfl⟩ : ∃ m, k = m + 1 := ⟨k - 1, by simp at hk; omega⟩
    have : l0.length = pre.length := by rw [hl]; simp
    simp only [edit_sums.l0]
    rw [if_neg (by omega)]
    simp [fits, inL, outL]
  | cons r suf ih =>
    intro pre k i o hl hk hok hi0 hi ho0 ho
    obtain ⟨k, rfl⟩ : ∃ m, k = m + 1 := ⟨k - 1, by simp at hk; omega⟩
    obtain ⟨hl2, hn, hlt⟩ := snoc hl
    have hr := knd_cases r
    have h0 := hok r List.mem_cons_self
    simp only [edit_sums.l0]
    rw [if_pos hlt, if_pos (by omega), if_pos hlt, rd_at hl, w64 (x := 16777216 - i) (by omega) (by omega), w64 (x := 16777216 - o) (by omega) (by omega)]
    by_cases c1 : mx r.f0 r.f2 > 16777216 - i
    · rw [if_pos c1]
      have : ¬ (r.f0 ≤ 16777216 - i ∧ r.f2 ≤ 16777216 - i) := by
        unfold mx at c1
        split at c1 <;> omega
      have hf : fits (r :: suf) i o = false := by
        rw [Bool.eq_false_iff]
        simp only [fits, ne_eq, Bool.and_eq_true, decide_eq_true_eq]
        rintro ⟨⟨⟨⟨a1, a2⟩, _⟩, _⟩, _⟩
        exact this ⟨a1, a2⟩
      rw [hf]; rfl
    · rw [if_neg c1]
      have e1 : r.f0 ≤ 16777216 - i ∧ r.f2 ≤ 16777216 - i := by
        unfold mx at c1
        split at c1 <;> omega
      by_cases c2 : mx r.f0 (r.f1.size : Int) > 16777216 - o
      · rw [if_pos c2]
        have : ¬ (r.f0 ≤ 16777216 - o ∧ (r.f1.size : Int) ≤ 16777216 - o) := by
          unfold mx at c2
          split at c2 <;> omega
        have hf : fits (r :: suf) i o = false := by
          rw [Bool.eq_false_iff]
          simp only [fits, ne_eq, Bool.and_eq_true, decide_eq_true_eq]
          rintro ⟨⟨⟨_, a1⟩, a2⟩, _⟩
          exact this ⟨a1, a2⟩
        rw [hf]; rfl
      · rw [if_neg c2]
        have e2 : r.f0 ≤ 16777216 - o ∧ (r.f1.size : Int) ≤ 16777216 - o := by
          unfold mx at c2
          split at c2 <;> omega
        have hp := knd_pos h0
        simp only [fits, inL, outL]
        rw [decide_eq_true e1.1, decide_eq_true e1.2, decide_eq_true e2.1, decide_eq_true e2.2, Bool.true_and, Bool.true_and, Bool.true_and, Bool.true_and,
          w64 (x := r.f0 + r.f2) (by omega) (by omega), w64 (x := i + (r.f0 + r.f2)) (by omega) (by omega), w64 (x := r.f0 + (r.f1.size : Int)) (by omega) (by omega), w64 (x := o + (r.f0 + (r.f1.size : Int))) (by omega) (by omega), w64 (x := (pre.length : Int) + 1) (by omega) (by omega), ← hn]
        rw [ih (pre ++ [r]) k _ _ hl2 (by simp at hk; omega) (fun x hx => hok x (List.mem_cons_of_mem _ hx)) (by omega) (by rcases hr with h | h | h | h <;> omega) (by omega) (by rcases hr with h | h | h | h <;> omega)]
        cases fits suf (i + (r.f0 + r.f2)) (o + (r.f0 + (r.f1.size : Int))) with
        | false => rfl
        | true => simp only [cond_true, Option.some.injEq, Prod.mk.injEq, and_true]; omega
theorem sums_f {l : List Rn} (hb : l.length ≤ 140737488351232) (hok : ∀ r ∈ l, knd r ≠ 0) (k : Nat) (hk : l.length < k) : edit_sums.f k l = some (cond (fits l 0 0) (inL l, outL l, true) (0, 0, false)) := by
  unfold edit_sums.f
  have := sums_l l hb l [] k 0 0 rfl hk hok (by omega) (by omega) (by omega) (by omega)
  simp only [Int.zero_add] at this
  exact this
theorem right_l (l0 : List Rn) (hb : l0.length ≤ 140737488351232) : ∀ (suf pre : List Rn) (k : Nat) (last : Int), l0 = pre ++ suf → suf.length < k →
    edit_right.l0 k l0 last l0 (l0.length : Int) (pre.length : Int) = some (ord suf last && decide (l0.length ≤ 65536)) := by
  intro suf
  induction suf with
  | nil =>
    intro pre k last hl hk
    obtain ⟨k, rfl⟩ : ∃ m, k = m + 1 := ⟨k - 1, by simp at hk; omega⟩
    have : l0.length = pre.length := by rw [hl]; simp
    simp only [edit_right.l0]
    rw [if_neg (by omega)]
    simp only [ord, Bool.true_and, Option.some.injEq]
    by_cases h : l0.length ≤ 65536
    · rw [decide_eq_true h, decide_eq_true (by omega)]
    · rw [decide_eq_false h, decide_eq_false (by omega)]
  | cons r suf ih =>
    intro pre k last hl hk
    obtain ⟨k, rfl⟩ : ∃ m, k = m + 1 := ⟨k - 1, by simp at hk; omega⟩
    obtain ⟨hl2, hn, hlt⟩ := snoc hl
    have next := ih (pre ++ [r]) k (knd r) hl2 (by simp at hk; omega)
    rw [hn] at next
    simp only [edit_right.l0]
    rw [if_pos hlt, if_pos (by omega), if_pos hlt, rd_at hl, kind_f, Option.bind_some, w64 (x := (pre.length : Int) + 1) (by omega) (by omega), next]
    simp only [ord]
    by_cases c1 : knd r = 0
    · rw [if_pos c1, decide_eq_false (by omega)]; rfl
    · rw [if_neg c1, decide_eq_true c1]
      by_cases c2 : knd r = last
      · rw [if_pos c2, decide_eq_false (by omega)]; rfl
      · rw [if_neg c2, decide_eq_true c2]
        by_cases c3 : last = 3
        · rw [if_pos c3]
          by_cases c4 : knd r = 2
          · rw [if_pos c4, decide_eq_false (show ¬ ¬ (last = 3 ∧ knd r = 2) by omega)]; rfl
          · rw [if_neg c4, decide_eq_true (show ¬ (last = 3 ∧ knd r = 2) by omega)]; rfl
        · rw [if_neg c3, decide_eq_true (show ¬ (last = 3 ∧ knd r = 2) by omega)]; rfl
theorem good_f {l : List Rn} (hb : l.length ≤ 140737488351232) (k : Nat) (hk : l.length < k) : edit_Good.f k l = some (good l) := by
  unfold edit_Good.f edit_right.f good
  have := right_l l hb l [] k 0 rfl hk
  simp only [List.length_nil] at this
  rw [show ((0 : Nat) : Int) = 0 from rfl] at this
  rw [this, Option.bind_some]
  cases h : ord l 0 with
  | false => simp
  | true =>
    rw [sums_f hb (ord_ok h) k hk, Option.bind_some]
    by_cases h2 : l.length ≤ 65536
    · rw [decide_eq_true h2]
      cases fits l 0 0 <;> rfl
    · rw [decide_eq_false h2]; rfl
theorem in_f {l : List Rn} (hb : l.length ≤ 140737488351232) (k : Nat) (hk : l.length < k) : edit_In.f k l = some (if good l then inL l else 0) := by
  unfold edit_In.f
  rw [good_f hb k hk, Option.bind_some]
  cases h : good l with
  | false => rfl
  | true =>
    obtain ⟨_, _, h2, h3⟩ := good_ok h
    rw [if_pos rfl, sums_f hb h3 k hk, Option.bind_some, h2]; rfl
end Go.Proofs.Ytjbnffadfohofaa.EditF
end
-- MERGED YtjbnffadfohofaaRangeB
section
/- The state of a loop over an iterator whose body writes blocks that it had ahead of the loop, and no others. -/
namespace Go.Proofs.Ytjbnffadfohofaa.RangeB
open Go Go.RowKit Go.Proofs.Ytjbnffadfohofaa.RangeG

/-- All but the blocks F is as it was. -/
structure ButS (F : Nat → Prop) (w W : World) : Prop where
  os : W.os = w.os
  tape : W.tape = w.tape
  output : W.output = w.output
  size : w.heap.size ≤ W.heap.size
  block : ∀ k, k < w.heap.size → ¬ F k → W.heap[k]? = w.heap[k]?
theorem ButS.refl (F : Nat → Prop) (w : World) : ButS F w w := ⟨rfl, rfl, rfl, Nat.le_refl _, fun _ _ _ => rfl⟩
theorem ButS.trans {F : Nat → Prop} {a b c : World} (h : ButS F a b) (k : ButS F b c) : ButS F a c :=
  ⟨k.os.trans h.os, k.tape.trans h.tape, k.output.trans h.output, Nat.le_trans h.size k.size, fun i hi hF => (k.block i (Nat.lt_of_lt_of_le hi h.size) hF).trans (h.block i hi hF)⟩
theorem ButS.of_below {F : Nat → Prop} {w W : World} (h : Below w.heap.size w W) : ButS F w W := ⟨h.os, h.tape, h.output, h.size, fun k hk _ => h.block k hk⟩
theorem ButS.setCell {F : Nat → Prop} (w : World) (b o : Nat) (u : Value) (hb : F b) : ButS F w (w.setCell ⟨b, o, none⟩ u) :=
  ⟨rfl, rfl, rfl, by simp [World.setCell], fun k _ hF => Below.heap_setCell _ _ _ _ (fun e => hF (by rw [show k = b from e]; exact hb))⟩
theorem ButS.drew {F : Nat → Prop} (w : World) : ButS F w w.drew := ⟨rfl, rfl, rfl, Nat.le_refl _, fun _ _ _ => rfl⟩
theorem ButS.below {F : Nat → Prop} {B : Nat} {w0 w W : World} (h : ButS F w W) (hb : Below B w0 w) (hF : ∀ k, F k → B ≤ k) (hB : B ≤ w.heap.size) : Below B w0 W :=
  hb.trans ⟨h.os, h.tape, h.output, h.size, fun k hk => h.block k (Nat.lt_of_lt_of_le hk hB) (fun hf => by have := hF k hf; omega)⟩
structure Jf {α : Type} (w0 : World) (F : Nat → Prop) (Q : List α → World → Prop) (pre : List α) (G : Priv) (W : World) : Prop where
  q : Q pre W
  but : ButS F w0 W
  priv : ∀ k ob, G k = some ob → W.heap[k]? = some ob ∧ ob.isCells = true ∧ w0.heap.size ≤ k
section
variable {α : Type} {w0 : World} {F : Nat → Prop} {Q : List α → World → Prop}
theorem jf_party (hF : ∀ k, F k → k < w0.heap.size) (hQ : ∀ pre W W', (∀ k, F k → W'.heap[k]? = W.heap[k]?) → Q pre W → Q pre W') : Party (Jf w0 F Q) := by
  refine ⟨fun pre G W h k o hk => (h.priv k o hk).1, fun pre G G' W W' h ht hG => ?_, fun pre G W h k o hk => (h.priv k o hk).2.1⟩
  have none_ : ∀ k, k < w0.heap.size → G k = none := fun k hk => by
    cases e : G k with
    | none => rfl
    | some q => have := (h.priv k q e).2.2; omega
  refine ⟨hQ _ _ _ (fun k hk => ht.block k (Nat.lt_of_lt_of_le (hF k hk) h.but.size) (none_ k (hF k hk))) h.q, ?_, fun k ob hk => ?_⟩
  · exact ⟨ht.os.trans h.but.os, ht.tape.trans h.but.tape, ht.output.trans h.but.output, Nat.le_trans h.but.size ht.size, fun k hk hne => (ht.block k (Nat.lt_of_lt_of_le hk h.but.size) (none_ k hk)).trans (h.but.block k hk hne)⟩
  · obtain ⟨h1, h2, h3⟩ := hG k ob hk
    refine ⟨h1, h2, ?_⟩
    rcases h3 with h3 | h3
    · cases e : G k with
      | none => exact absurd e h3
      | some q => exact (h.priv k q e).2.2
    · exact Nat.le_trans h.but.size h3
theorem jf_own {B : Nat} (hB : w0.heap.size ≤ B) (hF : ∀ k, F k → k < w0.heap.size) (hQ : ∀ pre W W', (∀ k, F k → W'.heap[k]? = W.heap[k]?) → Q pre W → Q pre W') : OwnFrom B (fun (s : List α × Priv) W => Jf w0 F Q s.1 s.2 W) := by
  intro s W W' row h hg hr
  refine ⟨hQ _ _ _ (fun k hk => hg.block k (Nat.lt_of_lt_of_le (hF k hk) h.but.size) (fun e => by have := (hr k e.symm).1; have := hF k hk; omega)) h.q, ?_, fun k ob hk => ?_⟩
  · exact ⟨hg.os.trans h.but.os, hg.tape.trans h.but.tape, hg.output.trans h.but.output, Nat.le_trans h.but.size hg.size, fun k hk hn => (hg.block k (Nat.lt_of_lt_of_le hk h.but.size) (fun e => by have := (hr k e.symm).1; omega)).trans (h.but.block k hk hn)⟩
  · obtain ⟨h1, h2, h3⟩ := h.priv k ob hk
    refine ⟨(hg.block k (Array.getElem?_eq_some_iff.1 h1).1 (fun e => ?_)).trans h1, h2, h3⟩
    obtain ⟨_, q', h4, h5⟩ := hr k e.symm
    rw [h1] at h4
    cases h4
    rw [h2] at h5; cases h5
theorem jf_step {pre pre' : List α} {G : Priv} {W W' : World} (hF : ∀ k, F k → k < w0.heap.size) (h : Jf w0 F Q pre G W) (hb : ButS F W W') (hq : Q pre' W') : Jf w0 F Q pre' G W' := by
  refine ⟨hq, h.but.trans hb, fun k ob hk => ?_⟩
  obtain ⟨h1, h2, h3⟩ := h.priv k ob hk
  exact ⟨(hb.block k (Array.getElem?_eq_some_iff.1 h1).1 (fun hf => by have := hF k hf; omega)).trans h1, h2, h3⟩
theorem jf_start {G : Priv} (hG : G = Priv.none) (hq : Q [] w0) : Jf w0 F Q [] G w0 := ⟨hq, ButS.refl _ _, fun k o hk => by rw [hG] at hk; cases hk⟩
end
end Go.Proofs.Ytjbnffadfohofaa.RangeB
end
-- MERGED YtjbnffadfohofaaPlaceM
section
/- The walk of Move: where a place is, behind an edit. -/
namespace Go.Proofs.Ytjbnffadfohofaa.PlaceM
open Go.RowKit Go.Shelf Go.Proofs.Ytjbnffadfohofaa.P Go.Proofs.YtjbnffadfohofaaW.PrintWords Go.Proofs.YtjbnffadfohofaaW.PrintLast Go.Proofs.YtjbnffadfohofaaW.PrintMore Go.Proofs.Ytjbnffadfohofaa.Own Go.Proofs.Ytjbnffadfohofaa.EditL Go.Proofs.Ytjbnffadfohofaa.EditK Go.Proofs.Ytjbnffadfohofaa.RangeG Go.Proofs.Ytjbnffadfohofaa.RangeB Go.Proofs.Ytjbnffadfohofaa.EditJ Go.Proofs.Ytjbnffadfohofaa.EditI Go.Proofs.Ytjbnffadfohofaa.EditR Go.Proofs.Ytjbnffadfohofaa.EditF Go.Proofs.Ytjbnffadfohofaa.PlaceI Go.Proofs.Ytjbnffadfohofaa.VaryR
attribute [local go_sem] Oper.semAt_some max2_int min2_int max_two min_two
set_option linter.unusedSimpArgs false
set_option linter.unusedVariables false

def brk (at_ : Int) (behind : Bool) (s : St) : Prop := at_ < s.i ∨ (s.i = at_ ∧ (behind = false ∨ s.r.f1.size = 0))
instance (at_ : Int) (behind : Bool) (s : St) : Decidable (brk at_ behind s) := by unfold brk; infer_instance
def upd (at_ : Int) (s : St) : Int := s.o + (s.r.f1.size : Int) + (if at_ - s.i < s.r.f0 then at_ - s.i else s.r.f0)
def mvS (at_ : Int) (behind : Bool) : List St → Int → Int
  | [], d => d
  | s :: l, d => if brk at_ behind s then d else mvS at_ behind l (upd at_ s)
def moveL (op : List Rn) (at_ : Int) (behind : Bool) : Int × Bool := if good op = true ∧ 0 ≤ at_ ∧ at_ ≤ inL op then (mvS at_ behind (stepsL op 0 0) 0, true) else (0, false)
theorem step_bounds : ∀ (f : List Rn) (i o : Int), (∀ r ∈ f, knd r ≠ 0) → 0 ≤ i → 0 ≤ o → i + inL f ≤ 16777216 → o + outL f ≤ 16777216 → ∀ s ∈ stepsL f i o, 0 ≤ s.i ∧ 0 ≤ s.o ∧ s.i + (s.r.f0 + s.r.f2) ≤ 16777216 ∧ s.o + (s.r.f0 + (s.r.f1.size : Int)) ≤ 16777216 ∧ knd s.r ≠ 0 := by
  intro f
  induction f with
  | nil => intro i o _ _ _ _ _ s hs; cases hs
  | cons r f ih =>
    intro i o hok hi ho h1 h2 s hs
    have hp := knd_pos (hok r List.mem_cons_self)
    have hf := inL_nonneg (l := f) (fun x hx => hok x (List.mem_cons_of_mem _ hx))
    simp only [inL, outL] at h1 h2
    rcases List.mem_cons.1 hs with rfl | hs
    · exact ⟨hi, ho, by simp only; omega, by simp only; omega, hok r List.mem_cons_self⟩
    · exact ih _ _ (fun x hx => hok x (List.mem_cons_of_mem _ hx)) (by omega) (by omega) (by omega) (by omega) s hs
set_option maxHeartbeats 1000000 in
set_option maxRecDepth 100000 in
theorem steps_c (A : Option Addr) (n c : Nat) (w : World) : Calls Try.prog 44 #[.slice A n c] w fun e w' => e = .returned (.func (.func 53) #[] #[.pointer (some ⟨w.heap.size, 0, none⟩)]) ∧ w' = w.alloc (.cells #[.slice A n c] 34) := by
  go_enter Try.func44, Try.ntmps44
  go_wp2_with fail
  go_ret
  exact ⟨rfl, rfl⟩
theorem good_c (A0 : Option Addr) (c0 : Nat) (l0 : List Rn) (hc : l0.length ≤ c0) (hl : l0.length ≤ 140737488351232) (W : World) (h : RC W A0 l0) : Calls Try.prog 30 #[.slice A0 l0.length c0] W fun e w' => e = .returned (.bool (good l0)) ∧ Below W.heap.size W w' :=
  edit_Good.calls (l0.length + 1) A0 c0 l0 _ W h hc (good_f hl _ (Nat.lt_succ_self _))
theorem in_c (A0 : Option Addr) (c0 : Nat) (l0 : List Rn) (hc : l0.length ≤ c0) (hl : l0.length ≤ 140737488351232) (hg : good l0 = true) (W : World) (h : RC W A0 l0) : Calls Try.prog 42 #[.slice A0 l0.length c0] W fun e w' => e = .returned (.int .i64 (inL l0)) ∧ Below W.heap.size W w' := by
  have := in_f hl (l0.length + 1) (Nat.lt_succ_self _)
  rw [hg, if_pos rfl] at this
  exact edit_In.calls (l0.length + 1) A0 c0 l0 _ W h hc this
def PlaceM.T1 : Bool × List (List Nat × List Nat) := (true, [([], []), ([0], [0]), ([1], [1]), ([2, 1], [2]), ([3], [3]), ([4, 3], [3, 4]), ([3, 5], [3, 5]), ([6, 3], [6]), ([7], [7]), ([7], [7]), ([9, 7, 7], [7, 9]), ([8, 10, 7], [7, 8, 10]), ([7, 11], [7, 11])])
def PlaceM.B1 : List Nat := [0, 1, 3, 7, 15, 31, 63, 127, 255, 255, 767, 2047, 4095]
theorem PlaceM.tab1 : rtab .any (opsOf Try.f45 1) = PlaceM.T1 := by kernel_rfl
theorem PlaceM.bits1 : waitsOk PlaceM.T1.2 PlaceM.B1 = true := by kernel_rfl
set_option maxHeartbeats 4000000 in
set_option maxRecDepth 100000 in
theorem move_no1 (A0 : Option Addr) (c0 : Nat) (l0 : List Rn) (at_ : Int) (behind : Bool) (w : World) (h : RC w A0 l0) (hc : l0.length ≤ c0) (hl : l0.length ≤ 140737488351232) (hg : good l0 = false) :
    Calls Try.prog 45 #[.slice A0 l0.length c0, .int .i64 at_, .bool behind] w fun e w' => e = .returned (.tuple #[.int .i64 0, .bool false]) ∧ Below w.heap.size w w' := by
  have HG := Aside0.mk (good_c A0 c0 l0 hc hl)
  rw [hg] at HG
  have H0 := Aside0.mk h
  clear h hc hl hg
  go_enter Try.func45, Try.ntmps45
  go_wp2_with fail
  obtain ⟨w2, hw2⟩ : ∃ w2, w2 = (w.alloc (.cells #[.int .i64 at_] 3)).alloc (.cells #[.bool behind] 4) := ⟨_, rfl⟩
  have hb2 : Below w.heap.size w w2 := by rw [hw2]; exact below_alloc (below_alloc (Below.refl _ _) _) _
  have HB := Aside0.mk hb2
  have HR := Aside0.mk (H0.out.below hb2)
  rw [← hw2]
  clear hw2 hb2
  refine start_ (n := 13) (S := fun w' => True) (ds := []) #[false, false, false, false, false, false, false, false, false, false, false, false, false] (by kernel_rfl) rfl rfl trivial (fun hHeld => ?_); refine with_tabW PlaceM.tab1 PlaceM.bits1 (fun HT_ HW_ => ?_)
  refine inv_at [0, 1, 2, 3, 4, 5, 6, 7, 8, 9, 10, 11, 12] (fun a0_ b a w' => a = putSel a0_ b [(0, 10, (.slice A0 l0.length c0)), (1, 11, (.bool false)), (2, 12, (.bool true)), (3, 13, (.bool true)), (4, 14, undef), (5, 15, undef), (6, 16, (.bool true)), (7, 17, (.bool true)), (8, 18, undef), (9, 19, undef), (10, 20, undef), (11, 21, undef), (12, 22, (.bool true))] ∧ (RC w' A0 l0) ∧ (Below w.heap.size w w')) HT_.out HW_.out (by kernel_rfl) (by kernel_rfl) ?_ ?_ ?_
  · exact ⟨by simp only [putSel, Bool.false_eq_true, if_false], HR.out.below (below_drew1 (Below.refl _ _)), below_drew1 HB.out⟩
  · skip
    clear HB HR
    refine steps_cons ?_ ?_
    · rintro b a w' ⟨ha, Q_HR, Q_HB⟩ hb_ hon hoff
      refine ⟨_, rfl, fun K hK => ?_⟩
      have e0 : a.tmps[0]? = some ((.slice A0 l0.length c0)) := by rw [ha]; exact (putSel_off rfl).trans rfl
      replace ha := Aside0.mk ha
      have HR := Aside0.mk Q_HR
      have HB := Aside0.mk Q_HB
      refine value_ (w1 := w') (v := (.slice A0 l0.length c0)) (by rfl) rfl ?_ ?_
      · go_simp
        (try simp only [i64_w])
        try rfl
      refine hK.out _ _ ⟨(by rw [ha.out]; exact putSel_upk 0 hb_ rfl rfl rfl), Q_HR, Q_HB⟩
    refine steps_cons ?_ ?_
    · rintro b a w' ⟨ha, Q_HR, Q_HB⟩ hb_ hon hoff
      refine ⟨_, rfl, fun K hK => ?_⟩
      have e10 : a.tmps[10]? = some ((.slice A0 l0.length c0)) := by rw [ha]; exact putSel_on (e := (0, 10, (.slice A0 l0.length c0))) 0 rfl rfl (hon 0 (by kernel_rfl)) rfl
      replace ha := Aside0.mk ha
      have HR := Aside0.mk Q_HR
      have HB := Aside0.mk Q_HB
      refine goes_ Try.func30 (by kernel_rfl) rfl #[.slice A0 l0.length c0] (by rfl) rfl rfl (by first | (simp only [List.map_toArray, List.map_cons, List.map_nil, Act.eval, Array.getD_eq_getD_getElem?, Option.getD_some, e10]; done) | (simp only [List.map_toArray, List.map_cons, List.map_nil, Act.eval, Array.getD_eq_getD_getElem?, Option.getD_some, e10]; rfl)) ?_
      refine (HG.out _ HR.out).mono ?_
      rintro e w1_ ⟨rfl, hb⟩
      refine ⟨_, rfl, ?_⟩
      refine hK.out _ _ ⟨(by rw [ha.out]; exact putSel_upk 1 hb_ rfl rfl rfl), HR.out.below hb, below_step HB.out hb⟩
    refine steps_cons ?_ ?_
    · rintro b a w' ⟨ha, Q_HR, Q_HB⟩ hb_ hon hoff
      refine ⟨_, rfl, fun K hK => ?_⟩
      have e11 : a.tmps[11]? = some ((.bool false)) := by rw [ha]; exact putSel_on (e := (1, 11, (.bool false))) 1 rfl rfl (hon 1 (by kernel_rfl)) rfl
      replace ha := Aside0.mk ha
      have HR := Aside0.mk Q_HR
      have HB := Aside0.mk Q_HB
      refine value_ (w1 := w') (v := (.bool true)) (by rfl) rfl ?_ ?_
      · go_simp
        (try simp only [i64_w])
        try rfl
      refine hK.out _ _ ⟨(by rw [ha.out]; exact putSel_upk 2 hb_ rfl rfl rfl), Q_HR, Q_HB⟩
    refine steps_cons ?_ ?_
    · rintro b a w' ⟨ha, Q_HR, Q_HB⟩ hb_ hon hoff
      refine ⟨_, rfl, fun K hK => ?_⟩
      have e12 : a.tmps[12]? = some ((.bool true)) := by rw [ha]; exact putSel_on (e := (2, 12, (.bool true))) 2 rfl rfl (hon 2 (by kernel_rfl)) rfl
      replace ha := Aside0.mk ha
      have HR := Aside0.mk Q_HR
      have HB := Aside0.mk Q_HB
      refine value_ (w1 := w') (v := (.bool true)) (by rfl) rfl ?_ ?_
      · go_simp
        (try simp only [i64_w])
        try rfl
      refine hK.out _ _ ⟨(by rw [ha.out]; exact putSel_upk 3 hb_ rfl rfl rfl), Q_HR, Q_HB⟩
    refine steps_cons ?_ ?_
    · rintro b a w' ⟨ha, Q_HR, Q_HB⟩ hb_ hon hoff
      refine ⟨_, rfl, fun K hK => ?_⟩
      have e13 : a.tmps[13]? = some ((.bool true)) := by rw [ha]; exact putSel_on (e := (3, 13, (.bool true))) 3 rfl rfl (hon 3 (by kernel_rfl)) rfl
      replace ha := Aside0.mk ha
      have HR := Aside0.mk Q_HR
      have HB := Aside0.mk Q_HB
      refine off_ (wanted_off rfl rfl rfl (e13.trans (by first | rfl | (simp [*]; done)))) ?_
      refine hK.out _ _ ⟨(by rw [ha.out]; exact putSel_upk 4 hb_ rfl rfl rfl), Q_HR, Q_HB⟩
    refine steps_cons ?_ ?_
    · rintro b a w' ⟨ha, Q_HR, Q_HB⟩ hb_ hon hoff
      refine ⟨_, rfl, fun K hK => ?_⟩
      have e13 : a.tmps[13]? = some ((.bool true)) := by rw [ha]; exact putSel_on (e := (3, 13, (.bool true))) 3 rfl rfl (hon 3 (by kernel_rfl)) rfl
      replace ha := Aside0.mk ha
      have HR := Aside0.mk Q_HR
      have HB := Aside0.mk Q_HB
      refine off_ (wanted_off rfl rfl rfl (e13.trans (by first | rfl | (simp [*]; done)))) ?_
      refine hK.out _ _ ⟨(by rw [ha.out]; exact putSel_upk 5 hb_ rfl rfl rfl), Q_HR, Q_HB⟩
    refine steps_cons ?_ ?_
    · rintro b a w' ⟨ha, Q_HR, Q_HB⟩ hb_ hon hoff
      refine ⟨_, rfl, fun K hK => ?_⟩
      have e13 : a.tmps[13]? = some ((.bool true)) := by rw [ha]; exact putSel_on (e := (3, 13, (.bool true))) 3 rfl rfl (hon 3 (by kernel_rfl)) rfl
      have e15 : a.tmps[15]? = some (undef) := by rw [ha]; exact putSel_on (e := (5, 15, undef)) 5 rfl rfl (hon 5 (by kernel_rfl)) rfl
      replace ha := Aside0.mk ha
      have HR := Aside0.mk Q_HR
      have HB := Aside0.mk Q_HB
      refine value_ (w1 := w') (v := (.bool true)) (by rfl) rfl ?_ ?_
      · go_simp
        (try simp only [i64_w])
        try rfl
      refine hK.out _ _ ⟨(by rw [ha.out]; exact putSel_upk 6 hb_ rfl rfl rfl), Q_HR, Q_HB⟩
    refine steps_cons ?_ ?_
    · rintro b a w' ⟨ha, Q_HR, Q_HB⟩ hb_ hon hoff
      refine ⟨_, rfl, fun K hK => ?_⟩
      have e16 : a.tmps[16]? = some ((.bool true)) := by rw [ha]; exact putSel_on (e := (6, 16, (.bool true))) 6 rfl rfl (hon 6 (by kernel_rfl)) rfl
      replace ha := Aside0.mk ha
      have HR := Aside0.mk Q_HR
      have HB := Aside0.mk Q_HB
      refine value_ (w1 := w') (v := (.bool true)) (by rfl) rfl ?_ ?_
      · go_simp
        (try simp only [i64_w])
        try rfl
      refine hK.out _ _ ⟨(by rw [ha.out]; exact putSel_upk 7 hb_ rfl rfl rfl), Q_HR, Q_HB⟩
    refine steps_cons ?_ ?_
    · rintro b a w' ⟨ha, Q_HR, Q_HB⟩ hb_ hon hoff
      refine ⟨_, rfl, fun K hK => ?_⟩
      have e17 : a.tmps[17]? = some ((.bool true)) := by rw [ha]; exact putSel_on (e := (7, 17, (.bool true))) 7 rfl rfl (hon 7 (by kernel_rfl)) rfl
      replace ha := Aside0.mk ha
      have HR := Aside0.mk Q_HR
      have HB := Aside0.mk Q_HB
      refine off_ (wanted_off rfl rfl rfl (e17.trans (by first | rfl | (simp [*]; done)))) ?_
      refine hK.out _ _ ⟨(by rw [ha.out]; exact putSel_upk 8 hb_ rfl rfl rfl), Q_HR, Q_HB⟩
    refine steps_cons ?_ ?_
    · rintro b a w' ⟨ha, Q_HR, Q_HB⟩ hb_ hon hoff
      refine ⟨_, rfl, fun K hK => ?_⟩
      have e17 : a.tmps[17]? = some ((.bool true)) := by rw [ha]; exact putSel_on (e := (7, 17, (.bool true))) 7 rfl rfl (hon 7 (by kernel_rfl)) rfl
      replace ha := Aside0.mk ha
      have HR := Aside0.mk Q_HR
      have HB := Aside0.mk Q_HB
      refine off_ (wanted_off rfl rfl rfl (e17.trans (by first | rfl | (simp [*]; done)))) ?_
      refine hK.out _ _ ⟨(by rw [ha.out]; exact putSel_upk 9 hb_ rfl rfl rfl), Q_HR, Q_HB⟩
    refine steps_cons ?_ ?_
    · rintro b a w' ⟨ha, Q_HR, Q_HB⟩ hb_ hon hoff
      refine ⟨_, rfl, fun K hK => ?_⟩
      have e17 : a.tmps[17]? = some ((.bool true)) := by rw [ha]; exact putSel_on (e := (7, 17, (.bool true))) 7 rfl rfl (hon 7 (by kernel_rfl)) rfl
      replace ha := Aside0.mk ha
      have HR := Aside0.mk Q_HR
      have HB := Aside0.mk Q_HB
      refine off_ (wanted_off rfl rfl rfl (e17.trans (by first | rfl | (simp [*]; done)))) ?_
      refine hK.out _ _ ⟨(by rw [ha.out]; exact putSel_upk 10 hb_ rfl rfl rfl), Q_HR, Q_HB⟩
    refine steps_cons ?_ ?_
    · rintro b a w' ⟨ha, Q_HR, Q_HB⟩ hb_ hon hoff
      refine ⟨_, rfl, fun K hK => ?_⟩
      have e17 : a.tmps[17]? = some ((.bool true)) := by rw [ha]; exact putSel_on (e := (7, 17, (.bool true))) 7 rfl rfl (hon 7 (by kernel_rfl)) rfl
      replace ha := Aside0.mk ha
      have HR := Aside0.mk Q_HR
      have HB := Aside0.mk Q_HB
      refine off_ (wanted_off rfl rfl rfl (e17.trans (by first | rfl | (simp [*]; done)))) ?_
      refine hK.out _ _ ⟨(by rw [ha.out]; exact putSel_upk 11 hb_ rfl rfl rfl), Q_HR, Q_HB⟩
    refine steps_cons ?_ ?_
    · rintro b a w' ⟨ha, Q_HR, Q_HB⟩ hb_ hon hoff
      refine ⟨_, rfl, fun K hK => ?_⟩
      have e17 : a.tmps[17]? = some ((.bool true)) := by rw [ha]; exact putSel_on (e := (7, 17, (.bool true))) 7 rfl rfl (hon 7 (by kernel_rfl)) rfl
      have e21 : a.tmps[21]? = some (undef) := by rw [ha]; exact putSel_on (e := (11, 21, undef)) 11 rfl rfl (hon 11 (by kernel_rfl)) rfl
      replace ha := Aside0.mk ha
      have HR := Aside0.mk Q_HR
      have HB := Aside0.mk Q_HB
      refine value_ (w1 := w') (v := (.bool true)) (by rfl) rfl ?_ ?_
      · go_simp
        (try simp only [i64_w])
        try rfl
      refine hK.out _ _ ⟨(by rw [ha.out]; exact putSel_upk 12 hb_ rfl rfl rfl), Q_HR, Q_HB⟩
    exact steps_nil
  rintro b a we hall ⟨ha, Q_HR, Q_HB⟩
  clear HB HR
  have hb0_ := hall 0 (by kernel_rfl)
  have hb1_ := hall 1 (by kernel_rfl)
  have hb2_ := hall 2 (by kernel_rfl)
  have hb3_ := hall 3 (by kernel_rfl)
  have hb4_ := hall 4 (by kernel_rfl)
  have hb5_ := hall 5 (by kernel_rfl)
  have hb6_ := hall 6 (by kernel_rfl)
  have hb7_ := hall 7 (by kernel_rfl)
  have hb8_ := hall 8 (by kernel_rfl)
  have hb9_ := hall 9 (by kernel_rfl)
  have hb10_ := hall 10 (by kernel_rfl)
  have hb11_ := hall 11 (by kernel_rfl)
  have hb12_ := hall 12 (by kernel_rfl)
  subst ha
  simp only [putSel, hb0_, hb1_, hb2_, hb3_, hb4_, hb5_, hb6_, hb7_, hb8_, hb9_, hb10_, hb11_, hb12_, if_true, Act.put, List.setIfInBounds_toArray, List.set_cons_zero, List.set_cons_succ]
  have HR := Aside0.mk Q_HR
  clear Q_HR
  have HB := Aside0.mk Q_HB
  clear Q_HB
  clear hall hb0_ hb1_ hb2_ hb3_ hb4_ hb5_ hb6_ hb7_ hb8_ hb9_ hb10_ hb11_ hb12_
  go_wp2_with fail
  go_ret2
  exact ⟨rfl, HB.out⟩
set_option maxHeartbeats 4000000 in
set_option maxRecDepth 100000 in
theorem move_no2 (A0 : Option Addr) (c0 : Nat) (l0 : List Rn) (at_ : Int) (behind : Bool) (w : World) (h : RC w A0 l0) (hc : l0.length ≤ c0) (hl : l0.length ≤ 140737488351232) (hg : good l0 = true) (ha : at_ < 0) :
    Calls Try.prog 45 #[.slice A0 l0.length c0, .int .i64 at_, .bool behind] w fun e w' => e = .returned (.tuple #[.int .i64 0, .bool false]) ∧ Below w.heap.size w w' := by
  have HG := Aside0.mk (good_c A0 c0 l0 hc hl)
  rw [hg] at HG
  have H0 := Aside0.mk h
  clear h hc hl hg
  go_enter Try.func45, Try.ntmps45
  go_wp2_with fail
  obtain ⟨w2, hw2⟩ : ∃ w2, w2 = (w.alloc (.cells #[.int .i64 at_] 3)).alloc (.cells #[.bool behind] 4) := ⟨_, rfl⟩
  have hb2 : Below w.heap.size w w2 := by rw [hw2]; exact below_alloc (below_alloc (Below.refl _ _) _) _
  have HB := Aside0.mk hb2
  have HR := Aside0.mk (H0.out.below hb2)
  have X4 := Aside0.mk (show Boxed w2 w.heap.size 3 (.int .i64 at_) by rw [hw2]; exact (Boxed.new w _ _).alloc _)
  rw [← hw2]
  clear hw2 hb2
  refine start_ (n := 13) (S := fun w' => True) (ds := []) #[false, false, false, false, false, false, false, false, false, false, false, false, false] (by kernel_rfl) rfl rfl trivial (fun hHeld => ?_); refine with_tabW PlaceM.tab1 PlaceM.bits1 (fun HT_ HW_ => ?_)
  refine inv_at [0, 1, 2, 3, 4, 5, 6, 7, 8, 9, 10, 11, 12] (fun a0_ b a w' => a = putSel a0_ b [(0, 10, (.slice A0 l0.length c0)), (1, 11, (.bool true)), (2, 12, (.bool false)), (3, 13, (.bool false)), (4, 14, (.int .i64 at_)), (5, 15, (.bool true)), (6, 16, (.bool true)), (7, 17, (.bool true)), (8, 18, undef), (9, 19, undef), (10, 20, undef), (11, 21, undef), (12, 22, (.bool true))] ∧ (RC w' A0 l0) ∧ (Below w.heap.size w w') ∧ (Boxed w' w.heap.size 3 (.int .i64 at_))) HT_.out HW_.out (by kernel_rfl) (by kernel_rfl) ?_ ?_ ?_
  · exact ⟨by simp only [putSel, Bool.false_eq_true, if_false], HR.out.below (below_drew1 (Below.refl _ _)), below_drew1 HB.out, X4.out.below (below_drew1 (Below.refl _ _))⟩
  · skip
    clear HB HR X4
    refine steps_cons ?_ ?_
    · rintro b a w' ⟨ha, Q_HR, Q_HB, Q_X4⟩ hb_ hon hoff
      refine ⟨_, rfl, fun K hK => ?_⟩
      have e0 : a.tmps[0]? = some ((.slice A0 l0.length c0)) := by rw [ha]; exact (putSel_off rfl).trans rfl
      replace ha := Aside0.mk ha
      have HR := Aside0.mk Q_HR
      have HB := Aside0.mk Q_HB
      have X4 := Aside0.mk Q_X4
      refine value_ (w1 := w') (v := (.slice A0 l0.length c0)) (by rfl) rfl ?_ ?_
      · go_simp
        (try simp only [i64_w])
        try rfl
      refine hK.out _ _ ⟨(by rw [ha.out]; exact putSel_upk 0 hb_ rfl rfl rfl), Q_HR, Q_HB, Q_X4⟩
    refine steps_cons ?_ ?_
    · rintro b a w' ⟨ha, Q_HR, Q_HB, Q_X4⟩ hb_ hon hoff
      refine ⟨_, rfl, fun K hK => ?_⟩
      have e10 : a.tmps[10]? = some ((.slice A0 l0.length c0)) := by rw [ha]; exact putSel_on (e := (0, 10, (.slice A0 l0.length c0))) 0 rfl rfl (hon 0 (by kernel_rfl)) rfl
      replace ha := Aside0.mk ha
      have HR := Aside0.mk Q_HR
      have HB := Aside0.mk Q_HB
      have X4 := Aside0.mk Q_X4
      refine goes_ Try.func30 (by kernel_rfl) rfl #[.slice A0 l0.length c0] (by rfl) rfl rfl (by first | (simp only [List.map_toArray, List.map_cons, List.map_nil, Act.eval, Array.getD_eq_getD_getElem?, Option.getD_some, e10]; done) | (simp only [List.map_toArray, List.map_cons, List.map_nil, Act.eval, Array.getD_eq_getD_getElem?, Option.getD_some, e10]; rfl)) ?_
      refine (HG.out _ HR.out).mono ?_
      rintro e w1_ ⟨rfl, hb⟩
      refine ⟨_, rfl, ?_⟩
      refine hK.out _ _ ⟨(by rw [ha.out]; exact putSel_upk 1 hb_ rfl rfl rfl), HR.out.below hb, below_step HB.out hb, X4.out.below hb⟩
    refine steps_cons ?_ ?_
    · rintro b a w' ⟨ha, Q_HR, Q_HB, Q_X4⟩ hb_ hon hoff
      refine ⟨_, rfl, fun K hK => ?_⟩
      have e11 : a.tmps[11]? = some ((.bool true)) := by rw [ha]; exact putSel_on (e := (1, 11, (.bool true))) 1 rfl rfl (hon 1 (by kernel_rfl)) rfl
      replace ha := Aside0.mk ha
      have HR := Aside0.mk Q_HR
      have HB := Aside0.mk Q_HB
      have X4 := Aside0.mk Q_X4
      refine value_ (w1 := w') (v := (.bool false)) (by rfl) rfl ?_ ?_
      · go_simp
        (try simp only [i64_w])
        try rfl
      refine hK.out _ _ ⟨(by rw [ha.out]; exact putSel_upk 2 hb_ rfl rfl rfl), Q_HR, Q_HB, Q_X4⟩
    refine steps_cons ?_ ?_
    · rintro b a w' ⟨ha, Q_HR, Q_HB, Q_X4⟩ hb_ hon hoff
      refine ⟨_, rfl, fun K hK => ?_⟩
      have e12 : a.tmps[12]? = some ((.bool false)) := by rw [ha]; exact putSel_on (e := (2, 12, (.bool false))) 2 rfl rfl (hon 2 (by kernel_rfl)) rfl
      replace ha := Aside0.mk ha
      have HR := Aside0.mk Q_HR
      have HB := Aside0.mk Q_HB
      have X4 := Aside0.mk Q_X4
      refine value_ (w1 := w') (v := (.bool false)) (by rfl) rfl ?_ ?_
      · go_simp
        (try simp only [i64_w])
        try rfl
      refine hK.out _ _ ⟨(by rw [ha.out]; exact putSel_upk 3 hb_ rfl rfl rfl), Q_HR, Q_HB, Q_X4⟩
    refine steps_cons ?_ ?_
    · rintro b a w' ⟨ha, Q_HR, Q_HB, Q_X4⟩ hb_ hon hoff
      refine ⟨_, rfl, fun K hK => ?_⟩
      have e4 : a.tmps[4]? = some ((.pointer (some ⟨w.heap.size, 0, none⟩))) := by rw [ha]; exact (putSel_off rfl).trans rfl
      have e13 : a.tmps[13]? = some ((.bool false)) := by rw [ha]; exact putSel_on (e := (3, 13, (.bool false))) 3 rfl rfl (hon 3 (by kernel_rfl)) rfl
      replace ha := Aside0.mk ha
      have HR := Aside0.mk Q_HR
      have HB := Aside0.mk Q_HB
      have X4 := Aside0.mk Q_X4
      have hc_ := X4.out.cell
      refine value_ (w1 := w') (v := (.int .i64 at_)) (wanted_on rfl rfl rfl (e13.trans (by first | rfl | (simp [*]; done)))) rfl ?_ ?_
      · go_simp
        (try simp only [i64_w])
        try rfl
      refine hK.out _ _ ⟨(by rw [ha.out]; exact putSel_upk 4 hb_ rfl rfl rfl), Q_HR, Q_HB, Q_X4⟩
    refine steps_cons ?_ ?_
    · rintro b a w' ⟨ha, Q_HR, Q_HB, Q_X4⟩ hb_ hon hoff
      refine ⟨_, rfl, fun K hK => ?_⟩
      have e14 : a.tmps[14]? = some ((.int .i64 at_)) := by rw [ha]; exact putSel_on (e := (4, 14, (.int .i64 at_))) 4 rfl rfl (hon 4 (by kernel_rfl)) rfl
      have e13 : a.tmps[13]? = some ((.bool false)) := by rw [ha]; exact putSel_on (e := (3, 13, (.bool false))) 3 rfl rfl (hon 3 (by kernel_rfl)) rfl
      replace ha := Aside0.mk ha
      have HR := Aside0.mk Q_HR
      have HB := Aside0.mk Q_HB
      have X4 := Aside0.mk Q_X4
      refine value_ (w1 := w') (v := (.bool true)) (wanted_on rfl rfl rfl (e13.trans (by first | rfl | (simp [*]; done)))) rfl ?_ ?_
      · go_simp
        (try simp only [i64_w])
        try rfl
      refine hK.out _ _ ⟨(by rw [ha.out]; exact putSel_upk 5 hb_ rfl rfl rfl), Q_HR, Q_HB, Q_X4⟩
    refine steps_cons ?_ ?_
    · rintro b a w' ⟨ha, Q_HR, Q_HB, Q_X4⟩ hb_ hon hoff
      refine ⟨_, rfl, fun K hK => ?_⟩
      have e13 : a.tmps[13]? = some ((.bool false)) := by rw [ha]; exact putSel_on (e := (3, 13, (.bool false))) 3 rfl rfl (hon 3 (by kernel_rfl)) rfl
      have e15 : a.tmps[15]? = some ((.bool true)) := by rw [ha]; exact putSel_on (e := (5, 15, (.bool true))) 5 rfl rfl (hon 5 (by kernel_rfl)) rfl
      replace ha := Aside0.mk ha
      have HR := Aside0.mk Q_HR
      have HB := Aside0.mk Q_HB
      have X4 := Aside0.mk Q_X4
      refine value_ (w1 := w') (v := (.bool true)) (by rfl) rfl ?_ ?_
      · go_simp
        (try simp only [i64_w])
        try rfl
      refine hK.out _ _ ⟨(by rw [ha.out]; exact putSel_upk 6 hb_ rfl rfl rfl), Q_HR, Q_HB, Q_X4⟩
    refine steps_cons ?_ ?_
    · rintro b a w' ⟨ha, Q_HR, Q_HB, Q_X4⟩ hb_ hon hoff
      refine ⟨_, rfl, fun K hK => ?_⟩
      have e16 : a.tmps[16]? = some ((.bool true)) := by rw [ha]; exact putSel_on (e := (6, 16, (.bool true))) 6 rfl rfl (hon 6 (by kernel_rfl)) rfl
      replace ha := Aside0.mk ha
      have HR := Aside0.mk Q_HR
      have HB := Aside0.mk Q_HB
      have X4 := Aside0.mk Q_X4
      refine value_ (w1 := w') (v := (.bool true)) (by rfl) rfl ?_ ?_
      · go_simp
        (try simp only [i64_w])
        try rfl
      refine hK.out _ _ ⟨(by rw [ha.out]; exact putSel_upk 7 hb_ rfl rfl rfl), Q_HR, Q_HB, Q_X4⟩
    refine steps_cons ?_ ?_
    · rintro b a w' ⟨ha, Q_HR, Q_HB, Q_X4⟩ hb_ hon hoff
      refine ⟨_, rfl, fun K hK => ?_⟩
      have e17 : a.tmps[17]? = some ((.bool true)) := by rw [ha]; exact putSel_on (e := (7, 17, (.bool true))) 7 rfl rfl (hon 7 (by kernel_rfl)) rfl
      replace ha := Aside0.mk ha
      have HR := Aside0.mk Q_HR
      have HB := Aside0.mk Q_HB
      have X4 := Aside0.mk Q_X4
      refine off_ (wanted_off rfl rfl rfl (e17.trans (by first | rfl | (simp [*]; done)))) ?_
      refine hK.out _ _ ⟨(by rw [ha.out]; exact putSel_upk 8 hb_ rfl rfl rfl), Q_HR, Q_HB, Q_X4⟩
    refine steps_cons ?_ ?_
    · rintro b a w' ⟨ha, Q_HR, Q_HB, Q_X4⟩ hb_ hon hoff
      refine ⟨_, rfl, fun K hK => ?_⟩
      have e17 : a.tmps[17]? = some ((.bool true)) := by rw [ha]; exact putSel_on (e := (7, 17, (.bool true))) 7 rfl rfl (hon 7 (by kernel_rfl)) rfl
      replace ha := Aside0.mk ha
      have HR := Aside0.mk Q_HR
      have HB := Aside0.mk Q_HB
      have X4 := Aside0.mk Q_X4
      refine off_ (wanted_off rfl rfl rfl (e17.trans (by first | rfl | (simp [*]; done)))) ?_
      refine hK.out _ _ ⟨(by rw [ha.out]; exact putSel_upk 9 hb_ rfl rfl rfl), Q_HR, Q_HB, Q_X4⟩
    refine steps_cons ?_ ?_
    · rintro b a w' ⟨ha, Q_HR, Q_HB, Q_X4⟩ hb_ hon hoff
      refine ⟨_, rfl, fun K hK => ?_⟩
      have e17 : a.tmps[17]? = some ((.bool true)) := by rw [ha]; exact putSel_on (e := (7, 17, (.bool true))) 7 rfl rfl (hon 7 (by kernel_rfl)) rfl
      replace ha := Aside0.mk ha
      have HR := Aside0.mk Q_HR
      have HB := Aside0.mk Q_HB
      have X4 := Aside0.mk Q_X4
      refine off_ (wanted_off rfl rfl rfl (e17.trans (by first | rfl | (simp [*]; done)))) ?_
      refine hK.out _ _ ⟨(by rw [ha.out]; exact putSel_upk 10 hb_ rfl rfl rfl), Q_HR, Q_HB, Q_X4⟩
    refine steps_cons ?_ ?_
    · rintro b a w' ⟨ha, Q_HR, Q_HB, Q_X4⟩ hb_ hon hoff
      refine ⟨_, rfl, fun K hK => ?_⟩
      have e17 : a.tmps[17]? = some ((.bool true)) := by rw [ha]; exact putSel_on (e := (7, 17, (.bool true))) 7 rfl rfl (hon 7 (by kernel_rfl)) rfl
      replace ha := Aside0.mk ha
      have HR := Aside0.mk Q_HR
      have HB := Aside0.mk Q_HB
      have X4 := Aside0.mk Q_X4
      refine off_ (wanted_off rfl rfl rfl (e17.trans (by first | rfl | (simp [*]; done)))) ?_
      refine hK.out _ _ ⟨(by rw [ha.out]; exact putSel_upk 11 hb_ rfl rfl rfl), Q_HR, Q_HB, Q_X4⟩
    refine steps_cons ?_ ?_
    · rintro b a w' ⟨ha, Q_HR, Q_HB, Q_X4⟩ hb_ hon hoff
      refine ⟨_, rfl, fun K hK => ?_⟩
      have e17 : a.tmps[17]? = some ((.bool true)) := by rw [ha]; exact putSel_on (e := (7, 17, (.bool true))) 7 rfl rfl (hon 7 (by kernel_rfl)) rfl
      have e21 : a.tmps[21]? = some (undef) := by rw [ha]; exact putSel_on (e := (11, 21, undef)) 11 rfl rfl (hon 11 (by kernel_rfl)) rfl
      replace ha := Aside0.mk ha
      have HR := Aside0.mk Q_HR
      have HB := Aside0.mk Q_HB
      have X4 := Aside0.mk Q_X4
      refine value_ (w1 := w') (v := (.bool true)) (by rfl) rfl ?_ ?_
      · go_simp
        (try simp only [i64_w])
        try rfl
      refine hK.out _ _ ⟨(by rw [ha.out]; exact putSel_upk 12 hb_ rfl rfl rfl), Q_HR, Q_HB, Q_X4⟩
    exact steps_nil
  rintro b a we hall ⟨ha, Q_HR, Q_HB, Q_X4⟩
  clear HB HR X4
  have hb0_ := hall 0 (by kernel_rfl)
  have hb1_ := hall 1 (by kernel_rfl)
  have hb2_ := hall 2 (by kernel_rfl)
  have hb3_ := hall 3 (by kernel_rfl)
  have hb4_ := hall 4 (by kernel_rfl)
  have hb5_ := hall 5 (by kernel_rfl)
  have hb6_ := hall 6 (by kernel_rfl)
  have hb7_ := hall 7 (by kernel_rfl)
  have hb8_ := hall 8 (by kernel_rfl)
  have hb9_ := hall 9 (by kernel_rfl)
  have hb10_ := hall 10 (by kernel_rfl)
  have hb11_ := hall 11 (by kernel_rfl)
  have hb12_ := hall 12 (by kernel_rfl)
  subst ha
  simp only [putSel, hb0_, hb1_, hb2_, hb3_, hb4_, hb5_, hb6_, hb7_, hb8_, hb9_, hb10_, hb11_, hb12_, if_true, Act.put, List.setIfInBounds_toArray, List.set_cons_zero, List.set_cons_succ]
  have HR := Aside0.mk Q_HR
  clear Q_HR
  have HB := Aside0.mk Q_HB
  clear Q_HB
  have X4 := Aside0.mk Q_X4
  clear Q_X4
  clear hall hb0_ hb1_ hb2_ hb3_ hb4_ hb5_ hb6_ hb7_ hb8_ hb9_ hb10_ hb11_ hb12_
  go_wp2_with fail
  go_ret2
  exact ⟨rfl, HB.out⟩
set_option maxHeartbeats 4000000 in
set_option maxRecDepth 100000 in
theorem move_no3 (A0 : Option Addr) (c0 : Nat) (l0 : List Rn) (at_ : Int) (behind : Bool) (w : World) (h : RC w A0 l0) (hc : l0.length ≤ c0) (hl : l0.length ≤ 140737488351232) (hg : good l0 = true) (ha : 0 ≤ at_) (hi : inL l0 < at_) :
    Calls Try.prog 45 #[.slice A0 l0.length c0, .int .i64 at_, .bool behind] w fun e w' => e = .returned (.tuple #[.int .i64 0, .bool false]) ∧ Below w.heap.size w w' := by
  have HG := Aside0.mk (good_c A0 c0 l0 hc hl)
  have HI := Aside0.mk (in_c A0 c0 l0 hc hl hg)
  rw [hg] at HG
  have H0 := Aside0.mk h
  have a1 : decide (at_ < 0) = false := by simp; omega
  have a2 : decide (inL l0 < at_) = true := by simpa using hi
  clear h hc hl hg
  go_enter Try.func45, Try.ntmps45
  go_wp2_with fail
  obtain ⟨w2, hw2⟩ : ∃ w2, w2 = (w.alloc (.cells #[.int .i64 at_] 3)).alloc (.cells #[.bool behind] 4) := ⟨_, rfl⟩
  have hb2 : Below w.heap.size w w2 := by rw [hw2]; exact below_alloc (below_alloc (Below.refl _ _) _) _
  have HB := Aside0.mk hb2
  have HR := Aside0.mk (H0.out.below hb2)
  have X4 := Aside0.mk (show Boxed w2 w.heap.size 3 (.int .i64 at_) by rw [hw2]; exact (Boxed.new w _ _).alloc _)
  rw [← hw2]
  clear hw2 hb2
  refine start_ (n := 13) (S := fun w' => True) (ds := []) #[false, false, false, false, false, false, false, false, false, false, false, false, false] (by kernel_rfl) rfl rfl trivial (fun hHeld => ?_); refine with_tabW PlaceM.tab1 PlaceM.bits1 (fun HT_ HW_ => ?_)
  refine inv_at [0, 1, 2, 3, 4, 5, 6, 7, 8, 9, 10, 11, 12] (fun a0_ b a w' => a = putSel a0_ b [(0, 10, (.slice A0 l0.length c0)), (1, 11, (.bool true)), (2, 12, (.bool false)), (3, 13, (.bool false)), (4, 14, (.int .i64 at_)), (5, 15, (.bool false)), (6, 16, (.bool false)), (7, 17, (.bool false)), (8, 18, (.int .i64 at_)), (9, 19, (.slice A0 l0.length c0)), (10, 20, (.int .i64 (inL l0))), (11, 21, (.bool true)), (12, 22, (.bool true))] ∧ (RC w' A0 l0) ∧ (Below w.heap.size w w') ∧ (Boxed w' w.heap.size 3 (.int .i64 at_))) HT_.out HW_.out (by kernel_rfl) (by kernel_rfl) ?_ ?_ ?_
  · exact ⟨by simp only [putSel, Bool.false_eq_true, if_false], HR.out.below (below_drew1 (Below.refl _ _)), below_drew1 HB.out, X4.out.below (below_drew1 (Below.refl _ _))⟩
  · skip
    clear HB HR X4
    refine steps_cons ?_ ?_
    · rintro b a w' ⟨ha, Q_HR, Q_HB, Q_X4⟩ hb_ hon hoff
      refine ⟨_, rfl, fun K hK => ?_⟩
      have e0 : a.tmps[0]? = some ((.slice A0 l0.length c0)) := by rw [ha]; exact (putSel_off rfl).trans rfl
      replace ha := Aside0.mk ha
      have HR := Aside0.mk Q_HR
      have HB := Aside0.mk Q_HB
      have X4 := Aside0.mk Q_X4
      refine value_ (w1 := w') (v := (.slice A0 l0.length c0)) (by rfl) rfl ?_ ?_
      · go_simp
        (try simp only [i64_w])
        try rfl
      refine hK.out _ _ ⟨(by rw [ha.out]; exact putSel_upk 0 hb_ rfl rfl rfl), Q_HR, Q_HB, Q_X4⟩
    refine steps_cons ?_ ?_
    · rintro b a w' ⟨ha, Q_HR, Q_HB, Q_X4⟩ hb_ hon hoff
      refine ⟨_, rfl, fun K hK => ?_⟩
      have e10 : a.tmps[10]? = some ((.slice A0 l0.length c0)) := by rw [ha]; exact putSel_on (e := (0, 10, (.slice A0 l0.length c0))) 0 rfl rfl (hon 0 (by kernel_rfl)) rfl
      replace ha := Aside0.mk ha
      have HR := Aside0.mk Q_HR
      have HB := Aside0.mk Q_HB
      have X4 := Aside0.mk Q_X4
      refine goes_ Try.func30 (by kernel_rfl) rfl #[.slice A0 l0.length c0] (by rfl) rfl rfl (by first | (simp only [List.map_toArray, List.map_cons, List.map_nil, Act.eval, Array.getD_eq_getD_getElem?, Option.getD_some, e10]; done) | (simp only [List.map_toArray, List.map_cons, List.map_nil, Act.eval, Array.getD_eq_getD_getElem?, Option.getD_some, e10]; rfl)) ?_
      refine (HG.out _ HR.out).mono ?_
      rintro e w1_ ⟨rfl, hb⟩
      refine ⟨_, rfl, ?_⟩
      refine hK.out _ _ ⟨(by rw [ha.out]; exact putSel_upk 1 hb_ rfl rfl rfl), HR.out.below hb, below_step HB.out hb, X4.out.below hb⟩
    refine steps_cons ?_ ?_
    · rintro b a w' ⟨ha, Q_HR, Q_HB, Q_X4⟩ hb_ hon hoff
      refine ⟨_, rfl, fun K hK => ?_⟩
      have e11 : a.tmps[11]? = some ((.bool true)) := by rw [ha]; exact putSel_on (e := (1, 11, (.bool true))) 1 rfl rfl (hon 1 (by kernel_rfl)) rfl
      replace ha := Aside0.mk ha
      have HR := Aside0.mk Q_HR
      have HB := Aside0.mk Q_HB
      have X4 := Aside0.mk Q_X4
      refine value_ (w1 := w') (v := (.bool false)) (by rfl) rfl ?_ ?_
      · go_simp
        (try simp only [i64_w])
        try rfl
      refine hK.out _ _ ⟨(by rw [ha.out]; exact putSel_upk 2 hb_ rfl rfl rfl), Q_HR, Q_HB, Q_X4⟩
    refine steps_cons ?_ ?_
    · rintro b a w' ⟨ha, Q_HR, Q_HB, Q_X4⟩ hb_ hon hoff
      refine ⟨_, rfl, fun K hK => ?_⟩
      have e12 : a.tmps[12]? = some ((.bool false)) := by rw [ha]; exact putSel_on (e := (2, 12, (.bool false))) 2 rfl rfl (hon 2 (by kernel_rfl)) rfl
      replace ha := Aside0.mk ha
      have HR := Aside0.mk Q_HR
      have HB := Aside0.mk Q_HB
      have X4 := Aside0.mk Q_X4
      refine value_ (w1 := w') (v := (.bool false)) (by rfl) rfl ?_ ?_
      · go_simp
        (try simp only [i64_w])
        try rfl
      refine hK.out _ _ ⟨(by rw [ha.out]; exact putSel_upk 3 hb_ rfl rfl rfl), Q_HR, Q_HB, Q_X4⟩
    refine steps_cons ?_ ?_
    · rintro b a w' ⟨ha, Q_HR, Q_HB, Q_X4⟩ hb_ hon hoff
      refine ⟨_, rfl, fun K hK => ?_⟩
      have e4 : a.tmps[4]? = some ((.pointer (some ⟨w.heap.size, 0, none⟩))) := by rw [ha]; exact (putSel_off rfl).trans rfl
      have e13 : a.tmps[13]? = some ((.bool false)) := by rw [ha]; exact putSel_on (e := (3, 13, (.bool false))) 3 rfl rfl (hon 3 (by kernel_rfl)) rfl
      replace ha := Aside0.mk ha
      have HR := Aside0.mk Q_HR
      have HB := Aside0.mk Q_HB
      have X4 := Aside0.mk Q_X4
      have hc_ := X4.out.cell
      refine value_ (w1 := w') (v := (.int .i64 at_)) (wanted_on rfl rfl rfl (e13.trans (by first | rfl | (simp [*]; done)))) rfl ?_ ?_
      · go_simp
        (try simp only [i64_w])
        try rfl
      refine hK.out _ _ ⟨(by rw [ha.out]; exact putSel_upk 4 hb_ rfl rfl rfl), Q_HR, Q_HB, Q_X4⟩
    refine steps_cons ?_ ?_
    · rintro b a w' ⟨ha, Q_HR, Q_HB, Q_X4⟩ hb_ hon hoff
      refine ⟨_, rfl, fun K hK => ?_⟩
      have e14 : a.tmps[14]? = some ((.int .i64 at_)) := by rw [ha]; exact putSel_on (e := (4, 14, (.int .i64 at_))) 4 rfl rfl (hon 4 (by kernel_rfl)) rfl
      have e13 : a.tmps[13]? = some ((.bool false)) := by rw [ha]; exact putSel_on (e := (3, 13, (.bool false))) 3 rfl rfl (hon 3 (by kernel_rfl)) rfl
      replace ha := Aside0.mk ha
      have HR := Aside0.mk Q_HR
      have HB := Aside0.mk Q_HB
      have X4 := Aside0.mk Q_X4
      refine value_ (w1 := w') (v := (.bool false)) (wanted_on rfl rfl rfl (e13.trans (by first | rfl | (simp [*]; done)))) rfl ?_ ?_
      · go_simp
        (try simp only [i64_w])
        try rfl
      refine hK.out _ _ ⟨(by rw [ha.out]; exact putSel_upk 5 hb_ rfl rfl rfl), Q_HR, Q_HB, Q_X4⟩
    refine steps_cons ?_ ?_
    · rintro b a w' ⟨ha, Q_HR, Q_HB, Q_X4⟩ hb_ hon hoff
      refine ⟨_, rfl, fun K hK => ?_⟩
      have e13 : a.tmps[13]? = some ((.bool false)) := by rw [ha]; exact putSel_on (e := (3, 13, (.bool false))) 3 rfl rfl (hon 3 (by kernel_rfl)) rfl
      have e15 : a.tmps[15]? = some ((.bool false)) := by rw [ha]; exact putSel_on (e := (5, 15, (.bool false))) 5 rfl rfl (hon 5 (by kernel_rfl)) rfl
      replace ha := Aside0.mk ha
      have HR := Aside0.mk Q_HR
      have HB := Aside0.mk Q_HB
      have X4 := Aside0.mk Q_X4
      refine value_ (w1 := w') (v := (.bool false)) (by rfl) rfl ?_ ?_
      · go_simp
        (try simp only [i64_w])
        try rfl
      refine hK.out _ _ ⟨(by rw [ha.out]; exact putSel_upk 6 hb_ rfl rfl rfl), Q_HR, Q_HB, Q_X4⟩
    refine steps_cons ?_ ?_
    · rintro b a w' ⟨ha, Q_HR, Q_HB, Q_X4⟩ hb_ hon hoff
      refine ⟨_, rfl, fun K hK => ?_⟩
      have e16 : a.tmps[16]? = some ((.bool false)) := by rw [ha]; exact putSel_on (e := (6, 16, (.bool false))) 6 rfl rfl (hon 6 (by kernel_rfl)) rfl
      replace ha := Aside0.mk ha
      have HR := Aside0.mk Q_HR
      have HB := Aside0.mk Q_HB
      have X4 := Aside0.mk Q_X4
      refine value_ (w1 := w') (v := (.bool false)) (by rfl) rfl ?_ ?_
      · go_simp
        (try simp only [i64_w])
        try rfl
      refine hK.out _ _ ⟨(by rw [ha.out]; exact putSel_upk 7 hb_ rfl rfl rfl), Q_HR, Q_HB, Q_X4⟩
    refine steps_cons ?_ ?_
    · rintro b a w' ⟨ha, Q_HR, Q_HB, Q_X4⟩ hb_ hon hoff
      refine ⟨_, rfl, fun K hK => ?_⟩
      have e4 : a.tmps[4]? = some ((.pointer (some ⟨w.heap.size, 0, none⟩))) := by rw [ha]; exact (putSel_off rfl).trans rfl
      have e17 : a.tmps[17]? = some ((.bool false)) := by rw [ha]; exact putSel_on (e := (7, 17, (.bool false))) 7 rfl rfl (hon 7 (by kernel_rfl)) rfl
      replace ha := Aside0.mk ha
      have HR := Aside0.mk Q_HR
      have HB := Aside0.mk Q_HB
      have X4 := Aside0.mk Q_X4
      have hc_ := X4.out.cell
      refine value_ (w1 := w') (v := (.int .i64 at_)) (wanted_on rfl rfl rfl (e17.trans (by first | rfl | (simp [*]; done)))) rfl ?_ ?_
      · go_simp
        (try simp only [i64_w])
        try rfl
      refine hK.out _ _ ⟨(by rw [ha.out]; exact putSel_upk 8 hb_ rfl rfl rfl), Q_HR, Q_HB, Q_X4⟩
    refine steps_cons ?_ ?_
    · rintro b a w' ⟨ha, Q_HR, Q_HB, Q_X4⟩ hb_ hon hoff
      refine ⟨_, rfl, fun K hK => ?_⟩
      have e0 : a.tmps[0]? = some ((.slice A0 l0.length c0)) := by rw [ha]; exact (putSel_off rfl).trans rfl
      have e17 : a.tmps[17]? = some ((.bool false)) := by rw [ha]; exact putSel_on (e := (7, 17, (.bool false))) 7 rfl rfl (hon 7 (by kernel_rfl)) rfl
      replace ha := Aside0.mk ha
      have HR := Aside0.mk Q_HR
      have HB := Aside0.mk Q_HB
      have X4 := Aside0.mk Q_X4
      refine value_ (w1 := w') (v := (.slice A0 l0.length c0)) (wanted_on rfl rfl rfl (e17.trans (by first | rfl | (simp [*]; done)))) rfl ?_ ?_
      · go_simp
        (try simp only [i64_w])
        try rfl
      refine hK.out _ _ ⟨(by rw [ha.out]; exact putSel_upk 9 hb_ rfl rfl rfl), Q_HR, Q_HB, Q_X4⟩
    refine steps_cons ?_ ?_
    · rintro b a w' ⟨ha, Q_HR, Q_HB, Q_X4⟩ hb_ hon hoff
      refine ⟨_, rfl, fun K hK => ?_⟩
      have e19 : a.tmps[19]? = some ((.slice A0 l0.length c0)) := by rw [ha]; exact putSel_on (e := (9, 19, (.slice A0 l0.length c0))) 9 rfl rfl (hon 9 (by kernel_rfl)) rfl
      have e17 : a.tmps[17]? = some ((.bool false)) := by rw [ha]; exact putSel_on (e := (7, 17, (.bool false))) 7 rfl rfl (hon 7 (by kernel_rfl)) rfl
      replace ha := Aside0.mk ha
      have HR := Aside0.mk Q_HR
      have HB := Aside0.mk Q_HB
      have X4 := Aside0.mk Q_X4
      refine goes_ Try.func42 (by kernel_rfl) rfl #[.slice A0 l0.length c0] (wanted_on rfl rfl rfl (e17.trans (by first | rfl | (simp [*]; done)))) rfl rfl (by first | (simp only [List.map_toArray, List.map_cons, List.map_nil, Act.eval, Array.getD_eq_getD_getElem?, Option.getD_some, e19, e17]; done) | (simp only [List.map_toArray, List.map_cons, List.map_nil, Act.eval, Array.getD_eq_getD_getElem?, Option.getD_some, e19, e17]; rfl)) ?_
      refine (HI.out _ HR.out).mono ?_
      rintro e w1_ ⟨rfl, hb⟩
      refine ⟨_, rfl, ?_⟩
      refine hK.out _ _ ⟨(by rw [ha.out]; exact putSel_upk 10 hb_ rfl rfl rfl), HR.out.below hb, below_step HB.out hb, X4.out.below hb⟩
    refine steps_cons ?_ ?_
    · rintro b a w' ⟨ha, Q_HR, Q_HB, Q_X4⟩ hb_ hon hoff
      refine ⟨_, rfl, fun K hK => ?_⟩
      have e18 : a.tmps[18]? = some ((.int .i64 at_)) := by rw [ha]; exact putSel_on (e := (8, 18, (.int .i64 at_))) 8 rfl rfl (hon 8 (by kernel_rfl)) rfl
      have e20 : a.tmps[20]? = some ((.int .i64 (inL l0))) := by rw [ha]; exact putSel_on (e := (10, 20, (.int .i64 (inL l0)))) 10 rfl rfl (hon 10 (by kernel_rfl)) rfl
      have e17 : a.tmps[17]? = some ((.bool false)) := by rw [ha]; exact putSel_on (e := (7, 17, (.bool false))) 7 rfl rfl (hon 7 (by kernel_rfl)) rfl
      replace ha := Aside0.mk ha
      have HR := Aside0.mk Q_HR
      have HB := Aside0.mk Q_HB
      have X4 := Aside0.mk Q_X4
      refine value_ (w1 := w') (v := (.bool true)) (wanted_on rfl rfl rfl (e17.trans (by first | rfl | (simp [*]; done)))) rfl ?_ ?_
      · go_simp
        (try simp only [i64_w])
        try rfl
      refine hK.out _ _ ⟨(by rw [ha.out]; exact putSel_upk 11 hb_ rfl rfl rfl), Q_HR, Q_HB, Q_X4⟩
    refine steps_cons ?_ ?_
    · rintro b a w' ⟨ha, Q_HR, Q_HB, Q_X4⟩ hb_ hon hoff
      refine ⟨_, rfl, fun K hK => ?_⟩
      have e17 : a.tmps[17]? = some ((.bool false)) := by rw [ha]; exact putSel_on (e := (7, 17, (.bool false))) 7 rfl rfl (hon 7 (by kernel_rfl)) rfl
      have e21 : a.tmps[21]? = some ((.bool true)) := by rw [ha]; exact putSel_on (e := (11, 21, (.bool true))) 11 rfl rfl (hon 11 (by kernel_rfl)) rfl
      replace ha := Aside0.mk ha
      have HR := Aside0.mk Q_HR
      have HB := Aside0.mk Q_HB
      have X4 := Aside0.mk Q_X4
      refine value_ (w1 := w') (v := (.bool true)) (by rfl) rfl ?_ ?_
      · go_simp
        (try simp only [i64_w])
        try rfl
      refine hK.out _ _ ⟨(by rw [ha.out]; exact putSel_upk 12 hb_ rfl rfl rfl), Q_HR, Q_HB, Q_X4⟩
    exact steps_nil
  rintro b a we hall ⟨ha, Q_HR, Q_HB, Q_X4⟩
  clear HB HR X4
  have hb0_ := hall 0 (by kernel_rfl)
  have hb1_ := hall 1 (by kernel_rfl)
  have hb2_ := hall 2 (by kernel_rfl)
  have hb3_ := hall 3 (by kernel_rfl)
  have hb4_ := hall 4 (by kernel_rfl)
  have hb5_ := hall 5 (by kernel_rfl)
  have hb6_ := hall 6 (by kernel_rfl)
  have hb7_ := hall 7 (by kernel_rfl)
  have hb8_ := hall 8 (by kernel_rfl)
  have hb9_ := hall 9 (by kernel_rfl)
  have hb10_ := hall 10 (by kernel_rfl)
  have hb11_ := hall 11 (by kernel_rfl)
  have hb12_ := hall 12 (by kernel_rfl)
  subst ha
  simp only [putSel, hb0_, hb1_, hb2_, hb3_, hb4_, hb5_, hb6_, hb7_, hb8_, hb9_, hb10_, hb11_, hb12_, if_true, Act.put, List.setIfInBounds_toArray, List.set_cons_zero, List.set_cons_succ]
  have HR := Aside0.mk Q_HR
  clear Q_HR
  have HB := Aside0.mk Q_HB
  clear Q_HB
  have X4 := Aside0.mk Q_X4
  clear Q_X4
  clear hall hb0_ hb1_ hb2_ hb3_ hb4_ hb5_ hb6_ hb7_ hb8_ hb9_ hb10_ hb11_ hb12_
  go_wp2_with fail
  go_ret2
  exact ⟨rfl, HB.out⟩
def MovePost (v : Int) (w : World) (e : Ending) (w' : World) : Prop := e = .returned (.tuple #[.int .i64 v, .bool true]) ∧ Below w.heap.size w w'
set_option maxHeartbeats 8000000 in
set_option maxRecDepth 100000 in
theorem move_yes (A0 : Option Addr) (c0 : Nat) (l0 : List Rn) (at_ : Int) (behind : Bool) (w : World) (h : RC w A0 l0) (hc : l0.length ≤ c0) (hl : l0.length ≤ 140737488351232) (hg : good l0 = true) (ha : 0 ≤ at_) (hi : at_ ≤ inL l0) :
    Calls Try.prog 45 #[.slice A0 l0.length c0, .int .i64 at_, .bool behind] w (MovePost (mvS at_ behind (stepsL l0 0 0) 0) w) := by
  refine (callsIn_wide (n := 12)).1 ?_
  have HG := Aside0.mk (good_c A0 c0 l0 hc hl)
  have HI := Aside0.mk (in_c A0 c0 l0 hc hl hg)
  rw [hg] at HG
  obtain ⟨g1, g2, g3, g4⟩ := good_ok hg
  have gs := (fits_iff g4 0 0 (by decide) (by decide)).1 g3
  have HOK := Aside0.mk g4
  have HSM := Aside0.mk (show Sums 0 0 E l0 from ⟨by decide, by decide, by omega, by rw [E_size]; omega⟩)
  have HLEN := Aside0.mk g2
  have hM : at_ ≤ 16777216 := by omega
  have H0 := Aside0.mk h
  have HA := Aside0.mk (RC.lt h)
  have a1 : decide (at_ < 0) = false := by simp; omega
  have a2 : decide (inL l0 < at_) = false := by simpa using hi
  obtain ⟨V, hV⟩ : ∃ V, V = mvS at_ behind (stepsL l0 0 0) 0 := ⟨_, rfl⟩
  rw [← hV]
  have HV := Aside0.mk hV
  clear h hc hl hg g1 g2 g3 g4 gs hV hi
  refine callsIn_of_wp_marks Try.func45 rfl trivial ?_ rfl
  simp only [Try.ntmps45, List.size_toArray, List.length_cons, List.length_nil, Nat.reduceAdd, Nat.reduceSub, Array.replicate_succ, Array.replicate_zero, List.push_toArray, List.append_toArray, List.nil_append, List.cons_append]
  gi_wp2
  obtain ⟨w2, hw2⟩ : ∃ w2, w2 = (w.alloc (.cells #[.int .i64 at_] 3)).alloc (.cells #[.bool behind] 4) := ⟨_, rfl⟩
  have hb2 : Below w.heap.size w w2 := by rw [hw2]; exact below_alloc (below_alloc (Below.refl _ _) _) _
  have HB := Aside0.mk hb2
  have HR := Aside0.mk (H0.out.below hb2)
  have X4 := Aside0.mk (show Boxed w2 w.heap.size 3 (.int .i64 at_) by rw [hw2]; exact (Boxed.new w _ _).alloc _)
  have X5 := Aside0.mk (show Boxed w2 (w.heap.size + 1) 4 (.bool behind) by
    rw [hw2]
    have := Boxed.new (w.alloc (.cells #[.int .i64 at_] 3)) 4 (.bool behind)
    rwa [World.size_alloc] at this)
  rw [← hw2]
  clear hw2 hb2
  refine wpIn_wide.2 ?_
  refine start_ (n := 13) (S := fun w' => True) (ds := []) #[false, false, false, false, false, false, false, false, false, false, false, false, false] (by kernel_rfl) rfl rfl trivial (fun hHeld => ?_); refine with_tabW PlaceM.tab1 PlaceM.bits1 (fun HT_ HW_ => ?_)
  refine inv_at [0, 1, 2, 3, 4, 5, 6, 7, 8, 9, 10, 11, 12] (fun a0_ b a w' => a = putSel a0_ b [(0, 10, (.slice A0 l0.length c0)), (1, 11, (.bool true)), (2, 12, (.bool false)), (3, 13, (.bool false)), (4, 14, (.int .i64 at_)), (5, 15, (.bool false)), (6, 16, (.bool false)), (7, 17, (.bool false)), (8, 18, (.int .i64 at_)), (9, 19, (.slice A0 l0.length c0)), (10, 20, (.int .i64 (inL l0))), (11, 21, (.bool false)), (12, 22, (.bool false))] ∧ (RC w' A0 l0) ∧ (Below w.heap.size w w') ∧ (Boxed w' w.heap.size 3 (.int .i64 at_)) ∧ (Boxed w' (w.heap.size + 1) 4 (.bool behind))) HT_.out HW_.out (by kernel_rfl) (by kernel_rfl) ?_ ?_ ?_
  · exact ⟨by simp only [putSel, Bool.false_eq_true, if_false], HR.out.below (below_drew1 (Below.refl _ _)), below_drew1 HB.out, X4.out.below (below_drew1 (Below.refl _ _)), X5.out.below (below_drew1 (Below.refl _ _))⟩
  · skip
    clear HB HR X4 X5
    refine steps_cons ?_ ?_
    · rintro b a w' ⟨ha, Q_HR, Q_HB, Q_X4, Q_X5⟩ hb_ hon hoff
      refine ⟨_, rfl, fun K hK => ?_⟩
      have e0 : a.tmps[0]? = some ((.slice A0 l0.length c0)) := by rw [ha]; exact (putSel_off rfl).trans rfl
      replace ha := Aside0.mk ha
      have HR := Aside0.mk Q_HR
      have HB := Aside0.mk Q_HB
      have X4 := Aside0.mk Q_X4
      have X5 := Aside0.mk Q_X5
      refine value_ (w1 := w') (v := (.slice A0 l0.length c0)) (by rfl) rfl ?_ ?_
      · go_simp
        (try simp only [i64_w])
        try rfl
      refine hK.out _ _ ⟨(by rw [ha.out]; exact putSel_upk 0 hb_ rfl rfl rfl), Q_HR, Q_HB, Q_X4, Q_X5⟩
    refine steps_cons ?_ ?_
    · rintro b a w' ⟨ha, Q_HR, Q_HB, Q_X4, Q_X5⟩ hb_ hon hoff
      refine ⟨_, rfl, fun K hK => ?_⟩
      have e10 : a.tmps[10]? = some ((.slice A0 l0.length c0)) := by rw [ha]; exact putSel_on (e := (0, 10, (.slice A0 l0.length c0))) 0 rfl rfl (hon 0 (by kernel_rfl)) rfl
      replace ha := Aside0.mk ha
      have HR := Aside0.mk Q_HR
      have HB := Aside0.mk Q_HB
      have X4 := Aside0.mk Q_X4
      have X5 := Aside0.mk Q_X5
      refine goes_ Try.func30 (by kernel_rfl) rfl #[.slice A0 l0.length c0] (by rfl) rfl rfl (by first | (simp only [List.map_toArray, List.map_cons, List.map_nil, Act.eval, Array.getD_eq_getD_getElem?, Option.getD_some, e10]; done) | (simp only [List.map_toArray, List.map_cons, List.map_nil, Act.eval, Array.getD_eq_getD_getElem?, Option.getD_some, e10]; rfl)) ?_
      refine (HG.out _ HR.out).mono ?_
      rintro e w1_ ⟨rfl, hb⟩
      refine ⟨_, rfl, ?_⟩
      refine hK.out _ _ ⟨(by rw [ha.out]; exact putSel_upk 1 hb_ rfl rfl rfl), HR.out.below hb, below_step HB.out hb, X4.out.below hb, X5.out.below hb⟩
    refine steps_cons ?_ ?_
    · rintro b a w' ⟨ha, Q_HR, Q_HB, Q_X4, Q_X5⟩ hb_ hon hoff
      refine ⟨_, rfl, fun K hK => ?_⟩
      have e11 : a.tmps[11]? = some ((.bool true)) := by rw [ha]; exact putSel_on (e := (1, 11, (.bool true))) 1 rfl rfl (hon 1 (by kernel_rfl)) rfl
      replace ha := Aside0.mk ha
      have HR := Aside0.mk Q_HR
      have HB := Aside0.mk Q_HB
      have X4 := Aside0.mk Q_X4
      have X5 := Aside0.mk Q_X5
      refine value_ (w1 := w') (v := (.bool false)) (by rfl) rfl ?_ ?_
      · go_simp
        (try simp only [i64_w])
        try rfl
      refine hK.out _ _ ⟨(by rw [ha.out]; exact putSel_upk 2 hb_ rfl rfl rfl), Q_HR, Q_HB, Q_X4, Q_X5⟩
    refine steps_cons ?_ ?_
    · rintro b a w' ⟨ha, Q_HR, Q_HB, Q_X4, Q_X5⟩ hb_ hon hoff
      refine ⟨_, rfl, fun K hK => ?_⟩
      have e12 : a.tmps[12]? = some ((.bool false)) := by rw [ha]; exact putSel_on (e := (2, 12, (.bool false))) 2 rfl rfl (hon 2 (by kernel_rfl)) rfl
      replace ha := Aside0.mk ha
      have HR := Aside0.mk Q_HR
      have HB := Aside0.mk Q_HB
      have X4 := Aside0.mk Q_X4
      have X5 := Aside0.mk Q_X5
      refine value_ (w1 := w') (v := (.bool false)) (by rfl) rfl ?_ ?_
      · go_simp
        (try simp only [i64_w])
        try rfl
      refine hK.out _ _ ⟨(by rw [ha.out]; exact putSel_upk 3 hb_ rfl rfl rfl), Q_HR, Q_HB, Q_X4, Q_X5⟩
    refine steps_cons ?_ ?_
    · rintro b a w' ⟨ha, Q_HR, Q_HB, Q_X4, Q_X5⟩ hb_ hon hoff
      refine ⟨_, rfl, fun K hK => ?_⟩
      have e4 : a.tmps[4]? = some ((.pointer (some ⟨w.heap.size, 0, none⟩))) := by rw [ha]; exact (putSel_off rfl).trans rfl
      have e13 : a.tmps[13]? = some ((.bool false)) := by rw [ha]; exact putSel_on (e := (3, 13, (.bool false))) 3 rfl rfl (hon 3 (by kernel_rfl)) rfl
      replace ha := Aside0.mk ha
      have HR := Aside0.mk Q_HR
      have HB := Aside0.mk Q_HB
      have X4 := Aside0.mk Q_X4
      have X5 := Aside0.mk Q_X5
      have hc_ := X4.out.cell
      refine value_ (w1 := w') (v := (.int .i64 at_)) (wanted_on rfl rfl rfl (e13.trans (by first | rfl | (simp [*]; done)))) rfl ?_ ?_
      · go_simp
        (try simp only [i64_w])
        try rfl
      refine hK.out _ _ ⟨(by rw [ha.out]; exact putSel_upk 4 hb_ rfl rfl rfl), Q_HR, Q_HB, Q_X4, Q_X5⟩
    refine steps_cons ?_ ?_
    · rintro b a w' ⟨ha, Q_HR, Q_HB, Q_X4, Q_X5⟩ hb_ hon hoff
      refine ⟨_, rfl, fun K hK => ?_⟩
      have e14 : a.tmps[14]? = some ((.int .i64 at_)) := by rw [ha]; exact putSel_on (e := (4, 14, (.int .i64 at_))) 4 rfl rfl (hon 4 (by kernel_rfl)) rfl
      have e13 : a.tmps[13]? = some ((.bool false)) := by rw [ha]; exact putSel_on (e := (3, 13, (.bool false))) 3 rfl rfl (hon 3 (by kernel_rfl)) rfl
      replace ha := Aside0.mk ha
      have HR := Aside0.mk Q_HR
      have HB := Aside0.mk Q_HB
      have X4 := Aside0.mk Q_X4
      have X5 := Aside0.mk Q_X5
      refine value_ (w1 := w') (v := (.bool false)) (wanted_on rfl rfl rfl (e13.trans (by first | rfl | (simp [*]; done)))) rfl ?_ ?_
      · go_simp
        (try simp only [i64_w])
        try rfl
      refine hK.out _ _ ⟨(by rw [ha.out]; exact putSel_upk 5 hb_ rfl rfl rfl), Q_HR, Q_HB, Q_X4, Q_X5⟩
    refine steps_cons ?_ ?_
    · rintro b a w' ⟨ha, Q_HR, Q_HB, Q_X4, Q_X5⟩ hb_ hon hoff
      refine ⟨_, rfl, fun K hK => ?_⟩
      have e13 : a.tmps[13]? = some ((.bool false)) := by rw [ha]; exact putSel_on (e := (3, 13, (.bool false))) 3 rfl rfl (hon 3 (by kernel_rfl)) rfl
      have e15 : a.tmps[15]? = some ((.bool false)) := by rw [ha]; exact putSel_on (e := (5, 15, (.bool false))) 5 rfl rfl (hon 5 (by kernel_rfl)) rfl
      replace ha := Aside0.mk ha
      have HR := Aside0.mk Q_HR
      have HB := Aside0.mk Q_HB
      have X4 := Aside0.mk Q_X4
      have X5 := Aside0.mk Q_X5
      refine value_ (w1 := w') (v := (.bool false)) (by rfl) rfl ?_ ?_
      · go_simp
        (try simp only [i64_w])
        try rfl
      refine hK.out _ _ ⟨(by rw [ha.out]; exact putSel_upk 6 hb_ rfl rfl rfl), Q_HR, Q_HB, Q_X4, Q_X5⟩
    refine steps_cons ?_ ?_
    · rintro b a w' ⟨ha, Q_HR, Q_HB, Q_X4, Q_X5⟩ hb_ hon hoff
      refine ⟨_, rfl, fun K hK => ?_⟩
      have e16 : a.tmps[16]? = some ((.bool false)) := by rw [ha]; exact putSel_on (e := (6, 16, (.bool false))) 6 rfl rfl (hon 6 (by kernel_rfl)) rfl
      replace ha := Aside0.mk ha
      have HR := Aside0.mk Q_HR
      have HB := Aside0.mk Q_HB
      have X4 := Aside0.mk Q_X4
      have X5 := Aside0.mk Q_X5
      refine value_ (w1 := w') (v := (.bool false)) (by rfl) rfl ?_ ?_
      · go_simp
        (try simp only [i64_w])
        try rfl
      refine hK.out _ _ ⟨(by rw [ha.out]; exact putSel_upk 7 hb_ rfl rfl rfl), Q_HR, Q_HB, Q_X4, Q_X5⟩
    refine steps_cons ?_ ?_
    · rintro b a w' ⟨ha, Q_HR, Q_HB, Q_X4, Q_X5⟩ hb_ hon hoff
      refine ⟨_, rfl, fun K hK => ?_⟩
      have e4 : a.tmps[4]? = some ((.pointer (some ⟨w.heap.size, 0, none⟩))) := by rw [ha]; exact (putSel_off rfl).trans rfl
      have e17 : a.tmps[17]? = some ((.bool false)) := by rw [ha]; exact putSel_on (e := (7, 17, (.bool false))) 7 rfl rfl (hon 7 (by kernel_rfl)) rfl
      replace ha := Aside0.mk ha
      have HR := Aside0.mk Q_HR
      have HB := Aside0.mk Q_HB
      have X4 := Aside0.mk Q_X4
      have X5 := Aside0.mk Q_X5
      have hc_ := X4.out.cell
      refine value_ (w1 := w') (v := (.int .i64 at_)) (wanted_on rfl rfl rfl (e17.trans (by first | rfl | (simp [*]; done)))) rfl ?_ ?_
      · go_simp
        (try simp only [i64_w])
        try rfl
      refine hK.out _ _ ⟨(by rw [ha.out]; exact putSel_upk 8 hb_ rfl rfl rfl), Q_HR, Q_HB, Q_X4, Q_X5⟩
    refine steps_cons ?_ ?_
    · rintro b a w' ⟨ha, Q_HR, Q_HB, Q_X4, Q_X5⟩ hb_ hon hoff
      refine ⟨_, rfl, fun K hK => ?_⟩
      have e0 : a.tmps[0]? = some ((.slice A0 l0.length c0)) := by rw [ha]; exact (putSel_off rfl).trans rfl
      have e17 : a.tmps[17]? = some ((.bool false)) := by rw [ha]; exact putSel_on (e := (7, 17, (.bool false))) 7 rfl rfl (hon 7 (by kernel_rfl)) rfl
      replace ha := Aside0.mk ha
      have HR := Aside0.mk Q_HR
      have HB := Aside0.mk Q_HB
      have X4 := Aside0.mk Q_X4
      have X5 := Aside0.mk Q_X5
      refine value_ (w1 := w') (v := (.slice A0 l0.length c0)) (wanted_on rfl rfl rfl (e17.trans (by first | rfl | (simp [*]; done)))) rfl ?_ ?_
      · go_simp
        (try simp only [i64_w])
        try rfl
      refine hK.out _ _ ⟨(by rw [ha.out]; exact putSel_upk 9 hb_ rfl rfl rfl), Q_HR, Q_HB, Q_X4, Q_X5⟩
    refine steps_cons ?_ ?_
    · rintro b a w' ⟨ha, Q_HR, Q_HB, Q_X4, Q_X5⟩ hb_ hon hoff
      refine ⟨_, rfl, fun K hK => ?_⟩
      have e19 : a.tmps[19]? = some ((.slice A0 l0.length c0)) := by rw [ha]; exact putSel_on (e := (9, 19, (.slice A0 l0.length c0))) 9 rfl rfl (hon 9 (by kernel_rfl)) rfl
      have e17 : a.tmps[17]? = some ((.bool false)) := by rw [ha]; exact putSel_on (e := (7, 17, (.bool false))) 7 rfl rfl (hon 7 (by kernel_rfl)) rfl
      replace ha := Aside0.mk ha
      have HR := Aside0.mk Q_HR
      have HB := Aside0.mk Q_HB
      have X4 := Aside0.mk Q_X4
      have X5 := Aside0.mk Q_X5
      refine goes_ Try.func42 (by kernel_rfl) rfl #[.slice A0 l0.length c0] (wanted_on rfl rfl rfl (e17.trans (by first | rfl | (simp [*]; done)))) rfl rfl (by first | (simp only [List.map_toArray, List.map_cons, List.map_nil, Act.eval, Array.getD_eq_getD_getElem?, Option.getD_some, e19, e17]; done) | (simp only [List.map_toArray, List.map_cons, List.map_nil, Act.eval, Array.getD_eq_getD_getElem?, Option.getD_some, e19, e17]; rfl)) ?_
      refine (HI.out _ HR.out).mono ?_
      rintro e w1_ ⟨rfl, hb⟩
      refine ⟨_, rfl, ?_⟩
      refine hK.out _ _ ⟨(by rw [ha.out]; exact putSel_upk 10 hb_ rfl rfl rfl), HR.out.below hb, below_step HB.out hb, X4.out.below hb, X5.out.below hb⟩
    refine steps_cons ?_ ?_
    · rintro b a w' ⟨ha, Q_HR, Q_HB, Q_X4, Q_X5⟩ hb_ hon hoff
      refine ⟨_, rfl, fun K hK => ?_⟩
      have e18 : a.tmps[18]? = some ((.int .i64 at_)) := by rw [ha]; exact putSel_on (e := (8, 18, (.int .i64 at_))) 8 rfl rfl (hon 8 (by kernel_rfl)) rfl
      have e20 : a.tmps[20]? = some ((.int .i64 (inL l0))) := by rw [ha]; exact putSel_on (e := (10, 20, (.int .i64 (inL l0)))) 10 rfl rfl (hon 10 (by kernel_rfl)) rfl
      have e17 : a.tmps[17]? = some ((.bool false)) := by rw [ha]; exact putSel_on (e := (7, 17, (.bool false))) 7 rfl rfl (hon 7 (by kernel_rfl)) rfl
      replace ha := Aside0.mk ha
      have HR := Aside0.mk Q_HR
      have HB := Aside0.mk Q_HB
      have X4 := Aside0.mk Q_X4
      have X5 := Aside0.mk Q_X5
      refine value_ (w1 := w') (v := (.bool false)) (wanted_on rfl rfl rfl (e17.trans (by first | rfl | (simp [*]; done)))) rfl ?_ ?_
      · go_simp
        (try simp only [i64_w])
        try rfl
      refine hK.out _ _ ⟨(by rw [ha.out]; exact putSel_upk 11 hb_ rfl rfl rfl), Q_HR, Q_HB, Q_X4, Q_X5⟩
    refine steps_cons ?_ ?_
    · rintro b a w' ⟨ha, Q_HR, Q_HB, Q_X4, Q_X5⟩ hb_ hon hoff
      refine ⟨_, rfl, fun K hK => ?_⟩
      have e17 : a.tmps[17]? = some ((.bool false)) := by rw [ha]; exact putSel_on (e := (7, 17, (.bool false))) 7 rfl rfl (hon 7 (by kernel_rfl)) rfl
      have e21 : a.tmps[21]? = some ((.bool false)) := by rw [ha]; exact putSel_on (e := (11, 21, (.bool false))) 11 rfl rfl (hon 11 (by kernel_rfl)) rfl
      replace ha := Aside0.mk ha
      have HR := Aside0.mk Q_HR
      have HB := Aside0.mk Q_HB
      have X4 := Aside0.mk Q_X4
      have X5 := Aside0.mk Q_X5
      refine value_ (w1 := w') (v := (.bool false)) (by rfl) rfl ?_ ?_
      · go_simp
        (try simp only [i64_w])
        try rfl
      refine hK.out _ _ ⟨(by rw [ha.out]; exact putSel_upk 12 hb_ rfl rfl rfl), Q_HR, Q_HB, Q_X4, Q_X5⟩
    exact steps_nil
  rintro b a we hall ⟨ha, Q_HR, Q_HB, Q_X4, Q_X5⟩
  clear HB HR X4 X5
  have hb0_ := hall 0 (by kernel_rfl)
  have hb1_ := hall 1 (by kernel_rfl)
  have hb2_ := hall 2 (by kernel_rfl)
  have hb3_ := hall 3 (by kernel_rfl)
  have hb4_ := hall 4 (by kernel_rfl)
  have hb5_ := hall 5 (by kernel_rfl)
  have hb6_ := hall 6 (by kernel_rfl)
  have hb7_ := hall 7 (by kernel_rfl)
  have hb8_ := hall 8 (by kernel_rfl)
  have hb9_ := hall 9 (by kernel_rfl)
  have hb10_ := hall 10 (by kernel_rfl)
  have hb11_ := hall 11 (by kernel_rfl)
  have hb12_ := hall 12 (by kernel_rfl)
  subst ha
  simp only [putSel, hb0_, hb1_, hb2_, hb3_, hb4_, hb5_, hb6_, hb7_, hb8_, hb9_, hb10_, hb11_, hb12_, if_true, Act.put, List.setIfInBounds_toArray, List.set_cons_zero, List.set_cons_succ]
  have HR := Aside0.mk Q_HR
  clear Q_HR
  have HB := Aside0.mk Q_HB
  clear Q_HB
  have X4 := Aside0.mk Q_X4
  clear Q_X4
  have X5 := Aside0.mk Q_X5
  clear Q_X5
  clear hall hb0_ hb1_ hb2_ hb3_ hb4_ hb5_ hb6_ hb7_ hb8_ hb9_ hb10_ hb11_ hb12_
  gi_wp2
  refine ⟨trivial, ?_⟩
  refine (callsIn_wide.2 (steps_c A0 _ c0 _)).mono ?_
  rintro e w4 ⟨rfl, hw4⟩
  obtain ⟨O, hO⟩ : ∃ O, O = we.heap.size := ⟨_, rfl⟩
  have hOw : w.heap.size + 1 < O := by rw [hO]; exact X5.out.lt
  have hb3 := below_alloc (Below.refl we.heap.size we) (.cells #[.int .i64 0] 3)
  have hz3 : (we.alloc (.cells #[.int .i64 0] 3)).heap.size = we.heap.size + 1 := by simp
  have hb4 : Below we.heap.size we w4 := by rw [hw4]; exact hb3.trans (below_alloc (Below.refl _ _) _ |>.mono (by simp))
  have HB4 := Aside0.mk (show Below w.heap.size w w4 from HB.out.trans (hb4.mono HB.out.size))
  have HX4 := Aside0.mk (X4.out.below hb4)
  have HX5 := Aside0.mk (X5.out.below hb4)
  have HR4 := Aside0.mk (HR.out.below hb4)
  have HO4 := Aside0.mk (show Boxed w4 O 3 (.int .i64 0) by rw [hw4, hO]; exact (Boxed.new we _ _).alloc _)
  obtain ⟨T, hT⟩ : ∃ T, T = we.heap.size + 1 := ⟨_, rfl⟩
  have HT4 := Aside0.mk (show w4.heap[T]? = some (.cells #[.slice A0 l0.length c0] 34 (0, 0)) by
    rw [hw4, hT, ← hz3]; exact Own.heap_new _ _)
  have hT4 := (Array.getElem?_eq_some_iff.1 HT4.out).1
  have HTO := Aside0.mk (show T ≠ O by omega)
  have HZ4 := Aside0.mk (show O < w4.heap.size ∧ T < w4.heap.size ∧ w.heap.size + 1 < O from ⟨HO4.out.lt, hT4, hOw⟩)
  rw [World.size_alloc, ← hT]
  rw [← hO]
  clear hw4 hO hT hz3 hb3 hb4 hOw hT4 X4 X5 HR HB HG HI H0 a1 a2
  gi_wp2
  have HFF := Aside0.mk (show ∀ k, (fun k => k = O) k → k < w4.heap.size from fun k hk => by have := HZ4.out.1; omega)
  have HFF1 : ∀ k, (fun k => k = O) k → k < w4.heap.size := HFF.out
  obtain ⟨L, hL⟩ : ∃ L, L = stepsL l0 0 0 := ⟨_, rfl⟩
  obtain ⟨Q, hQ⟩ : ∃ Q : List St → World → Prop, Q = fun pre W => ∃ d : Int, Boxed W O 3 (.int .i64 d) ∧ mvS at_ behind (L.drop pre.length) d = V := ⟨_, rfl⟩
  have HQQ := Aside0.mk (show ∀ pre W W', (∀ k, (fun k => k = O) k → W'.heap[k]? = W.heap[k]?) → Q pre W → Q pre W' from fun pre W W' hk hq => by
    rw [hQ] at hq ⊢
    obtain ⟨d, h1, h2⟩ := hq
    exact ⟨d, (hk O rfl).trans h1, h2⟩)
  have HXX := Aside0.mk (show ∀ (pre : List St) (W W' : World), (∀ k, (fun k => k = O) k → W'.heap[k]? = W.heap[k]?) → (fun (_ : List St) W => Boxed W O 3 (.int .i64 V)) pre W → (fun (_ : List St) W => Boxed W O 3 (.int .i64 V)) pre W' from fun pre W W' hk hq => (hk O rfl).trans hq)
  have HQE := Aside0.mk hQ
  have HLE := Aside0.mk hL
  clear hQ hL HFF1
  refine range_g (n := 12) (w := w4) (by decide) (gf := 53) (lb := #[.pointer (some ⟨T, 0, none⟩)]) rfl (enters_of Try.func53 (by kernel_rfl) rfl) (fun s : St => #[.agg #[.int .i64 s.r.f0, .string s.r.f1, .int .i64 s.r.f2, .int .i64 s.i, .int .i64 s.o]]) (fun _ => rfl) L (Held A0 c0 T l0)
    (by rw [HLE.out]; exact steps_it A0 c0 T l0 HOK.out HSM.out (by have := HLEN.out; omega)) (Jf w4 (fun k => k = O) Q) (jf_party HFF.out HQQ.out) ?hK (jf_own (Nat.le_refl _) HFF.out HQQ.out) (fun c s W => c = .exit 0 ∧ Jf w4 (fun k => k = O) (fun (_ : List St) W => Boxed W O 3 (.int .i64 V)) [] Priv.none W)
    (fun c s W W' row h hg hr => ⟨h.1, jf_own (Nat.le_refl _) HFF.out HXX.out ([], Priv.none) W W' row h.2 hg hr⟩) ?h0
    (fun x a' W => ∃ Bx, W.heap[Bx]? = some (.cells #[.int .i64 x.r.f0, .string x.r.f1, .int .i64 x.r.f2, .int .i64 x.i, .int .i64 x.o] 76 (0, 0)) ∧ a' = { tmps := #[.slice A0 l0.length c0, .int .i64 at_, .bool behind, undef, .pointer (some ⟨w.heap.size, 0, none⟩), .pointer (some ⟨w.heap.size + 1, 0, none⟩), .int .i64 0, .bool false, .pointer (some ⟨O, 0, none⟩), .pointer (some ⟨Bx, 0, none⟩), .slice A0 l0.length c0, .bool true, .bool false, .bool false, .int .i64 at_, .bool false, .bool false, .bool false, .int .i64 at_, .slice A0 l0.length c0, .int .i64 (inL l0), .bool false, .bool false, .slice A0 l0.length c0, .func (.func 53) #[] #[.pointer (some ⟨T, 0, none⟩)], .agg #[.int .i64 x.r.f0, .string x.r.f1, .int .i64 x.r.f2, .int .i64 x.i, .int .i64 x.o], undef, undef, undef, undef, undef, undef, undef, undef, undef, undef, undef, undef, undef, undef, undef, undef, undef, undef, undef, undef, undef, undef, undef, undef, undef, undef, undef, undef, undef, undef, undef, undef, undef, undef, undef, undef, undef], defers := [] })
    (fun x a' s W W' row hs hg hr => by obtain ⟨Bx, h1, h2⟩ := hs; exact ⟨Bx, (hg.block Bx (Array.getElem?_eq_some_iff.1 h1).1 (fun e => by obtain ⟨_, q, h3, h4⟩ := hr Bx e.symm; rw [h1] at h3; cases h3; cases h4)).trans h1, h2⟩) ?assign ?body ?done ?stop
  case hK =>
    intro pre G W hj
    refine ⟨(hj.but.block _ HZ4.out.2.1 HTO.out).trans HT4.out, C_same HR4.out fun ad e hp => ?_⟩
    have hlt := HA.out ad e hp
    exact hj.but.block _ (by have := HZ4.out; omega) (fun e2 => by have e3 : ad.block = O := e2; have := HZ4.out; omega)
  case h0 => exact jf_start rfl (by rw [HQE.out]; exact ⟨0, HO4.out, by rw [HV.out, HLE.out]; rfl⟩)
  case assign =>
    intro l pre G x W K hj hK
    gi_wp2
    exact hK _ _ ((KeepsOthers.alloc _ _).from _) ((jf_party HFF.out HQQ.out).below hj (below_alloc (Below.refl _ _) _)) ⟨W.heap.size, Own.heap_new _ _, rfl⟩
  case body =>
    rintro l pre x suf G a' W hLp hj ⟨Bx, hx, rfl⟩
    have hq := hj.q
    rw [HQE.out] at hq
    obtain ⟨d, hbo, hmv⟩ := hq
    have hdr : L.drop pre.length = x :: suf := by rw [hLp]; simp
    rw [hdr] at hmv
    have HMV := Aside0.mk (show (if brk at_ behind x then d else mvS at_ behind suf (upd at_ x)) = V from hmv)
    have HNX := Aside0.mk (show L.drop (pre ++ [x]).length = suf by rw [hLp]; simp)
    have bnd := step_bounds l0 0 0 HOK.out (by decide) (by decide) HSM.out.i (by have := HSM.out.o; rw [E_size] at this; exact this) x (by rw [← HLE.out, hLp]; simp)
    obtain ⟨xi0, xo0, xi, xo, xk⟩ := bnd
    have xp := knd_pos xk
    have xf0 := xp.1
    have xf2 := xp.2
    have hxM : x.i ≤ 16777216 := by omega
    have hoM : x.o ≤ 16777216 := by omega
    have hfM : x.r.f0 ≤ 16777216 := by omega
    have hsM : (x.r.f1.size : Int) ≤ 16777216 := by omega
    have HJ := Aside0.mk hj
    have HBO := Aside0.mk hbo
    have c8 := hbo.cell
    have f8 := hbo.frozen
    have b4 : Boxed W w.heap.size 3 (.int .i64 at_) := ((hj.but.block _ (by have := HZ4.out; omega) (fun e => by have e2 : w.heap.size = O := e; have := HZ4.out; omega)).trans HX4.out)
    have b5 : Boxed W (w.heap.size + 1) 4 (.bool behind) := ((hj.but.block _ (by have := HZ4.out; omega) (fun e => by have e2 : w.heap.size + 1 = O := e; have := HZ4.out; omega)).trans HX5.out)
    have c4 := b4.cell
    have c5 := b5.cell
    obtain ⟨x0, x1, x2, x3, x4⟩ := blk_step (s := x) hx
    clear hx hj hbo hmv hdr hLp xk xp b4 b5 xi xo
    by_cases h1 : at_ < x.i
    · have HBR := Aside0.mk (show brk at_ behind x from .inl h1)
      have hdv : d = V := by have := HMV.out; rwa [if_pos HBR.out] at this
      have HX := Aside0.mk (show Jf w4 (fun k => k = O) (fun (_ : List St) W => Boxed W O 3 (.int .i64 V)) [] Priv.none W from ⟨by rw [← hdv]; exact HBO.out, HJ.out.but, fun k o hk => by cases hk⟩)
      clear hdv
      gi_wp2
      exact ⟨KeepsFrom.refl _ _, rfl, HX.out⟩
    · by_cases h2 : x.i = at_
      · have e2 : (x.i == at_) = true := by simpa using h2
        cases behind with
        | false =>
          have HBR := Aside0.mk (show brk at_ false x from .inr ⟨h2, .inl rfl⟩)
          have hdv : d = V := by have := HMV.out; rwa [if_pos HBR.out] at this
          have HX := Aside0.mk (show Jf w4 (fun k => k = O) (fun (_ : List St) W => Boxed W O 3 (.int .i64 V)) [] Priv.none W from ⟨by rw [← hdv]; exact HBO.out, HJ.out.but, fun k o hk => by cases hk⟩)
          clear hdv
          gi_wp2
          exact ⟨KeepsFrom.refl _ _, rfl, HX.out⟩
        | true =>
          by_cases h3 : x.r.f1.size = 0
          · have q1 : (x.r.f1.toList == ([] : List UInt8)) = true := by rw [tl_beq]; simpa using h3
            have q2 : x.r.f1.toList = [] := tl_nil.2 h3
            have HBR := Aside0.mk (show brk at_ true x from .inr ⟨h2, .inr h3⟩)
            have hdv : d = V := by have := HMV.out; rwa [if_pos HBR.out] at this
            have HX := Aside0.mk (show Jf w4 (fun k => k = O) (fun (_ : List St) W => Boxed W O 3 (.int .i64 V)) [] Priv.none W from ⟨by rw [← hdv]; exact HBO.out, HJ.out.but, fun k o hk => by cases hk⟩)
            clear hdv
            gi_wp2
            exact ⟨KeepsFrom.refl _ _, rfl, HX.out⟩
          · have q1 : (x.r.f1.toList == ([] : List UInt8)) = false := by rw [tl_beq]; simpa using h3
            have q2 : ¬ x.r.f1.toList = [] := by rw [tl_nil]; exact h3
            have HBR := Aside0.mk (show ¬ brk at_ true x from fun h => h.elim (fun h => h1 h) (fun h => h.2.elim (fun h => by cases h) (fun h => h3 h)))
            have HMV2 := Aside0.mk (show mvS at_ true suf (upd at_ x) = V by have := HMV.out; rwa [if_neg HBR.out] at this)
            by_cases hm : at_ - x.i < x.r.f0
            · have HU := Aside0.mk (show upd at_ x = x.o + (x.r.f1.size : Int) + (at_ - x.i) by unfold upd; rw [if_pos hm])
              gi_wp2
              exact ⟨(KeepsOthers.setCell _ _ _).from _, jf_step HFF.out HJ.out (ButS.setCell W O 0 _ rfl) (by rw [HQE.out]; exact ⟨_, HBO.out.set _, by rw [HNX.out, ← HMV2.out, HU.out]; first | done | rfl | (congr 1; omega)⟩)⟩
            · have HU := Aside0.mk (show upd at_ x = x.o + (x.r.f1.size : Int) + x.r.f0 by unfold upd; rw [if_neg hm])
              gi_wp2
              exact ⟨(KeepsOthers.setCell _ _ _).from _, jf_step HFF.out HJ.out (ButS.setCell W O 0 _ rfl) (by rw [HQE.out]; exact ⟨_, HBO.out.set _, by rw [HNX.out, ← HMV2.out, HU.out]; first | done | rfl | (congr 1; omega)⟩)⟩
      · have e2 : (x.i == at_) = false := by simpa using h2
        have HBR := Aside0.mk (show ¬ brk at_ behind x from fun h => h.elim (fun h => h1 h) (fun h => h2 h.1))
        have HMV2 := Aside0.mk (show mvS at_ behind suf (upd at_ x) = V by have := HMV.out; rwa [if_neg HBR.out] at this)
        by_cases hm : at_ - x.i < x.r.f0
        · have HU := Aside0.mk (show upd at_ x = x.o + (x.r.f1.size : Int) + (at_ - x.i) by unfold upd; rw [if_pos hm])
          gi_wp2
          exact ⟨(KeepsOthers.setCell _ _ _).from _, jf_step HFF.out HJ.out (ButS.setCell W O 0 _ rfl) (by rw [HQE.out]; exact ⟨_, HBO.out.set _, by rw [HNX.out, ← HMV2.out, HU.out]; first | done | rfl | (congr 1; omega)⟩)⟩
        · have HU := Aside0.mk (show upd at_ x = x.o + (x.r.f1.size : Int) + x.r.f0 by unfold upd; rw [if_neg hm])
          gi_wp2
          exact ⟨(KeepsOthers.setCell _ _ _).from _, jf_step HFF.out HJ.out (ButS.setCell W O 0 _ rfl) (by rw [HQE.out]; exact ⟨_, HBO.out.set _, by rw [HNX.out, ← HMV2.out, HU.out]; first | done | rfl | (congr 1; omega)⟩)⟩
  case done =>
    intro D G W hD hj hK
    have hq := hj.q
    rw [HQE.out] at hq
    obtain ⟨d, hbo, hmv⟩ := hq
    rw [List.drop_length] at hmv
    have hdv : d = V := hmv
    subst hdv
    have c8 := hbo.cell
    have HJ := Aside0.mk hj
    have HKD := Aside0.mk hK
    have HDD := Aside0.mk hD
    clear hj hbo hmv hK hD
    gi_wp2
    refine ⟨by simp, .inl ⟨_, _, rfl, run_takeDeferred HKD.out, ?_⟩⟩
    refine ⟨.tuple #[.int .i64 d, .bool true], by simp [results, Try.results45, go_sem], rfl, ?_⟩
    exact (HJ.out.but.below HB4.out (fun k hk => by have := HZ4.out; have e2 : k = O := hk; omega) HB4.out.size).trans ⟨rfl, rfl, rfl, by simp, fun k hk => World.putObj_heap_other (by have := HDD.out; have := HB4.out.size; omega)⟩
  case stop =>
    rintro D c s W hD ⟨rfl, hj⟩ hK
    have c8 := (show Boxed W O 3 (.int .i64 V) from hj.q).cell
    have HJ := Aside0.mk hj
    have HKD := Aside0.mk hK
    have HDD := Aside0.mk hD
    clear hj hK hD
    gi_wp2
    refine ⟨by simp, .inl ⟨_, _, rfl, run_takeDeferred HKD.out, ?_⟩⟩
    refine ⟨.tuple #[.int .i64 V, .bool true], by simp [results, Try.results45, go_sem], rfl, ?_⟩
    exact (HJ.out.but.below HB4.out (fun k hk => by have := HZ4.out; have e2 : k = O := hk; omega) HB4.out.size).trans ⟨rfl, rfl, rfl, by simp, fun k hk => World.putObj_heap_other (by have := HDD.out; have := HB4.out.size; omega)⟩
theorem move_c (A0 : Option Addr) (c0 : Nat) (l0 : List Rn) (at_ : Int) (behind : Bool) (w : World) (h : RC w A0 l0) (hc : l0.length ≤ c0) (hl : l0.length ≤ 140737488351232) :
    Calls Try.prog 45 #[.slice A0 l0.length c0, .int .i64 at_, .bool behind] w fun e w' => e = .returned (.tuple #[.int .i64 (moveL l0 at_ behind).1, .bool (moveL l0 at_ behind).2]) ∧ Below w.heap.size w w' := by
  unfold moveL
  cases hg : good l0 with
  | false => rw [if_neg (fun h => by cases h.1)]; exact move_no1 A0 c0 l0 at_ behind w h hc hl hg
  | true =>
    by_cases ha : at_ < 0
    · rw [if_neg (fun h => by omega)]; exact move_no2 A0 c0 l0 at_ behind w h hc hl hg ha
    · by_cases hi : inL l0 < at_
      · rw [if_neg (fun h => by omega)]; exact move_no3 A0 c0 l0 at_ behind w h hc hl hg (by omega) hi
      · rw [if_pos ⟨rfl, by omega, by omega⟩]; exact move_yes A0 c0 l0 at_ behind w h hc hl hg (by omega) (by omega)
end Go.Proofs.Ytjbnffadfohofaa.PlaceM
end
-- MERGED YtjbnffadfohofaaPlaceC
section
/- The walk of the closure by which Span meets an edit's steps. -/
namespace Go.Proofs.Ytjbnffadfohofaa.PlaceC
open Go.RowKit Go.Shelf Go.Proofs.Ytjbnffadfohofaa.P Go.Proofs.YtjbnffadfohofaaW.PrintWords Go.Proofs.YtjbnffadfohofaaW.PrintLast Go.Proofs.YtjbnffadfohofaaW.PrintMore Go.Proofs.Ytjbnffadfohofaa.Own Go.Proofs.Ytjbnffadfohofaa.EditL Go.Proofs.Ytjbnffadfohofaa.EditK Go.Proofs.Ytjbnffadfohofaa.RangeG Go.Proofs.Ytjbnffadfohofaa.RangeB Go.Proofs.Ytjbnffadfohofaa.EditJ Go.Proofs.Ytjbnffadfohofaa.EditI Go.Proofs.Ytjbnffadfohofaa.EditR Go.Proofs.Ytjbnffadfohofaa.EditF Go.Proofs.Ytjbnffadfohofaa.PlaceI Go.Proofs.Ytjbnffadfohofaa.PlaceM Go.Proofs.Ytjbnffadfohofaa.VaryR
attribute [local go_sem] max2_int min2_int max_two min_two
set_option linter.unusedSimpArgs false
set_option linter.unusedVariables false

/-- Where a span is so far: its ends, and whether a byte was found. -/
structure Sp where
  e0 : Int
  e1 : Int
  found : Bool
def lo (a : Int) (s : St) : Int := if a < s.i then s.i else a
def hi (b : Int) (s : St) : Int := if s.i + s.r.f0 < b then s.i + s.r.f0 else b
def meetL (a b : Int) (s : St) (m : Sp) : Sp := if hi b s ≤ lo a s then m else ⟨if m.found then m.e0 else s.o + lo a s - s.i, s.o + hi b s - s.i, true⟩
def SpIn (BE BF : Nat) (m : Sp) (w : World) : Prop := w.heap[BE]? = some (.cells #[.int .i64 m.e0, .int .i64 m.e1] 74 (0, 0)) ∧ w.heap[BF]? = some (.cells #[.bool m.found] 4 (0, 0))
def MeetPost (BE BF : Nat) (m : Sp) (w : World) (e : Ending) (w' : World) : Prop := (∃ v, e = .returned v) ∧ ButS (fun k => k = BE ∨ k = BF) w w' ∧ SpIn BE BF m w'
set_option maxHeartbeats 4000000 in
set_option maxRecDepth 100000 in
theorem meet_c (BX BE BF : Nat) (a b : Int) (s : St) (m : Sp) (w : World) (hx : w.heap[BX]? = some (.cells #[.int .i64 a, .int .i64 b] 42 (0, 0))) (hm : SpIn BE BF m w) (h1 : BE ≠ BF) (h2 : BX ≠ BE) (h3 : BX ≠ BF)
    (ha : 0 ≤ a) (hb : b ≤ 16777216) (ha2 : a ≤ 16777216) (hb0 : 0 ≤ b) (hi0 : 0 ≤ s.i) (hi1 : s.i + s.r.f0 ≤ 16777216) (ho0 : 0 ≤ s.o) (ho1 : s.o ≤ 16777216) (hf0 : 0 ≤ s.r.f0) :
    Calls Try.prog 43 #[.agg #[.int .i64 s.r.f0, .string s.r.f1, .int .i64 s.r.f2, .int .i64 s.i, .int .i64 s.o], .pointer (some ⟨BX, 0, none⟩), .pointer (some ⟨BF, 0, none⟩), .pointer (some ⟨BE, 0, none⟩)] w (MeetPost BE BF (meetL a b s m) w) := by
  have hE := hm.1
  have hF := hm.2
  have HX := Aside0.mk hx
  have HM := Aside0.mk hm
  have H1 := Aside0.mk h1
  have hsi : s.i ≤ 16777216 := by omega
  have hsf : s.r.f0 ≤ 16777216 := by omega
  have hXl := (Array.getElem?_eq_some_iff.1 hx).1
  have hEl := (Array.getElem?_eq_some_iff.1 hE).1
  have hFl := (Array.getElem?_eq_some_iff.1 hF).1
  have cx0 : w.cell? ⟨BX, 0, none⟩ = some (.int .i64 a) := by rw [cell_of_row w _ 0 _ _ _ hx]; rfl
  have cx1 : w.cell? ⟨BX, 1, none⟩ = some (.int .i64 b) := by rw [cell_of_row w _ 1 _ _ _ hx]; rfl
  clear hx hm hE hF
  go_enter Try.func43, Try.ntmps43
  go_wp2_with fail
  go_quiet (fail)
  obtain ⟨F, hF⟩ : ∃ F, F = lo a s := ⟨_, rfl⟩
  obtain ⟨T, hT⟩ : ∃ T, T = hi b s := ⟨_, rfl⟩
  rw [show (if a < s.i then s.i else a) = F from hF.symm, show (if s.i + s.r.f0 < b then s.i + s.r.f0 else b) = T from hT.symm]
  have hFb : 0 ≤ F ∧ F ≤ 16777216 := by rw [hF]; unfold lo; split <;> omega
  have hTb : 0 ≤ T ∧ T ≤ 16777216 := by rw [hT]; unfold hi; split <;> omega
  have hML : meetL a b s m = if T ≤ F then m else ⟨if m.found then m.e0 else s.o + F - s.i, s.o + T - s.i, true⟩ := by rw [hF, hT]; rfl
  have HML := Aside0.mk hML
  obtain ⟨hF0, hF1⟩ := hFb
  obtain ⟨hT0, hT1⟩ := hTb
  obtain ⟨w5, hw5⟩ : ∃ w5, w5 = ((w.alloc (.cells #[.int .i64 s.r.f0, .string s.r.f1, .int .i64 s.r.f2, .int .i64 s.i, .int .i64 s.o] 76)).drewN nq) := ⟨_, rfl⟩
  have hb5 : Below w.heap.size w w5 := by rw [hw5]; exact pw_below_drewN (below_alloc (Below.refl _ _) _) _
  have hs5 : w5.heap[w.heap.size]? = some (scs s) := by rw [hw5]; exact Own.heap_new w _
  have hE5 := (hb5.block BE hEl).trans HM.out.1
  have hF5 := (hb5.block BF hFl).trans HM.out.2
  rw [← hw5]
  have HBS := Aside0.mk (ButS.of_below (F := fun k => k = BE ∨ k = BF) hb5)
  have HE5 := Aside0.mk hE5
  have HF5 := Aside0.mk hF5
  obtain ⟨y0, y1, y2, y3, y4⟩ := blk_step hs5
  have cf : w5.cell? ⟨BF, 0, none⟩ = some (.bool m.found) := by rw [cell_of_row w5 _ 0 _ _ _ hF5]; rfl
  have ce0 : w5.cell? ⟨BE, 0, none⟩ = some (.int .i64 m.e0) := by rw [cell_of_row w5 _ 0 _ _ _ hE5]; rfl
  have ce1 : w5.cell? ⟨BE, 1, none⟩ = some (.int .i64 m.e1) := by rw [cell_of_row w5 _ 1 _ _ _ hE5]; rfl
  have ff : w5.frozen? ⟨BF, 0, none⟩ = false := frozen_of_row w5 _ 0 _ _ hF5
  have fe0 : w5.frozen? ⟨BE, 0, none⟩ = false := frozen_of_row w5 _ 0 _ _ hE5
  have fe1 : w5.frozen? ⟨BE, 1, none⟩ = false := frozen_of_row w5 _ 1 _ _ hE5
  have n1 : BE ≠ BF := H1.out
  have n2 : BF ≠ BE := fun e => H1.out e.symm
  have n3 : BE ≠ w.heap.size := by omega
  have n4 : BF ≠ w.heap.size := by omega
  have n5 : w.heap.size ≠ BE := by omega
  have n6 : w.heap.size ≠ BF := by omega
  clear hF hT hML hw5 hb5 hs5 hE5 hF5 cx0 cx1
  by_cases hTF : T ≤ F
  · have HV := Aside0.mk (show meetL a b s m = m by rw [HML.out, if_pos hTF])
    go_wp2_with fail
    refine bodyPost_ret (results_none rfl _ _ _) rfl ?_
    exact ⟨⟨_, rfl⟩, HBS.out, by rw [HV.out]; exact ⟨HE5.out, HF5.out⟩⟩
  · obtain ⟨m0, m1, mf⟩ := m
    have HV := Aside0.mk (show meetL a b s ⟨m0, m1, mf⟩ = ⟨if mf then m0 else s.o + F - s.i, s.o + T - s.i, true⟩ by rw [HML.out, if_neg hTF])
    simp only at cf ce0 ce1
    have hTF2 : F < T := by omega
    cases mf with
    | true =>
      go_wp2_with fail
      refine bodyPost_end (results_none rfl _ _ _) rfl ?_
      refine ⟨⟨_, rfl⟩, (HBS.out.trans (ButS.setCell _ _ _ _ (.inl rfl))).trans (ButS.setCell _ _ _ _ (.inr rfl)), ?_⟩
      rw [HV.out]
      exact ⟨(Below.heap_setCell _ ⟨BF, 0, none⟩ _ _ n1).trans (blk_put HE5.out 1 _ rfl), blk_put ((Below.heap_setCell _ ⟨BE, 1, none⟩ _ _ n2).trans HF5.out) 0 _ rfl⟩
    | false =>
      go_wp2_with fail
      refine bodyPost_end (results_none rfl _ _ _) rfl ?_
      refine ⟨⟨_, rfl⟩, ((HBS.out.trans (ButS.setCell _ _ _ _ (.inl rfl))).trans (ButS.setCell _ _ _ _ (.inl rfl))).trans (ButS.setCell _ _ _ _ (.inr rfl)), ?_⟩
      rw [HV.out]
      exact ⟨(Below.heap_setCell _ ⟨BF, 0, none⟩ _ _ n1).trans (blk_put (blk_put HE5.out 0 _ rfl) 1 _ rfl), blk_put ((Below.heap_setCell _ ⟨BE, 1, none⟩ _ _ n2).trans ((Below.heap_setCell _ ⟨BE, 0, none⟩ _ _ n2).trans HF5.out)) 0 _ rfl⟩
end Go.Proofs.Ytjbnffadfohofaa.PlaceC
end
-- MERGED YtjbnffadfohofaaPplaceMove
section
-- Written by wip/myprint.py of this session, over the kit's print.py: a Lean function for each Go function, and the proof that the code comes to it.
namespace Go.Proofs.Ytjbnffadfohofaa.P
open Go.RowKit Go.Proofs.YtjbnffadfohofaaW.PrintWords Go.Proofs.YtjbnffadfohofaaW.PrintLast Go.Proofs.YtjbnffadfohofaaW.PrintMore
attribute [local go_sem] max2_int min2_int max_two min_two max_three min_three max_four min_four   -- for this text's walks alone
set_option linter.unusedVariables false
set_option linter.unusedSimpArgs false

/-! ### place_Move: function 45 -/
-- NEEDS Derived.Test.YtjbnffadfohofaaPlaceM
def place_Move.f (l0 : List (S49)) (a1 : Int) (a2 : Bool) : Option (Int × Bool) := if l0.length ≤ 140737488351232 then some (PlaceM.moveL l0 a1 a2) else none
theorem place_Move.calls (A0 : Option Addr) (c0 : Nat) (l0 : List (S49)) (a1 : Int) (a2 : Bool) (r1 : Int) (r2 : Bool) (w : World) (hr0 : Kd.C k49 w A0 l0.length l0) (hc0 : l0.length ≤ c0) (h : place_Move.f l0 a1 a2 = some (r1, r2)) :
    Calls Try.prog 45 #[.slice A0 l0.length c0, .int .i64 a1, .bool a2] w fun e w' => e = .returned (.tuple #[.int .i64 r1, .bool r2]) ∧ Below w.heap.size w w' := by
  unfold place_Move.f at h
  by_cases hl : l0.length ≤ 140737488351232
  · rw [if_pos hl] at h
    have h2 := Option.some.inj h
    have := PlaceM.move_c A0 c0 l0 a1 a2 w hr0 hc0 hl
    rw [h2] at this
    exact this
  · rw [if_neg hl] at h; cases h

end Go.Proofs.Ytjbnffadfohofaa.P
end

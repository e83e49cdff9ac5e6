/- The walks of vary's readers. -/
import Derived.Test.YtedfcjcnhgomoaaPBase
import Derived.Test.YtedfcjcnhgomoaaGr
import Derived.Test.YtedfcjcnhgomoaaVaryL
import Derived.Outline
import Derived.Deep.QuietTactic
import Derived.BigQuiet
namespace Go.Proofs.Ytedfcjcnhgomoaa.VaryR
open Go.RowKit Go.Proofs.Ytedfcjcnhgomoaa.P Go.Proofs.YtedfcjcnhgomoaaW.PrintWords Go.Proofs.YtedfcjcnhgomoaaW.PrintLast Go.Proofs.YtedfcjcnhgomoaaW.PrintMore Go.Proofs.Ytedfcjcnhgomoaa.Own Go.Proofs.Ytedfcjcnhgomoaa.Vy

/-- The cells of a reader. -/
def rdCells (v : Value) (at_ : Nat) (bad made : Bool) : Array Value := #[v, .int .i64 (at_ : Int), .bool bad, .bool made]
/-- A reader's block, as it stands: which bytes, where, and whether it is bad. -/
structure RdAt (g : Nat) (w : World) (v : Value) (l : List Int) (at_ : Nat) (bad : Bool) : Prop where
  heap : w.heap[g]? = some (.cells (rdCells v at_ bad true) 132 (0, 0))
  sl : Sl w v l
  le : at_ ≤ l.length
  len : l.length ≤ 140737488355000

theorem ret_int {k : IntKind} {a b : Int} (h : a = b) : Ending.returned (.int k a) = .returned (.int k b) := by rw [h]
theorem ahead_c (g : Nat) (w : World) (v : Value) (l : List Int) (at_ : Nat) (bad : Bool) (h : RdAt g w v l at_ bad) :
    Calls Try.prog 88 #[.pointer (some ⟨g, 0, none⟩)] w fun e w' => e = .returned (.int .i64 (((l.length - at_ : Nat)) : Int)) ∧ Drawn0 w w' := by
  have H := h.heap
  obtain ⟨A, c, hv, hc, hC⟩ := h.sl
  subst hv
  have hl := h.le
  have hlen := h.len
  have c0 : w.cell? ⟨g, 0, none⟩ = some (.slice A l.length c) := by rw [cell_of_row w g 0 _ _ _ H]; rfl
  have c1 : w.cell? ⟨g, 1, none⟩ = some (.int .i64 (at_ : Int)) := by rw [cell_of_row w g 1 _ _ _ H]; rfl
  clear H
  go_enter Try.func88, Try.ntmps88
  go_wp2_with fail
  go_quiet (fail)
  go_wp2_with fail
  go_ret
  exact ⟨ret_int (by omega), ⟨_, rfl⟩⟩
theorem fail_c (g : Nat) (w : World) (v : Value) (l : List Int) (at_ : Nat) (bad : Bool) (h : RdAt g w v l at_ bad) :
    Calls Try.prog 108 #[.pointer (some ⟨g, 0, none⟩)] w fun e w' => e = .returned (.int .i64 0) ∧ w' = w.setCell ⟨g, 2, none⟩ (.bool true) := by
  have H := h.heap
  have c2 : w.cell? ⟨g, 2, none⟩ = some (.bool bad) := by rw [cell_of_row w g 2 _ _ _ H]; rfl
  have f2 : w.frozen? ⟨g, 2, none⟩ = false := frozen_of_row w g 2 _ _ H
  clear H
  go_enter Try.func108, Try.ntmps108
  go_wp2_with fail
  go_ret
  exact ⟨rfl, rfl⟩
/-- The scale ahead of the k-th byte, as the machine has it. -/
def scal (k : Nat) : Int := if k ≤ 8 then 128 ^ k else -9223372036854775808
theorem scal_le {k : Nat} (h : k < 9) : scal k = 128 ^ k := if_pos (by omega)
theorem pow_le8 : ∀ {k : Nat}, k ≤ 8 → (128 : Int) ^ k ≤ 72057594037927936
  | 0, _ | 1, _ | 2, _ | 3, _ | 4, _ | 5, _ | 6, _ | 7, _ | 8, _ => by decide
theorem scal_next {k : Nat} (h : k < 9) : wrap64 (scal k * 128) = scal (k + 1) := by
  rw [scal_le h]
  by_cases h8 : k < 8
  · rw [scal_le (by omega), Int.pow_succ]
    have h1 := pow_le8 (k := k + 1) (by omega)
    rw [Int.pow_succ] at h1
    have h2 := Vy.pow_pos k
    exact Byt.wrap_in _ (by omega)
  · obtain rfl : k = 8 := by omega
    decide +kernel
theorem numG_bad {k : Nat} {n x : Int} {t : List Int} (h : k < 9) (h1 : 0 < x % 128) (h2 : (M - n) / 128 ^ k < x % 128) : numG k n (x :: t) = (0, 0) := by
  simp only [numG]; rw [if_neg (by omega), if_pos ⟨h1, h2⟩]
theorem numG_more {k : Nat} {n x : Int} {t : List Int} (h : k < 9) (h1 : ¬ (0 < x % 128 ∧ (M - n) / 128 ^ k < x % 128)) (h2 : 128 ≤ x) : numG k n (x :: t) = numG (k + 1) (n + x % 128 * 128 ^ k) t := by
  rw [numG, if_neg (by omega), if_neg h1, if_pos h2]
theorem numG_idle {k : Nat} {n x : Int} {t : List Int} (h : k < 9) (h2 : x < 128) (h3 : x % 128 = 0) (h4 : 0 < k) : numG k n (x :: t) = (0, 0) := by
  simp only [numG]; rw [if_neg (by omega), if_neg (by omega), if_neg (by omega), if_pos ⟨h3, h4⟩]
theorem numG_last {k : Nat} {n x : Int} {t : List Int} (h : k < 9) (h1 : ¬ (0 < x % 128 ∧ (M - n) / 128 ^ k < x % 128)) (h2 : x < 128) (h3 : ¬ (x % 128 = 0 ∧ 0 < k)) : numG k n (x :: t) = (n + x % 128 * 128 ^ k, k + 1) := by
  simp only [numG]; rw [if_neg (by omega), if_neg h1, if_neg (by omega), if_neg h3]
theorem numG_end {k : Nat} {n : Int} {t : List Int} (h : 9 ≤ k ∨ t = []) : numG k n t = (0, 0) := by
  cases t with
  | nil => rfl
  | cons x t => simp only [numG]; rw [if_pos (by simpa using h)]
/-- How the number's reading ends when there is none. -/
def NumEnd (g at_ : Nat) (l : List Int) (w : World) (e : Ending) (w' : World) : Prop :=
  e = .returned (.int .i64 (numL (l.drop at_)).1) ∧ (∃ n, w' = if (numL (l.drop at_)).2 = 0 then (w.drewN n).setCell ⟨g, 2, none⟩ (.bool true) else (w.drewN n).setCell ⟨g, 1, none⟩ (.int .i64 ((at_ + (numL (l.drop at_)).2 : Nat) : Int)))
theorem numEnd_none {g at_ : Nat} {l : List Int} {w : World} (d : Nat) (h : numL (l.drop at_) = (0, 0)) : NumEnd g at_ l w (.returned (.int .i64 0)) ((w.drewN d).setCell ⟨g, 2, none⟩ (.bool true)) := by
  unfold NumEnd; rw [h]; exact ⟨rfl, d, by rw [if_pos rfl]⟩
theorem numEnd_some {g at_ k : Nat} {n m : Int} {l : List Int} {w : World} (d : Nat) (h : numL (l.drop at_) = (n, k + 1)) (hm : m = (at_ : Int) + ((k : Int) + 1)) : NumEnd g at_ l w (.returned (.int .i64 n)) ((w.drewN d).setCell ⟨g, 1, none⟩ (.int .i64 m)) := by
  unfold NumEnd; rw [h]; refine ⟨rfl, d, ?_⟩
  rw [if_neg (by simp), hm]; congr 2
theorem RdAt.drewN {g : Nat} {w : World} {v : Value} {l : List Int} {at_ : Nat} {bad : Bool} (h : RdAt g w v l at_ bad) (n : Nat) : RdAt g (w.drewN n) v l at_ bad :=
  ⟨h.heap, h.sl.drewN n, h.le, h.len⟩
set_option maxHeartbeats 2000000 in
set_option maxRecDepth 100000 in
theorem num_c (g : Nat) (w : World) (v : Value) (l : List Int) (at_ : Nat) (h : RdAt g w v l at_ false) (hok : Byt.Ok l) :
    Calls Try.prog 87 #[.pointer (some ⟨g, 0, none⟩)] w (NumEnd g at_ l w) := by
  have HR := Aside0.mk h
  obtain ⟨N, hN⟩ : ∃ N, l.length - at_ = N := ⟨_, rfl⟩
  have ha := fun w => ahead_c g w v l at_ false
  rw [hN] at ha
  have HN := Aside0.mk hN
  have HOK := Aside0.mk hok
  have hb0 := h.le
  have hb1 := h.len
  clear h hN hok
  go_enter Try.func87, Try.ntmps87
  go_wp2_with fail
  refine (ha _ HR.out).mono ?_
  rintro e w1 ⟨rfl, nd, rfl⟩
  clear ha
  go_wp2_with fail
  all_goals
    go_loopw [2, 3, 10] (fun nv sv iv wr => ∃ (n : Int) (k : Nat) (d : Nat), nv = .int .i64 n ∧ sv = .int .i64 (scal k) ∧ iv = .int .i64 (k : Int) ∧ 0 ≤ n ∧ n ≤ 4611686018427387904 ∧ k ≤ 9 ∧ k ≤ N ∧ numG k n (l.drop (at_ + k)) = numL (l.drop at_) ∧ wr = w.drewN d) (fun _ _ iv _ => 9 - (intOf iv).toNat)
    case atStart => exact ⟨0, 0, nd, rfl, rfl, rfl, by omega, by omega, by omega, by omega, rfl, rfl⟩
    case round =>
      obtain ⟨n, k, d, rfl, rfl, rfl, h0, h1, hk9, hkN, hG, rfl⟩ := hrel
      by_cases hlt : k < 9 ∧ k < N
      · obtain ⟨hk, hkn⟩ := hlt
        have ha1 : (k : Int) < 9 := by omega
        have ha2 : (k : Int) < (N : Int) := by omega
        have hsl := HR.out.sl
        have hhp := HR.out.heap
        have hNl := HN.out
        have hlt : at_ + k < l.length := by omega
        obtain ⟨x, hx⟩ : ∃ x, l[at_ + k]? = some x := ⟨_, List.getElem?_eq_getElem hlt⟩
        have hxr := HOK.out x (List.mem_of_getElem? hx)
        obtain ⟨hx0, hx1⟩ := hxr
        obtain ⟨A, c, hv, hc, hC⟩ := hsl
        obtain ⟨ad, hA, _⟩ := hC.2.2 (by omega)
        subst hA
        have hcell : w.cell? (ad.add (at_ + k)) = some (.int .u8 x) := C_cells hC ad rfl (at_ + k) _ (by simp [nums, hx])
        rw [hv] at hhp
        have c0 : w.cell? ⟨g, 0, none⟩ = some (.slice (some ad) l.length c) := by rw [cell_of_row w g 0 _ _ _ hhp]; rfl
        have c1 : w.cell? ⟨g, 1, none⟩ = some (.int .i64 (at_ : Int)) := by rw [cell_of_row w g 1 _ _ _ hhp]; rfl
        have i1 : ((at_ : Int) + (k : Int)).toNat = at_ + k := by omega
        have i2 : (0 : Int) ≤ (at_ : Int) + (k : Int) := by omega
        have i3 : (at_ : Int) + (k : Int) < (l.length : Int) := by omega
        have i4 : IntKind.i64.wrap ((at_ : Int) + (k : Int)) = (at_ : Int) + (k : Int) := by rw [IntKind.wrap_i64]; omega
        have HG := Aside0.mk hG
        have HD := Aside0.mk (show l.drop (at_ + k) = x :: l.drop (at_ + k + 1) by rw [List.drop_eq_getElem_cons hlt]; rw [List.getElem?_eq_getElem hlt] at hx; rw [Option.some.inj hx])
        have f1 : w.frozen? ⟨g, 1, none⟩ = false := frozen_of_row w g 1 _ _ hhp
        clear hG hx hC hv hhp hNl hlt
        go_wp2_with fail
        go_quiet (fail)
        clear i1 i2 i3 i4 c0 hcell
        obtain ⟨s, hs⟩ : ∃ s, s = scal k := ⟨_, rfl⟩
        have hs0 : 0 < s := by rw [hs, scal_le hk]; exact Vy.pow_pos k
        have hs1 : s ≤ 72057594037927936 := by rw [hs, scal_le hk]; exact pow_le8 (by omega)
        have HS := Aside0.mk hs
        rw [← hs]
        have hsp : s = 128 ^ k := by rw [hs, scal_le hk]
        have HP := Aside0.mk hsp
        clear hs hsp
        by_cases hb : 0 < x % 128 ∧ (4611686018427387904 - n) / s < x % 128
        · obtain ⟨hb1, hb2⟩ := hb
          have HZ := Aside0.mk (HG.out.symm.trans ((congrArg (numG k n) HD.out).trans (numG_bad hk hb1 (by rw [← HP.out]; exact hb2))))
          go_wp2_with fail
          refine (fail_c g _ v l at_ false (HR.out.drewN _)).mono ?_
          rintro e w1 ⟨rfl, rfl⟩
          go_wp2_with fail
          go_ret
          exact numEnd_none _ HZ.out
        · have hP0 : 0 ≤ x % 128 * s := Int.mul_nonneg (by omega) (by omega)
          have hP2 : n + x % 128 * s ≤ 4611686018427387904 := by
            by_cases hk : 0 < x % 128
            · have := (le_div (x % 128) (4611686018427387904 - n) s hs0).1 (by omega)
              omega
            · have : x % 128 = 0 := by omega
              rw [this]; omega
          have hP1 : x % 128 * s ≤ 4611686018427387904 := by omega
          have HNB := Aside0.mk (show ¬ (0 < x % 128 ∧ (M - n) / 128 ^ k < x % 128) by rw [← HP.out]; exact hb)
          by_cases hge : 128 ≤ x
          · have HM := Aside0.mk ((numG_more (t := l.drop (at_ + k + 1)) hk HNB.out hge).symm.trans ((by rw [← HD.out]; exact HG.out : numG k n (x :: l.drop (at_ + k + 1)) = numL (l.drop at_))))
            have HW := Aside0.mk (scal_next hk)
            rw [← HS.out] at HW
            clear hb
            by_cases h1 : 0 < x % 128
            · have h2 : x % 128 ≤ (4611686018427387904 - n) / s := by
                have := HNB.out
                rw [← HP.out] at this
                have e : M = 4611686018427387904 := rfl
                rw [e] at this; omega
              go_wp2_with fail
              go_roundw
              case rel => exact ⟨_, k + 1, _, rfl, by rw [HW.out], by go_num, by omega, by omega, by omega, by omega, by rw [← HM.out, HP.out]; rfl, rfl⟩
              case measure => simp [intOf]; omega
            · have h2 : ¬ 0 < x % 128 := h1
              go_wp2_with fail
              go_roundw
              case rel => exact ⟨_, k + 1, _, rfl, by rw [HW.out], by go_num, by omega, by omega, by omega, by omega, by rw [← HM.out, HP.out]; rfl, rfl⟩
              case measure => simp [intOf]; omega
          · have hlt8 : x < 128 := by omega
            by_cases hz : x % 128 = 0 ∧ 0 < k
            · obtain ⟨hz1, hz2⟩ := hz
              have HZ := Aside0.mk (HG.out.symm.trans ((congrArg (numG k n) HD.out).trans (numG_idle hk hlt8 hz1 hz2)))
              have hz3 : (0 : Int) < (k : Int) := by omega
              obtain rfl : x = 0 := by omega
              clear hb hP0 hP1 hP2 hz1
              go_wp2_with fail
              refine (fail_c g _ v l at_ false (HR.out.drewN _)).mono ?_
              rintro e w1 ⟨rfl, rfl⟩
              go_wp2_with fail
              go_ret
              exact numEnd_none _ HZ.out
            · have HM := Aside0.mk (HG.out.symm.trans ((congrArg (numG k n) HD.out).trans (numG_last hk HNB.out hlt8 hz)))
              rw [← HP.out] at HM
              clear hb
              by_cases h1 : 0 < x % 128
              · have h2 : x % 128 ≤ (4611686018427387904 - n) / s := by
                  have := HNB.out
                  rw [← HP.out] at this
                  have e : M = 4611686018427387904 := rfl
                  rw [e] at this; omega
                have h3 : ¬ x % 128 = 0 := by omega
                clear hz
                go_wp2_with fail
                go_ret
                exact numEnd_some _ HM.out (by omega)
              · obtain rfl : x = 0 := by omega
                obtain rfl : k = 0 := by omega
                clear hz h1 hP0 hP1 hP2
                go_wp2_with fail
                go_ret
                exact numEnd_some _ (HM.out.trans (by rw [show (0 : Int) % 128 = 0 from rfl, Int.zero_mul, Int.add_zero])) (by omega)
      · have HZ := Aside0.mk (hG.symm.trans (numG_end (by
          by_cases h9 : 9 ≤ k
          · exact .inl h9
          · exact .inr (List.drop_of_length_le (by have := HN.out; omega)))))
        clear hG
        go_wp2_with fail
        all_goals first | (exfalso; omega) | skip
        refine (fail_c g _ v l at_ false (HR.out.drewN _)).mono ?_
        rintro e w1 ⟨rfl, rfl⟩
        go_wp2_with fail
        go_ret
        exact numEnd_none _ HZ.out

/-! What a reader's step leaves: all but its own block is as it was. -/
abbrev But (g : Nat) (w w' : World) : Prop := w.grownBy w' (some g)
theorem But.refl (g : Nat) (w : World) : But g w w := ⟨rfl, rfl, rfl, Nat.le_refl _, fun _ _ _ => rfl⟩
theorem But.trans {g : Nat} {w w1 w2 : World} (h : But g w w1) (h2 : But g w1 w2) : But g w w2 :=
  ⟨h2.os.trans h.os, h2.tape.trans h.tape, h2.output.trans h.output, Nat.le_trans h.size h2.size, fun k hk hn => (h2.block k (Nat.lt_of_lt_of_le hk h.size) hn).trans (h.block k hk hn)⟩
theorem But.drewN (g : Nat) (w : World) (n : Nat) : But g w (w.drewN n) := ⟨rfl, rfl, rfl, Nat.le_refl _, fun _ _ _ => rfl⟩
theorem But.setCell (g o : Nat) (w : World) (u : Value) : But g w (w.setCell ⟨g, o, none⟩ u) :=
  ⟨rfl, rfl, rfl, by simp, fun k _ hn => heap_setCell_other w ⟨g, o, none⟩ k u (fun e => hn (by rw [e]))⟩
theorem But.below {g B : Nat} {w w' : World} (h : But g w w') (hB : B ≤ g) (hs : B ≤ w.heap.size) : Below B w w' :=
  ⟨h.os, h.tape, h.output, h.size, fun k hk => h.block k (Nat.lt_of_lt_of_le hk hs) (fun e => by injection e; omega)⟩
theorem But.step {g B : Nat} {w0 w w' : World} (h : But g w w') (hb : Below B w0 w) (hB : B ≤ g) (hs : B ≤ w0.heap.size) : Below B w0 w' := hb.trans (h.below hB (Nat.le_trans hs hb.size))
theorem Sl.but {g : Nat} {w w' : World} {v : Value} {xs : List Int} (h : Sl w v xs) (hg : But g w w') (hno : ∀ o x, w.cell? ⟨g, o, none⟩ ≠ some (.int .u8 x)) : Sl w' v xs := by
  obtain ⟨A, c, rfl, hc, hC⟩ := h
  refine ⟨A, c, rfl, hc, hC.1, hC.2.1, fun hp => ?_⟩
  obtain ⟨ad, e, hr⟩ := hC.2.2 hp
  refine ⟨ad, e, fun j p hj => ?_⟩
  obtain ⟨c, h1, h2, h3⟩ := hr j p hj
  refine ⟨c, h1, h2, fun i u hu => ?_⟩
  have hcell := h3 i u hu
  have hlt := World.block_lt_of_cell? w _ hcell
  have hc' : c = [.int .u8 p] := h2
  subst hc'
  have hu' : u = .int .u8 p := by
    cases i with
    | zero => exact (Option.some.inj hu).symm
    | succ i => cases hu
  subst hu'
  refine (World.cell?_of_block (hg.block _ hlt (fun e => ?_))).trans hcell
  have hb : (ad.add (j * (Kd.int .u8).sz + i)).block = g := by injection e
  have hs : (ad.add (j * (Kd.int .u8).sz + i)).spot = none := by
    cases hq : (ad.add (j * (Kd.int .u8).sz + i)).spot with
    | none => rfl
    | some q =>
      unfold World.cell? at hcell
      rw [hq] at hcell
      split at hcell
      · simp at hcell
      · cases hcell
  refine hno (ad.add (j * (Kd.int .u8).sz + i)).off p ?_
  have he : (⟨g, (ad.add (j * (Kd.int .u8).sz + i)).off, none⟩ : Addr) = ad.add (j * (Kd.int .u8).sz + i) := by
    rw [← hb, ← hs]
  rw [he]; exact hcell
theorem RdAt.noByte {g : Nat} {w : World} {v : Value} {l : List Int} {a : Nat} {bad : Bool} (h : RdAt g w v l a bad) : ∀ o x, w.cell? ⟨g, o, none⟩ ≠ some (.int .u8 x) := by
  intro o x hc
  rw [cell_of_row w g o _ _ _ h.heap] at hc
  obtain ⟨A, c, hv, _, _⟩ := h.sl
  subst hv
  unfold rdCells at hc
  match o with
  | 0 | 1 | 2 | 3 => simp at hc
  | o + 4 => simp at hc
theorem RdAt.setAt {g : Nat} {w : World} {v : Value} {l : List Int} {a : Nat} {bad : Bool} (h : RdAt g w v l a bad) (a' : Nat) (ha : a' ≤ l.length) : RdAt g (w.setCell ⟨g, 1, none⟩ (.int .i64 (a' : Int))) v l a' bad :=
  ⟨by rw [heap_setCell_same _ _ _ _ _ _ h.heap]; rfl, Sl.but h.sl (But.setCell g 1 w _) h.noByte, ha, h.len⟩
theorem RdAt.setBad {g : Nat} {w : World} {v : Value} {l : List Int} {a : Nat} {bad : Bool} (h : RdAt g w v l a bad) (b : Bool) : RdAt g (w.setCell ⟨g, 2, none⟩ (.bool b)) v l a b :=
  ⟨by rw [heap_setCell_same _ _ _ _ _ _ h.heap]; rfl, Sl.but h.sl (But.setCell g 2 w _) h.noByte, h.le, h.len⟩
theorem RdAt.but {g g' : Nat} {w w' : World} {v : Value} {l : List Int} {a : Nat} {bad : Bool} (h : RdAt g w v l a bad) (hg : But g' w w') (hne : g ≠ g') (hno : ∀ o x, w.cell? ⟨g', o, none⟩ ≠ some (.int .u8 x)) : RdAt g w' v l a bad :=
  ⟨(hg.block g (Array.getElem?_eq_some_iff.1 h.heap).1 (fun e => hne (by injection e))).trans h.heap, Sl.but h.sl hg hno, h.le, h.len⟩
theorem RdAt.below {g : Nat} {w w' : World} {v : Value} {l : List Int} {a : Nat} {bad : Bool} (h : RdAt g w v l a bad) (hb : Below w.heap.size w w') : RdAt g w' v l a bad :=
  ⟨(hb.block g (Array.getElem?_eq_some_iff.1 h.heap).1).trans h.heap, h.sl.below hb, h.le, h.len⟩

/-- Cuts of what is read. -/
theorem slice_mid {P : Program} (t e : TypeId) {z : Option Value} {b : Nat} (ht : P.underlying t = some (.slice e)) (hi : (P.info? e).map (fun i => (i.zero, i.size, i.bytes)) = some (z, 1, b)) {w : World} {v : Value} {l : List Int} (h : Sl w v l) (lo hi' : Int) (h0 : 0 ≤ lo) (h1 : lo ≤ hi') (h2 : hi' ≤ l.length) :
    ∃ u, (∀ W : World, (Instr.slice t v (some (.int .i64 lo)) (some (.int .i64 hi')) none).run P W = .ok u W) ∧ Sl w u ((l.take hi'.toNat).drop lo.toNat) := by
  obtain ⟨A, c, rfl, hc, hC⟩ := h
  cases hq : P.info? e with
  | none => rw [hq] at hi; cases hi
  | some i =>
    rw [hq] at hi
    have hsz : i.size = 1 := by
      simp only [Option.map_some, Option.some.injEq, Prod.mk.injEq] at hi
      exact hi.2.1
    refine ⟨_, cut_mid t e .i64 .i64 ht hq 1 hsz A l.length c lo hi' h0 h1 h2 hc, ?_⟩
    have hm := Kd.C_mid (lo := lo.toNat) (hi := hi'.toNat) hC (by omega) (by omega) hc
    have hl : ((l.take hi'.toNat).drop lo.toNat).length = hi'.toNat - lo.toNat := by rw [List.length_drop, List.length_take]; omega
    rw [hl] at hm
    exact ⟨_, _, by rw [hl], by rw [hl]; omega, by rw [hl]; exact hm⟩

theorem slice_from {P : Program} (t e : TypeId) {z : Option Value} {b : Nat} (ht : P.underlying t = some (.slice e)) (hi : (P.info? e).map (fun i => (i.zero, i.size, i.bytes)) = some (z, 1, b)) {w : World} {v : Value} {l : List Int} (h : Sl w v l) (lo : Int) (h0 : 0 ≤ lo) (h1 : lo ≤ l.length) :
    ∃ u, (∀ W : World, (Instr.slice t v (some (.int .i64 lo)) none none).run P W = .ok u W) ∧ Sl w u (l.drop lo.toNat) := by
  obtain ⟨A, c, rfl, hc, hC⟩ := h
  cases hq : P.info? e with
  | none => rw [hq] at hi; cases hi
  | some i =>
    rw [hq] at hi
    have hsz : i.size = 1 := by
      simp only [Option.map_some, Option.some.injEq, Prod.mk.injEq] at hi
      exact hi.2.1
    refine ⟨_, cut_from t e .i64 ht hq 1 hsz A l.length c lo h0 h1, ?_⟩
    have hm := Kd.C_drop (m := lo.toNat) hC (by omega) hc
    have hl : (l.drop lo.toNat).length = l.length - lo.toNat := List.length_drop
    rw [hl] at hm
    exact ⟨_, _, by rw [hl], by rw [hl]; omega, by rw [hl]; exact hm⟩

/-- What a way of reading comes to. -/
def WayPost (g : Nat) (v : Value) (l : List Int) (a : Nat) (val : Value) (k : Nat) (w : World) (e : Ending) (w' : World) : Prop :=
  ∃ a', e = .returned val ∧ RdAt g w' v l a' (decide (k = 0)) ∧ (k ≠ 0 → a' = a + k) ∧ But g w w'
theorem num_way (g : Nat) (w : World) (v : Value) (l : List Int) (a : Nat) (h : RdAt g w v l a false) (hok : Byt.Ok l) :
    Calls Try.prog 87 #[.pointer (some ⟨g, 0, none⟩)] w (WayPost g v l a (.int .i64 (numL (l.drop a)).1) (numL (l.drop a)).2 w) := by
  refine (num_c g w v l a h hok).mono ?_
  rintro e w' ⟨rfl, n, rfl⟩
  have hle := numL_le (Byt.ok_drop hok a)
  rw [List.length_drop] at hle
  have hal := h.le
  by_cases hk : (numL (l.drop a)).2 = 0
  · rw [if_pos hk, hk]
    exact ⟨a, rfl, (h.drewN n).setBad true, fun h => absurd rfl h, (But.drewN g w n).trans (But.setCell g 2 _ _)⟩
  · rw [if_neg hk]
    refine ⟨a + (numL (l.drop a)).2, rfl, ?_, fun _ => rfl, (But.drewN g w n).trans (But.setCell g 1 _ _)⟩
    rw [decide_eq_false hk]
    exact (h.drewN n).setAt _ (by omega)
set_option maxHeartbeats 1000000 in
theorem numFn_c (g : Nat) (w : World) (v : Value) (l : List Int) (a : Nat) (h : RdAt g w v l a false) (hok : Byt.Ok l) :
    Calls Try.prog 86 #[.pointer (some ⟨g, 0, none⟩)] w (WayPost g v l a (.int .i64 (numL (l.drop a)).1) (numL (l.drop a)).2 w) := by
  have H := Aside0.mk h
  clear h
  go_enter Try.func86, Try.ntmps86
  go_wp2_with fail
  refine (num_way g _ v l a H.out hok).mono ?_
  rintro e w' ⟨a', rfl, h1, h2, h3⟩
  have H1 := Aside0.mk h1
  have H2 := Aside0.mk h2
  have H3 := Aside0.mk h3
  clear h1 h2 h3
  go_wp2_with fail
  go_ret
  exact ⟨a', rfl, H1.out, H2.out, H3.out⟩
set_option maxHeartbeats 1000000 in
theorem bad_c (g : Nat) (w : World) (v : Value) (l : List Int) (a : Nat) (bad : Bool) (h : RdAt g w v l a bad) :
    Calls Try.prog 48 #[.pointer (some ⟨g, 0, none⟩)] w fun e w' => e = .returned (.bool bad) ∧ w' = w := by
  have H := h.heap
  have c3 : w.cell? ⟨g, 3, none⟩ = some (.bool true) := by rw [cell_of_row w g 3 _ _ _ H]; rfl
  have c2 : w.cell? ⟨g, 2, none⟩ = some (.bool bad) := by rw [cell_of_row w g 2 _ _ _ H]; rfl
  clear H h
  go_enter Try.func48, Try.ntmps48
  go_wp2_with fail
  go_ret
  exact ⟨rfl, rfl⟩
set_option maxHeartbeats 1000000 in
theorem signed_c (g : Nat) (w : World) (v : Value) (l : List Int) (a : Nat) (h : RdAt g w v l a false) (hok : Byt.Ok l) :
    Calls Try.prog 112 #[.pointer (some ⟨g, 0, none⟩)] w (WayPost g v l a (.int .i64 (sgnL (l.drop a)).1) (sgnL (l.drop a)).2 w) := by
  have H := Aside0.mk h
  have hn := numL_nonneg (Byt.ok_drop hok a)
  clear h
  unfold sgnL
  obtain ⟨r, hr⟩ : ∃ r, r = (numL (l.drop a)).1 := ⟨_, rfl⟩
  rw [← hr] at hn ⊢
  have HR := Aside0.mk hr
  obtain ⟨hn0, hn1⟩ := hn
  have hn2 : r ≤ 4611686018427387904 := hn1
  clear hn1 hr
  by_cases hodd : r % 2 = 1
  · have HZ := Aside0.mk (show wrap64 (-(r + 1).tdiv 2) = zag r by
      have e : (r + 1).tdiv 2 = (r + 1) / 2 := Int.tdiv_eq_ediv_of_nonneg (by omega)
      rw [e, Byt.wrap_in _ (by omega)]; unfold zag; rw [if_pos hodd])
    go_enter Try.func112, Try.ntmps112
    go_wp2_with fail
    refine (num_way g _ v l a H.out hok).mono ?_
    rintro e w' ⟨a', rfl, h1, h2, h3⟩
    have H1 := Aside0.mk h1
    have H2 := Aside0.mk h2
    have H3 := Aside0.mk h3
    clear h1 h2 h3
    rw [← HR.out]
    go_wp2_with fail
    go_ret
    exact ⟨a', ret_int HZ.out, H1.out, H2.out, H3.out⟩
  · have HZ := Aside0.mk (show r / 2 = zag r by unfold zag; rw [if_neg hodd])
    go_enter Try.func112, Try.ntmps112
    go_wp2_with fail
    refine (num_way g _ v l a H.out hok).mono ?_
    rintro e w' ⟨a', rfl, h1, h2, h3⟩
    have H1 := Aside0.mk h1
    have H2 := Aside0.mk h2
    have H3 := Aside0.mk h3
    clear h1 h2 h3
    rw [← HR.out]
    go_wp2_with fail
    go_ret
    exact ⟨a', ret_int HZ.out, H1.out, H2.out, H3.out⟩
set_option maxHeartbeats 1000000 in
set_option maxRecDepth 100000 in
theorem text_c (g : Nat) (w : World) (v : Value) (l : List Int) (a : Nat) (h : RdAt g w v l a false) (hok : Byt.Ok l) :
    Calls Try.prog 90 #[.pointer (some ⟨g, 0, none⟩)] w (WayPost g v l a (.string (strOfNums (textL (l.drop a)).1)) (textL (l.drop a)).2 w) := by
  have H := Aside0.mk h
  obtain ⟨hn0, hn1⟩ := numL_nonneg (Byt.ok_drop hok a)
  have hle := numL_le (Byt.ok_drop hok a)
  rw [List.length_drop] at hle
  have hal := h.le
  have hll := h.len
  clear h
  obtain ⟨r, hr⟩ : ∃ r : Nat, (r : Int) = (numL (l.drop a)).1 := ⟨(numL (l.drop a)).1.toNat, by omega⟩
  obtain ⟨k, hk⟩ : ∃ k : Nat, k = (numL (l.drop a)).2 := ⟨_, rfl⟩
  have hn2 : (r : Int) ≤ 4611686018427387904 := by rw [hr]; exact hn1
  rw [← hk] at hle
  have HRR := Aside0.mk hr
  have HK := Aside0.mk hk
  have HT1 := Aside0.mk (show k = 0 ∨ (l.length : Int) - a - k < r → textL (l.drop a) = ([], 0) by
    intro hz
    unfold textL
    rw [← hr, ← hk, List.length_drop, if_pos (by rcases hz with h | h <;> omega)])
  have HT2 := Aside0.mk (show k ≠ 0 → (r : Int) ≤ (l.length : Int) - a - k → textL (l.drop a) = ((l.take (a + k + r)).drop (a + k), k + r) by
    intro hz hq
    unfold textL
    rw [← hr, ← hk, List.length_drop, if_neg (by omega), Int.toNat_natCast, List.drop_drop, List.drop_take, Nat.add_sub_cancel_left])
  clear hn0 hn1 hr hk
  go_enter Try.func90, Try.ntmps90
  go_wp2_with fail
  refine (num_way g _ v l a H.out hok).mono ?_
  rintro e w' ⟨a', rfl, h1, h2, h3⟩
  rw [← HRR.out]
  rw [← HK.out] at h1 h2
  have H1 := Aside0.mk h1
  have H3 := Aside0.mk h3
  have hh := h1.heap
  by_cases hz : k = 0
  · have c2 : w'.cell? ⟨g, 2, none⟩ = some (.bool true) := by rw [cell_of_row w' g 2 _ _ _ hh]; simp [rdCells, hz]
    have HT := Aside0.mk (HT1.out (.inl hz))
    clear h1 h2 h3 hh hz
    go_wp2_with fail
    refine (fail_c g _ v l a' _ H1.out).mono ?_
    rintro e w1 ⟨rfl, rfl⟩
    go_wp2_with fail
    go_ret
    unfold WayPost
    rw [HT.out]
    exact ⟨a', rfl, H1.out.setBad true, fun h => absurd rfl h, H3.out.trans (But.setCell g 2 _ _)⟩
  · obtain rfl := h2 hz
    rw [decide_eq_false hz] at H1
    have c2 : w'.cell? ⟨g, 2, none⟩ = some (.bool false) := by rw [cell_of_row w' g 2 _ _ _ hh]; simp [rdCells, hz]
    have c1 : w'.cell? ⟨g, 1, none⟩ = some (.int .i64 ((a + k : Nat) : Int)) := by rw [cell_of_row w' g 1 _ _ _ hh]; rfl
    have f1 : w'.frozen? ⟨g, 1, none⟩ = false := frozen_of_row w' g 1 _ _ hh
    have HZ := Aside0.mk hz
    obtain ⟨q, hq⟩ : ∃ q, q = l.length - (a + k) := ⟨_, rfl⟩
    clear h1 h3 hh hz
    by_cases hlt : q < r
    · have hlt' : decide ((q : Int) < (r : Int)) = true := by simp; omega
      have HT := Aside0.mk (HT1.out (.inr (by omega)))
      go_wp2_with fail
      refine (ahead_c g _ v l (a + k) false H1.out).mono ?_
      rintro e w1 ⟨rfl, nd, rfl⟩
      rw [← hq]
      go_wp2_with fail
      refine (fail_c g _ v l (a + k) _ (H1.out.drewN _)).mono ?_
      rintro e w1 ⟨rfl, rfl⟩
      go_wp2_with fail
      go_ret
      unfold WayPost
      rw [HT.out]
      exact ⟨a + k, rfl, (H1.out.drewN _).setBad true, fun h => absurd rfl h, H3.out.trans ((But.drewN g _ _).trans (But.setCell g 2 _ _))⟩
    · have hlt' : decide ((q : Int) < (r : Int)) = false := by simp; omega
      have HT := Aside0.mk (HT2.out HZ.out (by omega))
      have hsum : ((a + k : Nat) : Int) + (r : Int) ≤ 140737488355000 := by omega
      go_wp2_with fail
      refine (ahead_c g _ v l (a + k) false H1.out).mono ?_
      rintro e w1 ⟨rfl, nd, rfl⟩
      rw [← hq]
      go_wp2_with fail
      have h2 := (H1.out.drewN nd).setAt (a + k + r) (by omega)
      rw [show ((a + k + r : Nat) : Int) = (a : Int) + (k : Int) + (r : Int) by omega] at h2
      have HB2 := Aside0.mk (H3.out.trans ((But.drewN g _ nd).trans (But.setCell g 1 _ (.int .i64 ((a : Int) + (k : Int) + (r : Int))))))
      obtain ⟨W2, hW2⟩ : ∃ W2, W2 = (w'.drewN nd).setCell ⟨g, 1, none⟩ (.int .i64 ((a : Int) + (k : Int) + (r : Int))) := ⟨_, rfl⟩
      rw [← hW2] at h2 HB2 ⊢
      have H2 := Aside0.mk h2
      obtain ⟨u, hcut, hu⟩ := slice_mid (P := Try.prog) 25 5 Try.underlying25 info5 h2.sl ((a : Int) + (k : Int)) ((a : Int) + (k : Int) + (r : Int)) (by omega) (by omega) (by omega)
      rw [show ((a : Int) + (k : Int) + (r : Int)).toNat = a + k + r by omega, show ((a : Int) + (k : Int)).toNat = a + k by omega] at hu
      have hcv := fun n => (hu.drewN n).string (P := Try.prog) Try.underlying25 Try.underlying5 Try.underlying9
      have d0 : W2.cell? ⟨g, 0, none⟩ = some v := by rw [cell_of_row W2 g 0 _ _ _ h2.heap]; rfl
      have d1 : W2.cell? ⟨g, 1, none⟩ = some (.int .i64 ((a : Int) + (k : Int) + (r : Int))) := by rw [cell_of_row W2 g 1 _ _ _ h2.heap]; simp [rdCells]
      have i1 : IntKind.i64.wrap ((a : Int) + (k : Int) + (r : Int) - (r : Int)) = (a : Int) + (k : Int) := by rw [IntKind.wrap_i64]; omega
      have i2 : (a : Int) + (k : Int) + (r : Int) - (r : Int) = (a : Int) + (k : Int) := by omega
      clear hW2 h2 hu c1 c2 f1
      go_quiet (fail)
      go_wp2_with fail
      go_ret
      unfold WayPost
      rw [HT.out]
      refine ⟨a + k + r, rfl, ?_, fun _ => by omega, HB2.out.trans (But.drewN g _ _)⟩
      rw [decide_eq_false (by have := HZ.out; omega)]
      exact H2.out.drewN _

/-! The reader's methods. -/
/-- A reader as the caller knows it: bad for good, or at a place. -/
def Rd (g : Nat) (w : World) (v : Value) (l : List Int) (a : Nat) (bad : Bool) : Prop := ∃ a', RdAt g w v l a' bad ∧ (bad = false → a' = a)
theorem Rd.noByte {g : Nat} {w : World} {v : Value} {l : List Int} {a : Nat} {bad : Bool} (h : Rd g w v l a bad) : ∀ o x, w.cell? ⟨g, o, none⟩ ≠ some (.int .u8 x) := by
  obtain ⟨_, h, _⟩ := h
  exact h.noByte
theorem Rd.but {g g' : Nat} {w w' : World} {v : Value} {l : List Int} {a : Nat} {bad : Bool} (h : Rd g w v l a bad) (hg : But g' w w') (hne : g ≠ g') (hno : ∀ o x, w.cell? ⟨g', o, none⟩ ≠ some (.int .u8 x)) : Rd g w' v l a bad := by
  obtain ⟨a', h, h2⟩ := h
  exact ⟨a', h.but hg hne hno, h2⟩
theorem Rd.below {g : Nat} {w w' : World} {v : Value} {l : List Int} {a : Nat} {bad : Bool} (h : Rd g w v l a bad) (hb : Below w.heap.size w w') : Rd g w' v l a bad := by
  obtain ⟨a', h, h2⟩ := h
  exact ⟨a', h.below hb, h2⟩
/-- A step: what is told, where the reader stands then, whether it is bad. -/
def stepA (bad : Bool) (a k : Nat) : Nat := if bad then a else a + k
def stepB (bad : Bool) (k : Nat) : Bool := bad || decide (k = 0)
def stepV {α : Type} (z : α) (bad : Bool) (k : Nat) (x : α) : α := if stepB bad k then z else x
def RdPost (g : Nat) (v : Value) (l : List Int) (a : Nat) (bad : Bool) (val : Value) (k : Nat) (w : World) (e : Ending) (w' : World) : Prop :=
  e = .returned val ∧ Rd g w' v l (stepA bad a k) (stepB bad k) ∧ But g w w'
theorem RdPost.mk {g : Nat} {v : Value} {l : List Int} {a k a' : Nat} {val : Value} {w w' : World} (h : RdAt g w' v l a' (decide (k = 0))) (h2 : k ≠ 0 → a' = a + k) (h3 : But g w w') : RdPost g v l a false val k w (.returned val) w' :=
  ⟨rfl, ⟨a', by simpa [stepB] using h, fun hk => by simp [stepB] at hk; rw [h2 hk]; rfl⟩, h3⟩
set_option maxHeartbeats 1000000 in
theorem readInt_bad (F : Nat) (g : Nat) (w : World) (v : Value) (l : List Int) (a : Nat) (k : Nat) (h : Rd g w v l a true) :
    Calls Try.prog 85 #[.pointer (some ⟨g, 0, none⟩), .func (.func F) #[] #[]] w (RdPost g v l a true (.int .i64 0) k w) := by
  obtain ⟨a', h, _⟩ := h
  have H := Aside0.mk h
  clear h
  go_enter Try.func85, Try.ntmps85
  go_wp2_with fail
  refine (bad_c g _ v l a' true H.out).mono ?_
  rintro e w' ⟨rfl, rfl⟩
  go_wp2_with fail
  go_ret
  exact ⟨rfl, ⟨a', H.out, fun h => by cases h⟩, But.refl g _⟩
end Go.Proofs.Ytedfcjcnhgomoaa.VaryR

import Derived.Test.YthocalfgeaclgaaZA
import Derived.Test.YthocalfgeaclgaaZB
-- MERGED YthocalfgeaclgaaEditG
section
/- The plain law of the edit of any runs: it is in order, of as many bytes; an edit is that of its own runs, parted anywhere. -/
namespace Go.Proofs.Ythocalfgeaclgaa.EditG
open Go.RowKit Go.Proofs.Ythocalfgeaclgaa.P Go.Proofs.Ythocalfgeaclgaa.EditL
set_option linter.unusedSimpArgs false
set_option linter.unusedVariables false

theorem E_add (s : ByteArray) : E ++ s = s := by
  apply ByteArray.ext
  simp [E]
theorem add_E (s : ByteArray) : s ++ E = s := by
  apply ByteArray.ext
  simp [E]
theorem size_add (a b : ByteArray) : (a ++ b).size = a.size + b.size := ByteArray.size_append ..
theorem jn_flush {r : Rn} {l : List Rn} {k d : Int} {a : ByteArray} (h1 : knd r = 1) (h2 : a.size ≠ 0 ∨ 0 < d) : jn (r :: l) k a d = fl k a d ++ jn l r.f0 r.f1 r.f2 := by
  show (if _ then _ else _) = _; rw [if_pos ⟨h1, h2⟩]
theorem jn_on {r : Rn} {l : List Rn} {k d : Int} {a : ByteArray} (h : ¬ (knd r = 1 ∧ (a.size ≠ 0 ∨ 0 < d))) : jn (r :: l) k a d = jn l (k + r.f0) (a ++ r.f1) (d + r.f2) := by
  show (if _ then _ else _) = _; rw [if_neg h]
theorem fl_len (k d : Int) (a : ByteArray) : (fl k a d).length ≤ 3 := by unfold fl; simp only [List.length_append]; (repeat' split) <;> simp
theorem jn_len (l : List Rn) : ∀ k a d, (jn l k a d).length ≤ 3 * l.length + 3 := by
  induction l with
  | nil => intro k a d; have := fl_len k d a; simpa [jn] using this
  | cons r l ih =>
    intro k a d
    by_cases h : knd r = 1 ∧ (a.size ≠ 0 ∨ 0 < d)
    · rw [jn_flush h.1 h.2, List.length_append, List.length_cons]
      have := fl_len k d a
      have := ih r.f0 r.f1 r.f2
      omega
    · rw [jn_on h, List.length_cons]
      have := ih (k + r.f0) (a ++ r.f1) (d + r.f2)
      omega
theorem run_eq {r : Rn} (h : knd r = 1) : r = ⟨r.f0, E, 0⟩ ∧ 0 < r.f0 ∧ r.f1 = E ∧ r.f2 = 0 := by
  obtain ⟨f0, f1, f2⟩ := r
  rcases knd_cases ⟨f0, f1, f2⟩ with ⟨h1, h2, h3, h4⟩ | ⟨h1, h2, h3, h4⟩ | ⟨h1, h2, h3, h4⟩ | ⟨h4, _⟩
  · have := eq_E h2
    simp only at h1 h3 this ⊢
    subst this; subst h3
    exact ⟨rfl, h1, rfl, rfl⟩
  all_goals rw [h4] at h; cases h
theorem run_eq2 {r : Rn} (h : knd r = 2) : r = ⟨0, r.f1, 0⟩ ∧ r.f0 = 0 ∧ r.f1.size ≠ 0 ∧ r.f2 = 0 := by
  obtain ⟨f0, f1, f2⟩ := r
  rcases knd_cases ⟨f0, f1, f2⟩ with ⟨h1, h2, h3, h4⟩ | ⟨h1, h2, h3, h4⟩ | ⟨h1, h2, h3, h4⟩ | ⟨h4, _⟩
  · rw [h4] at h; cases h
  · simp only at h1 h2 h3 ⊢
    subst h1; subst h3
    exact ⟨rfl, rfl, by omega, rfl⟩
  all_goals rw [h4] at h; cases h
theorem run_eq3 {r : Rn} (h : knd r = 3) : r = ⟨0, E, r.f2⟩ ∧ r.f0 = 0 ∧ r.f1 = E ∧ 0 < r.f2 := by
  obtain ⟨f0, f1, f2⟩ := r
  rcases knd_cases ⟨f0, f1, f2⟩ with ⟨h1, h2, h3, h4⟩ | ⟨h1, h2, h3, h4⟩ | ⟨h1, h2, h3, h4⟩ | ⟨h4, _⟩
  · rw [h4] at h; cases h
  · rw [h4] at h; cases h
  · have := eq_E h2
    simp only at h1 h3 this ⊢
    subst this; subst h1
    exact ⟨rfl, rfl, rfl, h3⟩
  · rw [h4] at h; cases h
theorem knd_three {r : Rn} (h : knd r ≠ 0) : knd r = 1 ∨ knd r = 2 ∨ knd r = 3 := by
  rcases knd_cases r with ⟨_, _, _, h4⟩ | ⟨_, _, _, h4⟩ | ⟨_, _, _, h4⟩ | ⟨h4, _⟩
  · exact .inl h4
  · exact .inr (.inl h4)
  · exact .inr (.inr h4)
  · exact absurd h4 h
theorem sums_fl {k d : Int} (hk : 0 ≤ k) (hd : 0 ≤ d) (a : ByteArray) : inL (fl k a d) = k + d ∧ outL (fl k a d) = k + (a.size : Int) := by
  unfold fl
  by_cases h1 : 0 < k <;> by_cases h2 : a.size ≠ 0 <;> by_cases h3 : 0 < d <;> simp [h1, h2, h3, inL, outL, E_size] <;> omega
theorem sums_jn (l : List Rn) (h : ∀ r ∈ l, knd r ≠ 0) : ∀ (k : Int) (a : ByteArray) (d : Int), 0 ≤ k → 0 ≤ d → inL (jn l k a d) = k + d + inL l ∧ outL (jn l k a d) = k + (a.size : Int) + outL l := by
  induction l with
  | nil =>
    intro k a d hk hd
    have := sums_fl hk hd a
    simp only [jn, inL, outL]
    omega
  | cons r l ih =>
    intro k a d hk hd
    have hp := knd_pos (h r List.mem_cons_self)
    have h2 : ∀ x ∈ l, knd x ≠ 0 := fun x hx => h x (List.mem_cons_of_mem _ hx)
    by_cases c : knd r = 1 ∧ (a.size ≠ 0 ∨ 0 < d)
    · have h3 := ih h2 r.f0 r.f1 r.f2 hp.1 hp.2
      have h4 := sums_fl hk hd a
      rw [jn_flush c.1 c.2, inL_append, outL_append]
      simp only [inL, outL]
      omega
    · have h3 := ih h2 (k + r.f0) (a ++ r.f1) (d + r.f2) (by omega) (by omega)
      rw [jn_on c]
      simp only [inL, outL]
      rw [size_add] at h3
      omega
theorem ord_jn (l : List Rn) (h : ∀ r ∈ l, knd r ≠ 0) : ∀ (k : Int) (a : ByteArray) (d last : Int), 0 ≤ k → 0 ≤ d → last ≠ 1 → (k = 0 → last = 0) → ord (jn l k a d) last = true := by
  induction l with
  | nil =>
    intro k a d last hk hd hl h0
    simp only [jn, fl]
    by_cases h1 : 0 < k
    · by_cases h2 : a.size ≠ 0 <;> by_cases h3 : 0 < d <;> simp [h1, h2, h3, ord, knd_keep, knd_add, knd_drop] <;> omega
    · have := h0 (by omega)
      subst this
      by_cases h2 : a.size ≠ 0 <;> by_cases h3 : 0 < d <;> simp [h1, h2, h3, ord, knd_keep, knd_add, knd_drop]
  | cons r l ih =>
    intro k a d last hk hd hl h0
    have hp := knd_pos (h r List.mem_cons_self)
    have h2 : ∀ x ∈ l, knd x ≠ 0 := fun x hx => h x (List.mem_cons_of_mem _ hx)
    by_cases c : knd r = 1 ∧ (a.size ≠ 0 ∨ 0 < d)
    · have hr := run_eq c.1
      have i2 := ih h2 r.f0 r.f1 r.f2 2 hp.1 hp.2 (by decide) (fun e => by omega)
      have i3 := ih h2 r.f0 r.f1 r.f2 3 hp.1 hp.2 (by decide) (fun e => by omega)
      rw [jn_flush c.1 c.2]
      unfold fl
      by_cases h1 : 0 < k
      · by_cases h2 : a.size ≠ 0 <;> by_cases h3 : 0 < d
        · simp [h1, h2, h3, ord, knd_keep, knd_add, knd_drop, i2, i3]; omega
        · simp [h1, h2, h3, ord, knd_keep, knd_add, knd_drop, i2, i3]; omega
        · simp [h1, h2, h3, ord, knd_keep, knd_add, knd_drop, i2, i3]; omega
        · exact absurd c.2 (by omega)
      · have := h0 (by omega)
        subst this
        by_cases h2 : a.size ≠ 0 <;> by_cases h3 : 0 < d
        · simp [h1, h2, h3, ord, knd_keep, knd_add, knd_drop, i2, i3]
        · simp [h1, h2, h3, ord, knd_keep, knd_add, knd_drop, i2, i3]
        · simp [h1, h2, h3, ord, knd_keep, knd_add, knd_drop, i2, i3]
        · exact absurd c.2 (by omega)
    · rw [jn_on c]
      refine ih h2 _ _ _ last (by omega) (by omega) hl (fun e => h0 (by omega))
theorem good_out {l : List Rn} (hf : fits (fine l) 0 0 = true) (hl : (out l).length ≤ 65536) : good (out l) = true := by
  have hok := fine_ok l
  have ho := ord_jn (fine l) hok 0 E 0 0 (by decide) (by decide) (by decide) (fun _ => rfl)
  have hs := sums_jn (fine l) hok 0 E 0 (by decide) (by decide)
  have hi := (fits_iff hok 0 0 (by decide) (by decide)).1 hf
  unfold good
  rw [show ord (out l) 0 = true from ho, decide_eq_true hl, Bool.true_and, Bool.true_and]
  refine (fits_iff (ord_ok ho) 0 0 (by decide) (by decide)).2 ?_
  rw [hs.1, hs.2, E_size]
  omega
theorem out_len (l : List Rn) : (out l).length ≤ 3 * l.length + 3 := by
  have h1 := jn_len (fine l) 0 E 0
  have h2 := fine_len l
  unfold out
  omega
/-- The edit of runs that fit. -/
theorem norm_fits {l : List Rn} (hf : fits (fine l) 0 0 = true) (hl : 3 * l.length + 3 ≤ 65536) : norm l = out l ∧ good (out l) = true := by
  have h := good_out hf (by have := out_len l; omega)
  unfold norm
  rw [if_pos hf, if_pos h]
  exact ⟨rfl, h⟩
theorem norm_sums {l : List Rn} (hf : fits (fine l) 0 0 = true) (hl : 3 * l.length + 3 ≤ 65536) : good (norm l) = true ∧ inL (norm l) = inL (fine l) ∧ outL (norm l) = outL (fine l) := by
  obtain ⟨h1, h2⟩ := norm_fits hf hl
  have hs := sums_jn (fine l) (fine_ok l) 0 E 0 (by decide) (by decide)
  rw [h1]
  refine ⟨h2, ?_, ?_⟩
  · unfold out; rw [hs.1]; omega
  · unfold out; rw [hs.2, E_size]; omega
theorem norm_good (l : List Rn) : good (norm l) = true := by
  unfold norm
  split
  · split
    · assumption
    · exact good_nil
  · exact good_nil
theorem norm_nofit {l : List Rn} (hf : fits (fine l) 0 0 = false) : norm l = [] := by unfold norm; rw [hf]; rfl
/-! An edit is the edit of its own runs. -/
theorem ord_zero {r : Rn} {l : List Rn} {last : Int} (h : ord (r :: l) last = true) : ord (r :: l) 0 = true := by
  simp only [ord, Bool.and_eq_true, decide_eq_true_eq] at h ⊢
  exact ⟨⟨⟨h.1.1.1, h.1.1.1⟩, by omega⟩, h.2⟩
theorem ord_tail {a l : List Rn} : ∀ {last : Int}, ord (a ++ l) last = true → ord l 0 = true := by
  induction a with
  | nil =>
    intro last h
    cases l with
    | nil => rfl
    | cons r l => exact ord_zero h
  | cons r a ih =>
    intro last h
    rw [List.cons_append] at h
    simp only [ord, Bool.and_eq_true] at h
    exact ih h.2
theorem fl_one {k : Int} (h : 0 < k) : fl k E 0 = [⟨k, E, 0⟩] := by unfold fl; rw [if_pos h]; rfl
theorem jn_self (l : List Rn) : ∀ (k : Int) (a : ByteArray) (d : Int), 0 ≤ k → 0 ≤ d → ord (fl k a d ++ l) 0 = true → jn l k a d = fl k a d ++ l := by
  induction l with
  | nil => intro k a d _ _ _; rw [List.append_nil]; rfl
  | cons r l ih =>
    intro k a d hk hd h
    have hr : knd r ≠ 0 := ord_ok h r (List.mem_append_right _ List.mem_cons_self)
    rcases knd_three hr with c | c | c
    · obtain ⟨e, e0, e1, e2⟩ := run_eq c
      have i1 := ih r.f0 r.f1 r.f2 (by omega) (by omega) (by
        rw [e1, e2, fl_one e0]
        have := ord_tail h
        rw [e] at this
        exact this)
      by_cases c2 : a.size ≠ 0 ∨ 0 < d
      · rw [jn_flush c c2, i1, e1, e2, fl_one e0, ← e]; rfl
      · have ha : a = E := eq_E (by omega)
        have hd0 : d = 0 := by omega
        subst ha; subst hd0
        have hk0 : k = 0 := by
          apply Classical.byContradiction
          intro hne
          rw [fl_one (by omega)] at h
          simp only [List.cons_append, List.nil_append, ord, knd_keep (show 0 < k by omega), c] at h
          simp at h
        subst hk0
        rw [jn_on (fun h => c2 h.2), Int.zero_add, Int.zero_add, E_add, i1, e1, e2, fl_one e0, ← e]
        rfl
    · obtain ⟨e, e0, e1, e2⟩ := run_eq2 c
      have hd0 : d = 0 := by
        apply Classical.byContradiction
        intro hne
        have hp : 0 < d := by omega
        unfold fl at h
        rw [if_pos hp, ← List.append_assoc, List.append_assoc] at h
        have h2 : ∀ (x : List Rn) (last : Int), ord (x ++ ([⟨0, E, d⟩] ++ r :: l)) last = true → False := by
          intro x
          induction x with
          | nil =>
            intro last h
            simp [ord, knd_drop hp, c] at h
          | cons y x ihx =>
            intro last h
            rw [List.cons_append] at h
            simp only [ord, Bool.and_eq_true] at h
            exact ihx _ h.2
        exact h2 _ _ h
      subst hd0
      have ha : a = E := by
        refine eq_E (Classical.byContradiction fun hne => ?_)
        unfold fl at h
        rw [if_pos hne, if_neg (show ¬ (0 : Int) < 0 by decide), List.append_nil] at h
        have h2 : ∀ (x : List Rn) (last : Int), ord ((x ++ [⟨0, a, 0⟩]) ++ r :: l) last = true → False := by
          intro x
          induction x with
          | nil =>
            intro last h
            simp [ord, knd_add hne, c] at h
          | cons y x ihx =>
            intro last h
            rw [List.cons_append, List.cons_append] at h
            simp only [ord, Bool.and_eq_true] at h
            exact ihx _ h.2
        exact h2 _ _ h
      subst ha
      have hfl : fl k E 0 ++ r :: l = fl k r.f1 0 ++ l := by
        unfold fl
        rw [if_pos e1, if_neg (show ¬ E.size ≠ 0 by decide), if_neg (show ¬ (0 : Int) < 0 by decide)]
        conv => lhs; rw [e]
        simp
      rw [jn_on (fun h => absurd (c.symm.trans h.1) (by decide)), e0, e2, Int.add_zero, Int.add_zero, E_add, hfl]
      exact ih _ _ _ hk (by decide) (by rw [← hfl]; exact h)
    · obtain ⟨e, e0, e1, e2⟩ := run_eq3 c
      have hd0 : d = 0 := by
        apply Classical.byContradiction
        intro hne
        have hp : 0 < d := by omega
        unfold fl at h
        rw [if_pos hp, ← List.append_assoc, List.append_assoc] at h
        have h2 : ∀ (x : List Rn) (last : Int), ord (x ++ ([⟨0, E, d⟩] ++ r :: l)) last = true → False := by
          intro x
          induction x with
          | nil =>
            intro last h
            simp [ord, knd_drop hp, c] at h
          | cons y x ihx =>
            intro last h
            rw [List.cons_append] at h
            simp only [ord, Bool.and_eq_true] at h
            exact ihx _ h.2
        exact h2 _ _ h
      subst hd0
      have hfl : fl k a 0 ++ r :: l = fl k a r.f2 ++ l := by
        unfold fl
        rw [if_pos e2, if_neg (show ¬ (0 : Int) < 0 by decide)]
        conv => lhs; rw [e]
        simp
      rw [jn_on (fun h => absurd (c.symm.trans h.1) (by decide)), e0, e1, Int.add_zero, Int.zero_add, add_E, hfl]
      exact ih _ _ _ hk (by omega) (by rw [← hfl]; exact h)
theorem out_self {l : List Rn} (h : ord l 0 = true) : out l = l := by
  unfold out
  rw [fine_self (ord_ok h)]
  exact jn_self l 0 E 0 (by decide) (by decide) h
theorem norm_self {l : List Rn} (h : good l = true) : norm l = l := by
  obtain ⟨h1, h2, h3, h4⟩ := good_ok h
  unfold norm
  rw [fine_self h4, if_pos h3, out_self h1, if_pos h]
end Go.Proofs.Ythocalfgeaclgaa.EditG
end
-- MERGED YthocalfgeaclgaaPvariorumref06Norm
section
-- Written by wip/myprint.py of this session, over the kit's print.py: a Lean function for each Go function, and the proof that the code comes to it.
namespace Go.Proofs.Ythocalfgeaclgaa.P
open Go.RowKit Go.Proofs.YthocalfgeaclgaaW.PrintWords Go.Proofs.YthocalfgeaclgaaW.PrintLast Go.Proofs.YthocalfgeaclgaaW.PrintMore
attribute [local go_sem] max2_int min2_int max_two min_two max_three min_three max_four min_four   -- for this text's walks alone
set_option linter.unusedVariables false
set_option linter.unusedSimpArgs false

/-! ### variorumref06_Norm: function 58 -/
mutual
def variorumref06_Norm.l0 : Nat → List (S37) → List (S37) → Int → Option ((List (S37)))
  | 0, _, _, _ => none
  | k + 1, x0, x3, x4 => if x4 < (x0.length : Int) then (if 0 ≤ x4 then ((variorumref06_Kind.f k ((rd_T37 x0 x4).f0) ((rd_T37 x0 x4).f1) ((rd_T37 x0 x4).f2)).bind fun t273 => (if t273 > 0 then (if x3.length < 4398046511104 then (variorumref06_Norm.l0 k x0 (x3 ++ [(⟨(rd_T37 x0 x4).f0, (rd_T37 x0 x4).f1, (rd_T37 x0 x4).f2⟩ : S37)]) (wrap64 (x4 + 1))) else (none)) else (variorumref06_Norm.l0 k x0 x3 (wrap64 (x4 + 1))))) else (none)) else ((variorumref06_sums.f k x3).bind fun bt278 => (if bt278.2.2 = true then (variorumref06_Norm.l1 k x3 ([] : List (S37)) (⟨#[]⟩ : ByteArray) 0 0 0) else (some ([] : List (S37)))))
def variorumref06_Norm.l1 : Nat → List (S37) → List (S37) → ByteArray → Int → Int → Int → Option ((List (S37)))
  | 0, _, _, _, _, _, _ => none
  | k + 1, x3, x8, x9, x10, x11, x12 => if x12 ≤ (x3.length : Int) then (if x12 < (x3.length : Int) then (if 0 ≤ x12 then ((variorumref06_Kind.f k ((rd_T37 x3 x12).f0) ((rd_T37 x3 x12).f1) ((rd_T37 x3 x12).f2)).bind fun t282 => (variorumref06_Norm.j2 k x3 x8 x9 x10 x11 x12 (t282 == 1))) else (none)) else (variorumref06_Norm.j2 k x3 x8 x9 x10 x11 x12 false)) else (if x9.toList = ([] : List UInt8) then (variorumref06_Norm.j3 k x8 x10) else (if x8.length < 4398046511104 then (variorumref06_Norm.j3 k (x8 ++ [(⟨0, x9, 0⟩ : S37)]) x10) else (none)))
def variorumref06_Norm.j2 : Nat → List (S37) → List (S37) → ByteArray → Int → Int → Int → Bool → Option ((List (S37)))
  | 0, _, _, _, _, _, _, _ => none
  | k + 1, x3, x8, x9, x10, x11, x12, x57 => if x57 = true then (if x9.toList = ([] : List UInt8) then (if x10 > 0 then (if x8.length < 4398046511104 then (if 0 ≤ x12 then (if x12 < (x3.length : Int) then (variorumref06_Norm.l1 k x3 (x8 ++ [(⟨0, (⟨#[]⟩ : ByteArray), x10⟩ : S37)]) (⟨#[]⟩ : ByteArray) 0 (wrap64 (x11 + ((rd_T37 x3 x12).f0))) (wrap64 (x12 + 1))) else (none)) else (none)) else (none)) else (if 0 ≤ x12 then (if x12 < (x3.length : Int) then (variorumref06_Norm.l1 k x3 x8 (⟨#[]⟩ : ByteArray) 0 (wrap64 (x11 + ((rd_T37 x3 x12).f0))) (wrap64 (x12 + 1))) else (none)) else (none))) else (if x8.length < 4398046511104 then ((some (x8 ++ [(⟨0, x9, 0⟩ : S37)] : List (S37))).bind fun y288 => (if x10 > 0 then (if y288.length < 4398046511104 then (if 0 ≤ x12 then (if x12 < (x3.length : Int) then (variorumref06_Norm.l1 k x3 (y288 ++ [(⟨0, (⟨#[]⟩ : ByteArray), x10⟩ : S37)]) (⟨#[]⟩ : ByteArray) 0 (wrap64 (x11 + ((rd_T37 x3 x12).f0))) (wrap64 (x12 + 1))) else (none)) else (none)) else (none)) else (if 0 ≤ x12 then (if x12 < (x3.length : Int) then (variorumref06_Norm.l1 k x3 y288 (⟨#[]⟩ : ByteArray) 0 (wrap64 (x11 + ((rd_T37 x3 x12).f0))) (wrap64 (x12 + 1))) else (none)) else (none)))) else (none))) else (if x11 > 0 then (if x8.length < 4398046511104 then ((some (x8 ++ [(⟨x11, (⟨#[]⟩ : ByteArray), 0⟩ : S37)] : List (S37))).bind fun y296 => (if x12 < (x3.length : Int) then (if 0 ≤ x12 then (if x9.size + ((rd_T37 x3 x12).f1).size ≤ 9223372036854775807 then (variorumref06_Norm.l1 k x3 y296 (x9 ++ ((rd_T37 x3 x12).f1)) (wrap64 (x10 + ((rd_T37 x3 x12).f2))) 0 (wrap64 (x12 + 1))) else (none)) else (none)) else (variorumref06_Norm.l1 k x3 y296 x9 x10 0 (wrap64 (x12 + 1))))) else (none)) else (if x12 < (x3.length : Int) then (if 0 ≤ x12 then (if x9.size + ((rd_T37 x3 x12).f1).size ≤ 9223372036854775807 then (variorumref06_Norm.l1 k x3 x8 (x9 ++ ((rd_T37 x3 x12).f1)) (wrap64 (x10 + ((rd_T37 x3 x12).f2))) 0 (wrap64 (x12 + 1))) else (none)) else (none)) else (variorumref06_Norm.l1 k x3 x8 x9 x10 0 (wrap64 (x12 + 1)))))
def variorumref06_Norm.j3 : Nat → List (S37) → Int → Option ((List (S37)))
  | 0, _, _ => none
  | k + 1, x8, x10 => if x10 > 0 then (if x8.length < 4398046511104 then ((some (x8 ++ [(⟨0, (⟨#[]⟩ : ByteArray), x10⟩ : S37)] : List (S37))).bind fun y306 => ((variorumref06_Good.f y306).bind fun t309 => (if t309 = true then (some y306) else (some ([] : List (S37)))))) else (none)) else ((variorumref06_Good.f x8).bind fun t310 => (if t310 = true then (some x8) else (some ([] : List (S37)))))
end
def variorumref06_Norm.f (k : Nat) (l0 : List (S37)) : Option ((List (S37))) := variorumref06_Norm.l0 k l0 ([] : List (S37)) 0
theorem variorumref06_Norm.mono_l : ∀ k, (∀ y0 y1 y2, LeO (variorumref06_Norm.l0 k y0 y1 y2) (variorumref06_Norm.l0 (k + 1) y0 y1 y2)) ∧ (∀ y0 y1 y2 y3 y4 y5, LeO (variorumref06_Norm.l1 k y0 y1 y2 y3 y4 y5) (variorumref06_Norm.l1 (k + 1) y0 y1 y2 y3 y4 y5)) ∧ (∀ y0 y1 y2 y3 y4 y5 y6, LeO (variorumref06_Norm.j2 k y0 y1 y2 y3 y4 y5 y6) (variorumref06_Norm.j2 (k + 1) y0 y1 y2 y3 y4 y5 y6)) ∧ (∀ y0 y1, LeO (variorumref06_Norm.j3 k y0 y1) (variorumref06_Norm.j3 (k + 1) y0 y1))
  | 0 => ⟨fun _ _ _ r h => by simp [variorumref06_Norm.l0] at h, fun _ _ _ _ _ _ r h => by simp [variorumref06_Norm.l1] at h, fun _ _ _ _ _ _ _ r h => by simp [variorumref06_Norm.j2] at h, fun _ _ r h => by simp [variorumref06_Norm.j3] at h⟩
  | k + 1 => by
    obtain ⟨ih0, ih1, ih2, ih3⟩ := variorumref06_Norm.mono_l k
    refine ⟨?_, ?_, ?_, ?_⟩
    · intro y0 y1 y2
      unfold variorumref06_Norm.l0
      repeat' first
      | (with_reducible exact ih0 _ _ _)
      | (with_reducible exact ih1 _ _ _ _ _ _)
      | (with_reducible exact ih2 _ _ _ _ _ _ _)
      | (with_reducible exact ih3 _ _)
      | (with_reducible exact variorumref06_Kind.mono _ _ _ _)
      | (with_reducible exact variorumref06_sums.mono _ _)
      | (with_reducible exact LeO.refl _)
      | (with_reducible exact LeO.none _)
      | (with_reducible refine LeO.ite ?_ ?_)
      | (with_reducible refine LeO.bind ?_ (fun _ => ?_))
      | exact ih0 _ _ _
      | exact ih1 _ _ _ _ _ _
      | exact ih2 _ _ _ _ _ _ _
      | exact ih3 _ _
      | exact variorumref06_Kind.mono _ _ _ _
      | exact variorumref06_sums.mono _ _
      | exact LeO.none _
      | refine LeO.ite ?_ ?_
      | refine LeO.bind ?_ (fun _ => ?_)
    · intro y0 y1 y2 y3 y4 y5
      unfold variorumref06_Norm.l1
      repeat' first
      | (with_reducible exact ih0 _ _ _)
      | (with_reducible exact ih1 _ _ _ _ _ _)
      | (with_reducible exact ih2 _ _ _ _ _ _ _)
      | (with_reducible exact ih3 _ _)
      | (with_reducible exact variorumref06_Kind.mono _ _ _ _)
      | (with_reducible exact variorumref06_sums.mono _ _)
      | (with_reducible exact LeO.refl _)
      | (with_reducible exact LeO.none _)
      | (with_reducible refine LeO.ite ?_ ?_)
      | (with_reducible refine LeO.bind ?_ (fun _ => ?_))
      | exact ih0 _ _ _
      | exact ih1 _ _ _ _ _ _
      | exact ih2 _ _ _ _ _ _ _
      | exact ih3 _ _
      | exact variorumref06_Kind.mono _ _ _ _
      | exact variorumref06_sums.mono _ _
      | exact LeO.none _
      | refine LeO.ite ?_ ?_
      | refine LeO.bind ?_ (fun _ => ?_)
    · intro y0 y1 y2 y3 y4 y5 y6
      unfold variorumref06_Norm.j2
      repeat' first
      | (with_reducible exact ih0 _ _ _)
      | (with_reducible exact ih1 _ _ _ _ _ _)
      | (with_reducible exact ih2 _ _ _ _ _ _ _)
      | (with_reducible exact ih3 _ _)
      | (with_reducible exact variorumref06_Kind.mono _ _ _ _)
      | (with_reducible exact variorumref06_sums.mono _ _)
      | (with_reducible exact LeO.refl _)
      | (with_reducible exact LeO.none _)
      | (with_reducible refine LeO.ite ?_ ?_)
      | (with_reducible refine LeO.bind ?_ (fun _ => ?_))
      | exact ih0 _ _ _
      | exact ih1 _ _ _ _ _ _
      | exact ih2 _ _ _ _ _ _ _
      | exact ih3 _ _
      | exact variorumref06_Kind.mono _ _ _ _
      | exact variorumref06_sums.mono _ _
      | exact LeO.none _
      | refine LeO.ite ?_ ?_
      | refine LeO.bind ?_ (fun _ => ?_)
    · intro y0 y1
      unfold variorumref06_Norm.j3
      repeat' first
      | (with_reducible exact ih0 _ _ _)
      | (with_reducible exact ih1 _ _ _ _ _ _)
      | (with_reducible exact ih2 _ _ _ _ _ _ _)
      | (with_reducible exact ih3 _ _)
      | (with_reducible exact variorumref06_Kind.mono _ _ _ _)
      | (with_reducible exact variorumref06_sums.mono _ _)
      | (with_reducible exact LeO.refl _)
      | (with_reducible exact LeO.none _)
      | (with_reducible refine LeO.ite ?_ ?_)
      | (with_reducible refine LeO.bind ?_ (fun _ => ?_))
      | exact ih0 _ _ _
      | exact ih1 _ _ _ _ _ _
      | exact ih2 _ _ _ _ _ _ _
      | exact ih3 _ _
      | exact variorumref06_Kind.mono _ _ _ _
      | exact variorumref06_sums.mono _ _
      | exact LeO.none _
      | refine LeO.ite ?_ ?_
      | refine LeO.bind ?_ (fun _ => ?_)
theorem variorumref06_Norm.mono : ∀ a0 k, LeO (variorumref06_Norm.f k a0) (variorumref06_Norm.f (k + 1) a0) := by
  intro a0 k
  obtain ⟨ih0, ih1, ih2, ih3⟩ := variorumref06_Norm.mono_l k
  unfold variorumref06_Norm.f
  repeat' first
      | (with_reducible exact ih0 _ _ _)
      | (with_reducible exact ih1 _ _ _ _ _ _)
      | (with_reducible exact ih2 _ _ _ _ _ _ _)
      | (with_reducible exact ih3 _ _)
      | (with_reducible exact variorumref06_Kind.mono _ _ _ _)
      | (with_reducible exact variorumref06_sums.mono _ _)
      | (with_reducible exact LeO.refl _)
      | (with_reducible exact LeO.none _)
      | (with_reducible refine LeO.ite ?_ ?_)
      | (with_reducible refine LeO.bind ?_ (fun _ => ?_))
      | exact ih0 _ _ _
      | exact ih1 _ _ _ _ _ _
      | exact ih2 _ _ _ _ _ _ _
      | exact ih3 _ _
      | exact variorumref06_Kind.mono _ _ _ _
      | exact variorumref06_sums.mono _ _
      | exact LeO.none _
      | refine LeO.ite ?_ ?_
      | refine LeO.bind ?_ (fun _ => ?_)
set_option maxHeartbeats 8000000 in
set_option maxRecDepth 100000 in
theorem variorumref06_Norm.calls (k : Nat) (A0 : Option Addr) (c0 : Nat) (l0 : List (S37)) (r : List (S37)) (w : World) (hr0 : Kd.C k37 w A0 l0.length l0) (hc0 : l0.length ≤ c0) (h : variorumref06_Norm.f k l0 = some r) :
    Calls Try.prog 58 #[.slice A0 l0.length c0] w fun e w' => ∃ v0_ : Value, e = .returned (v0_) ∧ Kd.R k37 37 w' w.heap.size (fun _ => True) v0_ r ∧ Below w.heap.size w w' := by
  have hu37 := Try.underlying37
  have HR0 := Aside0.mk hr0
  have HC0 := Aside0.mk hc0
  clear hr0 hc0
  have HB := Aside0.mk (Below.refl w.heap.size w)
  have H : (variorumref06_Norm.l0 k l0 ([] : List (S37)) 0) = some r := h
  clear h
  have H' := Aside0.mk H
  clear H
  go_enter Try.func58, Try.ntmps58
  go_wp2
  go_loopg [3, 4] k (fun kq v3 v4 w' => ∃ (x3_1 : List (S37)) (x4_1 : Int), v4 = .int .i64 x4_1 ∧ Aside0 (variorumref06_Norm.l0 kq l0 x3_1 x4_1 = some r) ∧ Aside0 (kq ≤ k) ∧ Aside0 (Kd.R k37 37 w' w.heap.size (fun _ => True) v3 x3_1) ∧ Aside0 (Below w.heap.size w w'))
  case atStart => exact ⟨(([] : List (S37))), (0), (by first | rfl | (simp; done) | (simp [*]; done)), H', ⟨Nat.le_refl _⟩, ⟨by first | exact Kd.R_nil _ _ _ _ _ | exact Kd.N_nil _ _ _ _ _ | exact Kd.V_nil _ _ _ _ _ | exact Kd.Q_nil _ _ _ _ _ | exact Kd.S_nil _ _ _ _ _⟩, ⟨by repeat (first | (with_reducible first | exact HB.out | apply below_alloc | apply pw_below_drewN | apply below_drew1) | exact HB.out)⟩⟩
  case round =>
    clear H'
    obtain ⟨x3_1, x4_1, rfl, HA, HK1, HO_3, HB⟩ := hrel
    cases gk with
    | zero => exact absurd HA.out (by simp [variorumref06_Norm.l0])
    | succ k1 =>
      have H := HA.out
      clear HA
      simp only [variorumref06_Norm.l0] at H
      by_cases c2 : x4_1 < (l0.length : Int)
      · rw [if_pos c2] at H
        have c2b0 : decide (x4_1 < (l0.length : Int)) = true := decide_eq_true c2
        clear c2
        by_cases c3 : 0 ≤ x4_1
        · rw [if_pos c3] at H
          have c3b0 : decide (0 ≤ x4_1) = true := decide_eq_true c3
          clear c3
          replace H := Option.bind_eq_some_iff.mp H
          obtain ⟨t273, A40, H⟩ := H
          replace H : (if t273 > 0 then (if x3_1.length < 4398046511104 then (variorumref06_Norm.l0 k1 l0 (x3_1 ++ [(⟨(rd_T37 l0 x4_1).f0, (rd_T37 l0 x4_1).f1, (rd_T37 l0 x4_1).f2⟩ : S37)]) (wrap64 (x4_1 + 1))) else (none)) else (variorumref06_Norm.l0 k1 l0 x3_1 (wrap64 (x4_1 + 1)))) = some r := H
          have A4 := Aside0.mk A40
          clear A40
          by_cases c5 : t273 > 0
          · rw [if_pos c5] at H
            have c5b0 : decide (0 < t273) = true := decide_eq_true c5
            clear c5
            by_cases c6 : x3_1.length < 4398046511104
            · rw [if_pos c6] at H
              have LMc6 := Aside0.mk c6
              clear c6
              obtain ⟨y275, hy275⟩ : ∃ y_ : List (S37), y_ = (x3_1 ++ [(⟨(rd_T37 l0 x4_1).f0, (rd_T37 l0 x4_1).f1, (rd_T37 l0 x4_1).f2⟩ : S37)]) := ⟨_, rfl⟩
              replace H : (variorumref06_Norm.l0 k1 l0 y275 (wrap64 (x4_1 + 1))) = some r := by first | (rw [hy275]; with_reducible exact H) | (have H2_ := (Option.bind_some _ _).symm.trans H; rw [hy275]; with_reducible exact H2_) | (have H2_ := (Option.bind_some _ _).symm.trans H; with_reducible exact H2_) | with_reducible exact H | (rw [hy275]; exact H) | exact H
              have Ny275 := Aside0.mk hy275
              clear hy275
              have H' := Aside0.mk H
              clear H
              have p272 : 0 ≤ (x4_1 : Int) := of_decide_eq_true (by first | (with_reducible assumption) | assumption)
              have q272 : x4_1 < (l0.length : Int) := of_decide_eq_true (by first | (with_reducible assumption) | assumption)
              obtain ⟨ad272, e272, hx272_0, hx272_1, hx272_2⟩ := at_T37 HR0.out x4_1 p272 q272
              cases e272
              replace hx272_0 := (HB.out.cell (World.block_lt_of_cell? w _ hx272_0)).trans hx272_0
              replace hx272_1 := (HB.out.cell (World.block_lt_of_cell? w _ hx272_1)).trans hx272_1
              replace hx272_2 := (HB.out.cell (World.block_lt_of_cell? w _ hx272_2)).trans hx272_2
              replace p272 := eq_true p272
              replace q272 := eq_true q272
              go_wp2_with (first | ((with_reducible refine gate_callee (f := 52) rfl ?_); refine goesL_ (some 23) rfl rfl Try.func52 (by kernel_rfl) rfl #[.agg #[.int .i64 ((rd_T37 l0 x4_1).f0), .string ((rd_T37 l0 x4_1).f1), .int .i64 ((rd_T37 l0 x4_1).f2)]] rfl (by (try simp only [List.map_toArray, List.map_cons, List.map_nil]); first | done | rfl | (simp only [List.length_drop, List.length_take]; rfl)) ?_; (with_reducible refine (variorumref06_Kind.calls k1 ((rd_T37 l0 x4_1).f0) ((rd_T37 l0 x4_1).f1) ((rd_T37 l0 x4_1).f2) t273 _ A4.out).mono ?_); rintro e w7 ⟨rfl, hb⟩; refine ⟨_, rfl, ?_⟩; have n0_ := Aside0.mk (Kd.R_below (by (with_reducible repeat (first | apply Kd.R_alloc | apply Kd.R_drewN | apply Kd.R_drew)); exact HO_3.out) hb); have n1_ := Aside0.mk (below_step (by repeat (first | (with_reducible first | exact HB.out | apply below_alloc | apply pw_below_drewN | apply below_drew1) | exact HB.out)) hb); clear HO_3; clear HB; have HO_3 := n0_; have HB := n1_; clear n0_ n1_; (try clear hb); (try clear hb2); (try clear hk); (try clear hi); have p274 : 0 ≤ (x4_1 : Int) := of_decide_eq_true (by first | (with_reducible assumption) | assumption); have q274 : x4_1 < (l0.length : Int) := of_decide_eq_true (by first | (with_reducible assumption) | assumption); obtain ⟨ad274, e274, hx274_0, hx274_1, hx274_2⟩ := at_T37 HR0.out x4_1 p274 q274; obtain rfl : ad272 = ad274 := (by injection e274); replace hx274_0 := (HB.out.cell (World.block_lt_of_cell? w _ hx274_0)).trans hx274_0; replace hx274_1 := (HB.out.cell (World.block_lt_of_cell? w _ hx274_1)).trans hx274_1; replace hx274_2 := (HB.out.cell (World.block_lt_of_cell? w _ hx274_2)).trans hx274_2; replace p274 := eq_true p274; replace q274 := eq_true q274) | ((with_reducible refine gate_builtin (b := .append) (xs := #[.tmp 25, .tmp 30]) rfl ?_); at_builtin; refine Kd.R_append k37 (w0 := w) w.heap.size rfl (.tmp 25) (.tmp 30) 22 37 (.agg #[(.int .i64 0), (.string ⟨#[]⟩), (.int .i64 0)]) 32 rfl Try.underlying22 info37 rfl (by decide) (by omega) u3 x3_1 (⟨(rd_T37 l0 x4_1).f0, (rd_T37 l0 x4_1).f1, (rd_T37 l0 x4_1).f2⟩ : S37) [.int .i64 ((rd_T37 l0 x4_1).f0), .string ((rd_T37 l0 x4_1).f1), .int .i64 ((rd_T37 l0 x4_1).f2)] (fun _ => True) (fun _ => False) rfl rfl ?aP (fun _ hk => hk.elim) ?aF ?aO ?aB ?aS ?aL ?_; (case aP => exact k37_mkM _ _ _ (⟨(rd_T37 l0 x4_1).f0, (rd_T37 l0 x4_1).f1, (rd_T37 l0 x4_1).f2⟩ : S37)); (case aB => exact (by repeat (first | (with_reducible first | exact HB.out | apply below_alloc | apply pw_below_drewN | apply below_drew1) | exact HB.out))); (case aF => exact (fun _ _ => trivial)); (case aO => exact (by (with_reducible repeat (first | apply Kd.R_alloc | apply Kd.R_drewN | apply Kd.R_drew)); exact HO_3.out)); (case aS => exact (below_size (by repeat (first | (with_reducible first | exact HB.out | apply below_alloc | apply pw_below_drewN | apply below_drew1) | exact HB.out)))); (case aL => have := LMc6.out; omega); intro v276 w8 ho hb hg hat; rw [← Ny275.out] at ho; have n0_ := Aside0.mk (hb); have n1_ := Aside0.mk (ho); clear HB; clear HO_3; have HB := n0_; have HO277 := n1_; clear n0_ n1_; clear ho hb hg hat))
              go_roundg k1
              case measure => have := HK1.out; omega
              case rel => exact ⟨(y275), (wrap64 (x4_1 + 1)), (by first | rfl | (simp; done) | (simp [*]; done)), H', ⟨by have := HK1.out; omega⟩, ⟨by (with_reducible repeat (first | apply Kd.R_alloc | apply Kd.R_drewN | apply Kd.R_drew)); exact HO277.out⟩, ⟨by repeat (first | (with_reducible first | exact HB.out | apply below_alloc | apply pw_below_drewN | apply below_drew1) | exact HB.out)⟩⟩
            · rw [if_neg c6] at H
              exact absurd H (by simp)
          · rw [if_neg c5] at H
            have c5b0 : decide (0 < t273) = false := decide_eq_false c5
            clear c5
            have H' := Aside0.mk H
            clear H
            have p272 : 0 ≤ (x4_1 : Int) := of_decide_eq_true (by first | (with_reducible assumption) | assumption)
            have q272 : x4_1 < (l0.length : Int) := of_decide_eq_true (by first | (with_reducible assumption) | assumption)
            obtain ⟨ad272, e272, hx272_0, hx272_1, hx272_2⟩ := at_T37 HR0.out x4_1 p272 q272
            cases e272
            replace hx272_0 := (HB.out.cell (World.block_lt_of_cell? w _ hx272_0)).trans hx272_0
            replace hx272_1 := (HB.out.cell (World.block_lt_of_cell? w _ hx272_1)).trans hx272_1
            replace hx272_2 := (HB.out.cell (World.block_lt_of_cell? w _ hx272_2)).trans hx272_2
            replace p272 := eq_true p272
            replace q272 := eq_true q272
            go_wp2_with (first | ((with_reducible refine gate_callee (f := 52) rfl ?_); refine goesL_ (some 23) rfl rfl Try.func52 (by kernel_rfl) rfl #[.agg #[.int .i64 ((rd_T37 l0 x4_1).f0), .string ((rd_T37 l0 x4_1).f1), .int .i64 ((rd_T37 l0 x4_1).f2)]] rfl (by (try simp only [List.map_toArray, List.map_cons, List.map_nil]); first | done | rfl | (simp only [List.length_drop, List.length_take]; rfl)) ?_; (with_reducible refine (variorumref06_Kind.calls k1 ((rd_T37 l0 x4_1).f0) ((rd_T37 l0 x4_1).f1) ((rd_T37 l0 x4_1).f2) t273 _ A4.out).mono ?_); rintro e w9 ⟨rfl, hb⟩; refine ⟨_, rfl, ?_⟩; have n0_ := Aside0.mk (Kd.R_below (by (with_reducible repeat (first | apply Kd.R_alloc | apply Kd.R_drewN | apply Kd.R_drew)); exact HO_3.out) hb); have n1_ := Aside0.mk (below_step (by repeat (first | (with_reducible first | exact HB.out | apply below_alloc | apply pw_below_drewN | apply below_drew1) | exact HB.out)) hb); clear HO_3; clear HB; have HO_3 := n0_; have HB := n1_; clear n0_ n1_; (try clear hb); (try clear hb2); (try clear hk); (try clear hi)))
            go_roundg k1
            case measure => have := HK1.out; omega
            case rel => exact ⟨(x3_1), (wrap64 (x4_1 + 1)), (by first | rfl | (simp; done) | (simp [*]; done)), H', ⟨by have := HK1.out; omega⟩, ⟨by (with_reducible repeat (first | apply Kd.R_alloc | apply Kd.R_drewN | apply Kd.R_drew)); exact HO_3.out⟩, ⟨by repeat (first | (with_reducible first | exact HB.out | apply below_alloc | apply pw_below_drewN | apply below_drew1) | exact HB.out)⟩⟩
        · rw [if_neg c3] at H
          exact absurd H (by simp)
      · rw [if_neg c2] at H
        have c2b0 : decide (x4_1 < (l0.length : Int)) = false := decide_eq_false c2
        clear c2
        replace H := Option.bind_eq_some_iff.mp H
        obtain ⟨⟨t278, t279, t280⟩, A100, H⟩ := H
        replace H : (if t280 = true then (variorumref06_Norm.l1 k1 x3_1 ([] : List (S37)) (⟨#[]⟩ : ByteArray) 0 0 0) else (some ([] : List (S37)))) = some r := H
        have A10 := Aside0.mk A100
        clear A100
        by_cases c11 : t280 = true
        · subst c11
          have H1 : (variorumref06_Norm.l1 k1 x3_1 ([] : List (S37)) (⟨#[]⟩ : ByteArray) 0 0 0) = some r := by rw [if_pos rfl] at H; exact H
          clear H
          have H := H1
          clear H1
          have H' := Aside0.mk H
          clear H
          obtain ⟨Ao12, co12, eo12⟩ := Kd.R_slice HO_3.out
          subst eo12
          go_wp2_with (first | ((with_reducible refine gate_callee (f := 53) rfl ?_); refine goesL_ (some 34) rfl rfl Try.func53 (by kernel_rfl) rfl #[.slice Ao12 x3_1.length co12] rfl (by (try simp only [List.map_toArray, List.map_cons, List.map_nil]); first | done | rfl | (simp only [List.length_drop, List.length_take]; rfl)) ?_; (with_reducible refine (variorumref06_sums.calls k1 _ _ x3_1 t278 t279 true _ ?side1 ?side2 A10.out).mono ?_); (case side1 => repeat (first | exact (Kd.R_reads' HO_3.out).2.2 | (with_reducible refine Kd.C_alloc ?_ _) | (with_reducible refine Kd.C_drewN ?_ _) | (with_reducible refine Kd.C_drew ?_))); (case side2 => exact (Kd.R_reads' HO_3.out).2.1); rintro e w13 ⟨rfl, hb⟩; refine ⟨_, rfl, ?_⟩; have n0_ := Aside0.mk (Kd.R_below (by (with_reducible repeat (first | apply Kd.R_alloc | apply Kd.R_drewN | apply Kd.R_drew)); exact HO_3.out) hb); have n1_ := Aside0.mk (below_step (by repeat (first | (with_reducible first | exact HB.out | apply below_alloc | apply pw_below_drewN | apply below_drew1) | exact HB.out)) hb); clear HO_3; clear HB; have HO_3 := n0_; have HB := n1_; clear n0_ n1_; (try clear hb); (try clear hb2); (try clear hk); (try clear hi)))
          go_loopg [8, 9, 10, 11, 12] k1 (fun kq v8 v9 v10 v11 v12 w' => ∃ (x8_2 : List (S37)) (x9_2 : ByteArray) (x10_2 : Int) (x11_2 : Int) (x12_2 : Int), v9 = .string x9_2 ∧ v10 = .int .i64 x10_2 ∧ v11 = .int .i64 x11_2 ∧ v12 = .int .i64 x12_2 ∧ Aside0 (variorumref06_Norm.l1 kq x3_1 x8_2 x9_2 x10_2 x11_2 x12_2 = some r) ∧ Aside0 (kq ≤ k1) ∧ Aside0 (Kd.R k37 37 w' w.heap.size (fun k_ => some k_ ≠ (v8 : Value).ownBlock) (.slice Ao12 x3_1.length co12) x3_1) ∧ Aside0 (Kd.R k37 37 w' w.heap.size (fun k_ => some k_ ≠ ((.slice Ao12 x3_1.length co12) : Value).ownBlock) v8 x8_2) ∧ Aside0 (Below w.heap.size w w'))
          case atStart => exact ⟨(([] : List (S37))), ((⟨#[]⟩ : ByteArray)), (0), (0), (0), (by first | rfl | (simp; done) | (simp [*]; done)), (by first | rfl | (simp; done) | (simp [*]; done)), (by first | rfl | (simp; done) | (simp [*]; done)), (by first | rfl | (simp; done) | (simp [*]; done)), H', ⟨Nat.le_refl _⟩, ⟨by (with_reducible repeat (first | apply Kd.R_alloc | apply Kd.R_drewN | apply Kd.R_drew)); exact Kd.R_mono HO_3.out (fun _ hk => (by simp [Value.ownBlock]))⟩, ⟨by first | exact Kd.R_nil _ _ _ _ _ | exact Kd.N_nil _ _ _ _ _ | exact Kd.V_nil _ _ _ _ _ | exact Kd.Q_nil _ _ _ _ _ | exact Kd.S_nil _ _ _ _ _⟩, ⟨by repeat (first | (with_reducible first | exact HB.out | apply below_alloc | apply pw_below_drewN | apply below_drew1) | exact HB.out)⟩⟩
          case round =>
            clear H'
            try clear c1
            try clear c2
            try clear c2b0
            try clear p2
            try clear q2
            try clear hx2
            try clear c3
            try clear c3b0
            try clear c5
            try clear c5b0
            try clear c6
            try clear p6
            try clear c11
            try clear hx272_0
            try clear hx272_1
            try clear hx272_2
            try clear hx274_0
            try clear hx274_1
            try clear hx274_2
            try clear p272
            try clear p274
            try clear q272
            try clear q274
            obtain ⟨x8_2, x9_2, x10_2, x11_2, x12_2, rfl, rfl, rfl, rfl, HA, HK2, HO_3, HO_8, HB⟩ := hrel
            cases gk with
            | zero => exact absurd HA.out (by simp [variorumref06_Norm.l1])
            | succ k2 =>
              have H := HA.out
              clear HA
              simp only [variorumref06_Norm.l1] at H
              by_cases c14 : x12_2 ≤ (x3_1.length : Int)
              · rw [if_pos c14] at H
                have c14b0 : decide (x12_2 ≤ (x3_1.length : Int)) = true := decide_eq_true c14
                clear c14
                have HC15 := Aside0.mk H
                clear H
                go_upto_region 17 with (fail)
                go_cut [57] (fun v57 wc => ∃ (kq : Nat) (x57_14 : Bool), v57 = .bool x57_14 ∧ Aside0 (variorumref06_Norm.j2 kq x3_1 x8_2 x9_2 x10_2 x11_2 x12_2 x57_14 = some r) ∧ Aside0 (kq ≤ k2) ∧ Aside0 (Kd.R k37 37 wc w.heap.size (fun k_ => some k_ ≠ (u8 : Value).ownBlock) (.slice Ao12 x3_1.length co12) x3_1) ∧ Aside0 (Kd.R k37 37 wc w.heap.size (fun k_ => some k_ ≠ ((.slice Ao12 x3_1.length co12) : Value).ownBlock) u8 x8_2) ∧ Aside0 (Below w.heap.size w wc))
                case first =>
                  have H := HC15.out
                  clear HC15
                  by_cases c16 : x12_2 < (x3_1.length : Int)
                  · rw [if_pos c16] at H
                    have c16b0 : decide (x12_2 < (x3_1.length : Int)) = true := decide_eq_true c16
                    clear c16
                    (first | rw [c16b0] | (simp only [i64_w, i32_w]; rw [c16b0]) | (rw [c16e]; simp only [Bool.not_true, Bool.not_false]) | skip)
                    by_cases c17 : 0 ≤ x12_2
                    · rw [if_pos c17] at H
                      have c17b0 : decide (0 ≤ x12_2) = true := decide_eq_true c17
                      clear c17
                      replace H := Option.bind_eq_some_iff.mp H
                      obtain ⟨t282, A180, H⟩ := H
                      replace H : (variorumref06_Norm.j2 k2 x3_1 x8_2 x9_2 x10_2 x11_2 x12_2 (t282 == 1)) = some r := H
                      have A18 := Aside0.mk A180
                      clear A180
                      have H' := Aside0.mk H
                      clear H
                      have p281 : 0 ≤ (x12_2 : Int) := of_decide_eq_true (by first | (with_reducible assumption) | assumption)
                      have q281 : x12_2 < (x3_1.length : Int) := of_decide_eq_true (by first | (with_reducible assumption) | assumption)
                      obtain ⟨ad281, e281, hx281_0, hx281_1, hx281_2⟩ := at_T37 (Kd.R_reads' HO_3.out).2.2 x12_2 p281 q281
                      cases e281
                      replace p281 := eq_true p281
                      replace q281 := eq_true q281
                      go_wp2_with (first | (go_at_call 52; (with_reducible refine (variorumref06_Kind.calls k2 ((rd_T37 x3_1 x12_2).f0) ((rd_T37 x3_1 x12_2).f1) ((rd_T37 x3_1 x12_2).f2) t282 _ A18.out).mono ?_); rintro e w19 ⟨rfl, hb⟩; have n0_ := Aside0.mk (Kd.R_below (by (with_reducible repeat (first | apply Kd.R_alloc | apply Kd.R_drewN | apply Kd.R_drew)); exact HO_3.out) hb); have n1_ := Aside0.mk (Kd.R_below (by (with_reducible repeat (first | apply Kd.R_alloc | apply Kd.R_drewN | apply Kd.R_drew)); exact HO_8.out) hb); have n2_ := Aside0.mk (below_step (by repeat (first | (with_reducible first | exact HB.out | apply below_alloc | apply pw_below_drewN | apply below_drew1) | exact HB.out)) hb); clear HO_3; clear HO_8; clear HB; have HO_3 := n0_; have HO_8 := n1_; have HB := n2_; clear n0_ n1_ n2_; (try clear hb); (try clear hb2); (try clear hk); (try clear hi)))
                      go_meet
                      case rel => exact ⟨_, ((t282 == 1)), (by first | rfl | (simp; done) | (simp [*]; done)), H', ⟨by have := HK1.out; have := HK2.out; first | omega | exact Nat.le_refl _⟩, ⟨by (with_reducible repeat (first | apply Kd.R_alloc | apply Kd.R_drewN | apply Kd.R_drew)); exact HO_3.out⟩, ⟨by (with_reducible repeat (first | apply Kd.R_alloc | apply Kd.R_drewN | apply Kd.R_drew)); exact HO_8.out⟩, ⟨by repeat (first | (with_reducible first | exact HB.out | apply below_alloc | apply pw_below_drewN | apply below_drew1) | exact HB.out)⟩⟩
                    · rw [if_neg c17] at H
                      exact absurd H (by simp)
                  · rw [if_neg c16] at H
                    have c16b0 : decide (x12_2 < (x3_1.length : Int)) = false := decide_eq_false c16
                    clear c16
                    (first | rw [c16b0] | (simp only [i64_w, i32_w]; rw [c16b0]) | (rw [c16e]; simp only [Bool.not_true, Bool.not_false]) | skip)
                    have H' := Aside0.mk H
                    clear H
                    go_wp2
                    go_meet
                    case rel => exact ⟨_, (false), (by first | rfl | (simp; done) | (simp [*]; done)), H', ⟨by have := HK1.out; have := HK2.out; first | omega | exact Nat.le_refl _⟩, ⟨by (with_reducible repeat (first | apply Kd.R_alloc | apply Kd.R_drewN | apply Kd.R_drew)); exact HO_3.out⟩, ⟨by (with_reducible repeat (first | apply Kd.R_alloc | apply Kd.R_drewN | apply Kd.R_drew)); exact HO_8.out⟩, ⟨by repeat (first | (with_reducible first | exact HB.out | apply below_alloc | apply pw_below_drewN | apply below_drew1) | exact HB.out)⟩⟩
                case rest =>
                  clear HC15
                  try clear c1
                  try clear c2
                  try clear c2b0
                  try clear p2
                  try clear q2
                  try clear hx2
                  try clear c3
                  try clear c3b0
                  try clear c5
                  try clear c5b0
                  try clear c6
                  try clear p6
                  try clear c11
                  try clear c14
                  try clear c14b0
                  try clear c16
                  try clear c16b0
                  try clear c17
                  try clear c17b0
                  try clear hx272_0
                  try clear hx272_1
                  try clear hx272_2
                  try clear hx274_0
                  try clear hx274_1
                  try clear hx274_2
                  try clear hx281_0
                  try clear hx281_1
                  try clear hx281_2
                  try clear p2
                  try clear p272
                  try clear p274
                  try clear p281
                  try clear p6
                  try clear q2
                  try clear q272
                  try clear q274
                  try clear q281
                  obtain ⟨kq, x57_14, rfl, HA, HJ14, HO_3, HO_8, HB⟩ := hcut
                  cases kq with
                  | zero => exact absurd HA.out (by simp [variorumref06_Norm.j2])
                  | succ kj14 =>
                    have H := HA.out
                    clear HA
                    simp only [variorumref06_Norm.j2] at H
                    by_cases c20 : x57_14 = true
                    · subst c20
                      have H1 : (if x9_2.toList = ([] : List UInt8) then (if x10_2 > 0 then (if x8_2.length < 4398046511104 then (if 0 ≤ x12_2 then (if x12_2 < (x3_1.length : Int) then (variorumref06_Norm.l1 kj14 x3_1 (x8_2 ++ [(⟨0, (⟨#[]⟩ : ByteArray), x10_2⟩ : S37)]) (⟨#[]⟩ : ByteArray) 0 (wrap64 (x11_2 + ((rd_T37 x3_1 x12_2).f0))) (wrap64 (x12_2 + 1))) else (none)) else (none)) else (none)) else (if 0 ≤ x12_2 then (if x12_2 < (x3_1.length : Int) then (variorumref06_Norm.l1 kj14 x3_1 x8_2 (⟨#[]⟩ : ByteArray) 0 (wrap64 (x11_2 + ((rd_T37 x3_1 x12_2).f0))) (wrap64 (x12_2 + 1))) else (none)) else (none))) else (if x8_2.length < 4398046511104 then ((some (x8_2 ++ [(⟨0, x9_2, 0⟩ : S37)] : List (S37))).bind fun y288 => (if x10_2 > 0 then (if y288.length < 4398046511104 then (if 0 ≤ x12_2 then (if x12_2 < (x3_1.length : Int) then (variorumref06_Norm.l1 kj14 x3_1 (y288 ++ [(⟨0, (⟨#[]⟩ : ByteArray), x10_2⟩ : S37)]) (⟨#[]⟩ : ByteArray) 0 (wrap64 (x11_2 + ((rd_T37 x3_1 x12_2).f0))) (wrap64 (x12_2 + 1))) else (none)) else (none)) else (none)) else (if 0 ≤ x12_2 then (if x12_2 < (x3_1.length : Int) then (variorumref06_Norm.l1 kj14 x3_1 y288 (⟨#[]⟩ : ByteArray) 0 (wrap64 (x11_2 + ((rd_T37 x3_1 x12_2).f0))) (wrap64 (x12_2 + 1))) else (none)) else (none)))) else (none))) = some r := by rw [if_pos rfl] at H; exact H
                      clear H
                      have H := H1
                      clear H1
                      by_cases c21 : x9_2.toList = ([] : List UInt8)
                      · rw [if_pos c21] at H
                        have c21b0 : (x9_2.toList == ([] : List UInt8)) = true := beq_iff_eq.mpr c21
                        have c21e : x9_2.toList.isEmpty = true := List.isEmpty_iff.mpr c21
                        have c21b1 : (x9_2.toList != ([] : List UInt8)) = false := bne_eq_false_iff_eq.mpr c21
                        clear c21
                        by_cases c22 : x10_2 > 0
                        · rw [if_pos c22] at H
                          have c22b0 : decide (0 < x10_2) = true := decide_eq_true c22
                          clear c22
                          by_cases c23 : x8_2.length < 4398046511104
                          · rw [if_pos c23] at H
                            have LMc23 := Aside0.mk c23
                            clear c23
                            obtain ⟨y283, hy283⟩ : ∃ y_ : List (S37), y_ = (x8_2 ++ [(⟨0, (⟨#[]⟩ : ByteArray), x10_2⟩ : S37)]) := ⟨_, rfl⟩
                            replace H : (if 0 ≤ x12_2 then (if x12_2 < (x3_1.length : Int) then (variorumref06_Norm.l1 kj14 x3_1 y283 (⟨#[]⟩ : ByteArray) 0 (wrap64 (x11_2 + ((rd_T37 x3_1 x12_2).f0))) (wrap64 (x12_2 + 1))) else (none)) else (none)) = some r := by first | (rw [hy283]; with_reducible exact H) | (have H2_ := (Option.bind_some _ _).symm.trans H; rw [hy283]; with_reducible exact H2_) | (have H2_ := (Option.bind_some _ _).symm.trans H; with_reducible exact H2_) | with_reducible exact H | (rw [hy283]; exact H) | exact H
                            have Ny283 := Aside0.mk hy283
                            clear hy283
                            by_cases c24 : 0 ≤ x12_2
                            · rw [if_pos c24] at H
                              have c24b0 : decide (0 ≤ x12_2) = true := decide_eq_true c24
                              clear c24
                              by_cases c25 : x12_2 < (x3_1.length : Int)
                              · rw [if_pos c25] at H
                                have c25b0 : decide (x12_2 < (x3_1.length : Int)) = true := decide_eq_true c25
                                clear c25
                                have H' := Aside0.mk H
                                clear H
                                go_wp2_with (first | ((with_reducible refine gate_builtin (b := .append) (xs := #[.tmp 67, .tmp 70]) rfl ?_); at_builtin; refine Kd.R_append k37 (w0 := w) w.heap.size rfl (.tmp 67) (.tmp 70) 22 37 (.agg #[(.int .i64 0), (.string ⟨#[]⟩), (.int .i64 0)]) 32 rfl Try.underlying22 info37 rfl (by decide) (by omega) u8 x8_2 (⟨0, (⟨#[]⟩ : ByteArray), x10_2⟩ : S37) [.int .i64 0, .string (⟨#[]⟩ : ByteArray), .int .i64 x10_2] (fun k_ => some k_ ≠ (.slice Ao12 x3_1.length co12 : Value).ownBlock) (fun _ => False) rfl rfl ?aP (fun _ hk => hk.elim) ?aF ?aO ?aB ?aS ?aL ?_; (case aP => exact k37_mkM _ _ _ (⟨0, (⟨#[]⟩ : ByteArray), x10_2⟩ : S37)); (case aB => exact (by repeat (first | (with_reducible first | exact HB.out | apply below_alloc | apply pw_below_drewN | apply below_drew1) | exact HB.out))); (case aF => exact (fun k_ hk => Kd.fresh' (Kd.R_lt (by (with_reducible repeat (first | apply Kd.R_alloc | apply Kd.R_drewN | apply Kd.R_drew)); exact HO_3.out)) k_ hk)); (case aO => exact (by (with_reducible repeat (first | apply Kd.R_alloc | apply Kd.R_drewN | apply Kd.R_drew)); exact HO_8.out)); (case aS => exact (below_size (by repeat (first | (with_reducible first | exact HB.out | apply below_alloc | apply pw_below_drewN | apply below_drew1) | exact HB.out)))); (case aL => have := LMc23.out; omega); intro v284 w26 ho hb hg hat; rw [← Ny283.out] at ho; have n0_ := Aside0.mk (Kd.R_after (ok := (fun _ => True)) (by (with_reducible repeat (first | apply Kd.R_alloc | apply Kd.R_drewN | apply Kd.R_drew)); exact Kd.R_mono HO_3.out (fun _ hk => ⟨trivial, hk⟩)) hg hat); have n1_ := Aside0.mk (hb); have n2_ := Aside0.mk (ho); clear HO_3; clear HB; clear HO_8; have HO_3 := n0_; have HB := n1_; have HO285 := n2_; clear n0_ n1_ n2_; clear ho hb hg hat; have p286 : 0 ≤ (x12_2 : Int) := of_decide_eq_true (by first | (with_reducible assumption) | assumption); have q286 : x12_2 < (x3_1.length : Int) := of_decide_eq_true (by first | (with_reducible assumption) | assumption); obtain ⟨ad286, e286, hx286_0, hx286_1, hx286_2⟩ := at_T37 (Kd.R_reads' HO_3.out).2.2 x12_2 p286 q286; cases e286; replace p286 := eq_true p286; replace q286 := eq_true q286))
                                go_roundg kj14
                                case measure => have := HK1.out; have := HK2.out; have := HJ14.out; omega
                                case rel => exact ⟨(y283), ((⟨#[]⟩ : ByteArray)), (0), (wrap64 (x11_2 + ((rd_T37 x3_1 x12_2).f0))), (wrap64 (x12_2 + 1)), (by first | rfl | (simp; done) | (simp [*]; done)), (by first | rfl | (simp; done) | (simp [*]; done)), (by first | rfl | (simp; done) | (simp [*]; done)), (by first | rfl | (simp; done) | (simp [*]; done)), H', ⟨by have := HK1.out; have := HK2.out; have := HJ14.out; omega⟩, ⟨by (with_reducible repeat (first | apply Kd.R_alloc | apply Kd.R_drewN | apply Kd.R_drew)); exact Kd.R_mono HO_3.out (fun _ hk => hk.2)⟩, ⟨by (with_reducible repeat (first | apply Kd.R_alloc | apply Kd.R_drewN | apply Kd.R_drew)); exact HO285.out⟩, ⟨by repeat (first | (with_reducible first | exact HB.out | apply below_alloc | apply pw_below_drewN | apply below_drew1) | exact HB.out)⟩⟩
                              · rw [if_neg c25] at H
                                exact absurd H (by simp)
                            · rw [if_neg c24] at H
                              exact absurd H (by simp)
                          · rw [if_neg c23] at H
                            exact absurd H (by simp)
                        · rw [if_neg c22] at H
                          have c22b0 : decide (0 < x10_2) = false := decide_eq_false c22
                          clear c22
                          by_cases c27 : 0 ≤ x12_2
                          · rw [if_pos c27] at H
                            have c27b0 : decide (0 ≤ x12_2) = true := decide_eq_true c27
                            clear c27
                            by_cases c28 : x12_2 < (x3_1.length : Int)
                            · rw [if_pos c28] at H
                              have c28b0 : decide (x12_2 < (x3_1.length : Int)) = true := decide_eq_true c28
                              clear c28
                              have H' := Aside0.mk H
                              clear H
                              have p287 : 0 ≤ (x12_2 : Int) := of_decide_eq_true (by first | (with_reducible assumption) | assumption)
                              have q287 : x12_2 < (x3_1.length : Int) := of_decide_eq_true (by first | (with_reducible assumption) | assumption)
                              obtain ⟨ad287, e287, hx287_0, hx287_1, hx287_2⟩ := at_T37 (Kd.R_reads' HO_3.out).2.2 x12_2 p287 q287
                              cases e287
                              replace p287 := eq_true p287
                              replace q287 := eq_true q287
                              go_wp2
                              go_roundg kj14
                              case measure => have := HK1.out; have := HK2.out; have := HJ14.out; omega
                              case rel => exact ⟨(x8_2), ((⟨#[]⟩ : ByteArray)), (0), (wrap64 (x11_2 + ((rd_T37 x3_1 x12_2).f0))), (wrap64 (x12_2 + 1)), (by first | rfl | (simp; done) | (simp [*]; done)), (by first | rfl | (simp; done) | (simp [*]; done)), (by first | rfl | (simp; done) | (simp [*]; done)), (by first | rfl | (simp; done) | (simp [*]; done)), H', ⟨by have := HK1.out; have := HK2.out; have := HJ14.out; omega⟩, ⟨by (with_reducible repeat (first | apply Kd.R_alloc | apply Kd.R_drewN | apply Kd.R_drew)); exact HO_3.out⟩, ⟨by (with_reducible repeat (first | apply Kd.R_alloc | apply Kd.R_drewN | apply Kd.R_drew)); exact HO_8.out⟩, ⟨by repeat (first | (with_reducible first | exact HB.out | apply below_alloc | apply pw_below_drewN | apply below_drew1) | exact HB.out)⟩⟩
                            · rw [if_neg c28] at H
                              exact absurd H (by simp)
                          · rw [if_neg c27] at H
                            exact absurd H (by simp)
                      · rw [if_neg c21] at H
                        have c21b0 : (x9_2.toList == ([] : List UInt8)) = false := beq_eq_false_iff_ne.mpr c21
                        have c21e : x9_2.toList.isEmpty = false := List.isEmpty_eq_false_iff.mpr c21
                        have c21b1 : (x9_2.toList != ([] : List UInt8)) = true := bne_iff_ne.mpr c21
                        by_cases c29 : x8_2.length < 4398046511104
                        · rw [if_pos c29] at H
                          have LMc29 := Aside0.mk c29
                          clear c29
                          obtain ⟨y288, hy288⟩ : ∃ y_ : List (S37), y_ = (x8_2 ++ [(⟨0, x9_2, 0⟩ : S37)]) := ⟨_, rfl⟩
                          replace H : (if x10_2 > 0 then (if y288.length < 4398046511104 then (if 0 ≤ x12_2 then (if x12_2 < (x3_1.length : Int) then (variorumref06_Norm.l1 kj14 x3_1 (y288 ++ [(⟨0, (⟨#[]⟩ : ByteArray), x10_2⟩ : S37)]) (⟨#[]⟩ : ByteArray) 0 (wrap64 (x11_2 + ((rd_T37 x3_1 x12_2).f0))) (wrap64 (x12_2 + 1))) else (none)) else (none)) else (none)) else (if 0 ≤ x12_2 then (if x12_2 < (x3_1.length : Int) then (variorumref06_Norm.l1 kj14 x3_1 y288 (⟨#[]⟩ : ByteArray) 0 (wrap64 (x11_2 + ((rd_T37 x3_1 x12_2).f0))) (wrap64 (x12_2 + 1))) else (none)) else (none))) = some r := by first | (rw [hy288]; with_reducible exact H) | (have H2_ := (Option.bind_some _ _).symm.trans H; rw [hy288]; with_reducible exact H2_) | (have H2_ := (Option.bind_some _ _).symm.trans H; with_reducible exact H2_) | with_reducible exact H | (rw [hy288]; exact H) | exact H
                          have Ny288 := Aside0.mk hy288
                          clear hy288
                          by_cases c30 : x10_2 > 0
                          · rw [if_pos c30] at H
                            have c30b0 : decide (0 < x10_2) = true := decide_eq_true c30
                            clear c30
                            by_cases c31 : y288.length < 4398046511104
                            · rw [if_pos c31] at H
                              have LMc31 := Aside0.mk c31
                              clear c31
                              obtain ⟨y291, hy291⟩ : ∃ y_ : List (S37), y_ = (y288 ++ [(⟨0, (⟨#[]⟩ : ByteArray), x10_2⟩ : S37)]) := ⟨_, rfl⟩
                              replace H : (if 0 ≤ x12_2 then (if x12_2 < (x3_1.length : Int) then (variorumref06_Norm.l1 kj14 x3_1 y291 (⟨#[]⟩ : ByteArray) 0 (wrap64 (x11_2 + ((rd_T37 x3_1 x12_2).f0))) (wrap64 (x12_2 + 1))) else (none)) else (none)) = some r := by first | (rw [hy291]; with_reducible exact H) | (have H2_ := (Option.bind_some _ _).symm.trans H; rw [hy291]; with_reducible exact H2_) | (have H2_ := (Option.bind_some _ _).symm.trans H; with_reducible exact H2_) | with_reducible exact H | (rw [hy291]; exact H) | exact H
                              have Ny291 := Aside0.mk hy291
                              clear hy291
                              by_cases c32 : 0 ≤ x12_2
                              · rw [if_pos c32] at H
                                have c32b0 : decide (0 ≤ x12_2) = true := decide_eq_true c32
                                clear c32
                                by_cases c33 : x12_2 < (x3_1.length : Int)
                                · rw [if_pos c33] at H
                                  have c33b0 : decide (x12_2 < (x3_1.length : Int)) = true := decide_eq_true c33
                                  clear c33
                                  have H' := Aside0.mk H
                                  clear H
                                  go_wp2_with (first | ((with_reducible refine gate_builtin (b := .append) (xs := #[.tmp 60, .tmp 63]) rfl ?_); at_builtin; refine Kd.R_append k37 (w0 := w) w.heap.size rfl (.tmp 60) (.tmp 63) 22 37 (.agg #[(.int .i64 0), (.string ⟨#[]⟩), (.int .i64 0)]) 32 rfl Try.underlying22 info37 rfl (by decide) (by omega) u8 x8_2 (⟨0, x9_2, 0⟩ : S37) [.int .i64 0, .string x9_2, .int .i64 0] (fun k_ => some k_ ≠ (.slice Ao12 x3_1.length co12 : Value).ownBlock) (fun _ => False) rfl rfl ?aP (fun _ hk => hk.elim) ?aF ?aO ?aB ?aS ?aL ?_; (case aP => exact k37_mkM _ _ _ (⟨0, x9_2, 0⟩ : S37)); (case aB => exact (by repeat (first | (with_reducible first | exact HB.out | apply below_alloc | apply pw_below_drewN | apply below_drew1) | exact HB.out))); (case aF => exact (fun k_ hk => Kd.fresh' (Kd.R_lt (by (with_reducible repeat (first | apply Kd.R_alloc | apply Kd.R_drewN | apply Kd.R_drew)); exact HO_3.out)) k_ hk)); (case aO => exact (by (with_reducible repeat (first | apply Kd.R_alloc | apply Kd.R_drewN | apply Kd.R_drew)); exact HO_8.out)); (case aS => exact (below_size (by repeat (first | (with_reducible first | exact HB.out | apply below_alloc | apply pw_below_drewN | apply below_drew1) | exact HB.out)))); (case aL => have := LMc29.out; omega); intro v289 w34 ho hb hg hat; rw [← Ny288.out] at ho; have n0_ := Aside0.mk (Kd.R_after (ok := (fun _ => True)) (by (with_reducible repeat (first | apply Kd.R_alloc | apply Kd.R_drewN | apply Kd.R_drew)); exact Kd.R_mono HO_3.out (fun _ hk => ⟨trivial, hk⟩)) hg hat); have n1_ := Aside0.mk (hb); have n2_ := Aside0.mk (ho); clear HO_3; clear HB; clear HO_8; have HO_3 := n0_; have HB := n1_; have HO290 := n2_; clear n0_ n1_ n2_; clear ho hb hg hat) | ((with_reducible refine gate_builtin (b := .append) (xs := #[.tmp 67, .tmp 70]) rfl ?_); at_builtin; refine Kd.R_append k37 (w0 := w) w.heap.size rfl (.tmp 67) (.tmp 70) 22 37 (.agg #[(.int .i64 0), (.string ⟨#[]⟩), (.int .i64 0)]) 32 rfl Try.underlying22 info37 rfl (by decide) (by omega) v289 y288 (⟨0, (⟨#[]⟩ : ByteArray), x10_2⟩ : S37) [.int .i64 0, .string (⟨#[]⟩ : ByteArray), .int .i64 x10_2] (fun k_ => some k_ ≠ (.slice Ao12 x3_1.length co12 : Value).ownBlock) (fun _ => False) rfl rfl ?aP (fun _ hk => hk.elim) ?aF ?aO ?aB ?aS ?aL ?_; (case aP => exact k37_mkM _ _ _ (⟨0, (⟨#[]⟩ : ByteArray), x10_2⟩ : S37)); (case aB => exact (by repeat (first | (with_reducible first | exact HB.out | apply below_alloc | apply pw_below_drewN | apply below_drew1) | exact HB.out))); (case aF => exact (fun k_ hk => Kd.fresh' (Kd.R_lt (by (with_reducible repeat (first | apply Kd.R_alloc | apply Kd.R_drewN | apply Kd.R_drew)); exact HO_3.out)) k_ hk)); (case aO => exact (by (with_reducible repeat (first | apply Kd.R_alloc | apply Kd.R_drewN | apply Kd.R_drew)); exact HO290.out)); (case aS => exact (below_size (by repeat (first | (with_reducible first | exact HB.out | apply below_alloc | apply pw_below_drewN | apply below_drew1) | exact HB.out)))); (case aL => have := LMc31.out; omega); intro v292 w35 ho hb hg hat; rw [← Ny291.out] at ho; have n0_ := Aside0.mk (Kd.R_after (ok := (fun _ => True)) (by (with_reducible repeat (first | apply Kd.R_alloc | apply Kd.R_drewN | apply Kd.R_drew)); exact HO_3.out) hg hat); have n1_ := Aside0.mk (hb); have n2_ := Aside0.mk (ho); clear HO_3; clear HB; clear HO290; have HO_3 := n0_; have HB := n1_; have HO293 := n2_; clear n0_ n1_ n2_; clear ho hb hg hat; have p294 : 0 ≤ (x12_2 : Int) := of_decide_eq_true (by first | (with_reducible assumption) | assumption); have q294 : x12_2 < (x3_1.length : Int) := of_decide_eq_true (by first | (with_reducible assumption) | assumption); obtain ⟨ad294, e294, hx294_0, hx294_1, hx294_2⟩ := at_T37 (Kd.R_reads' HO_3.out).2.2 x12_2 p294 q294; cases e294; replace p294 := eq_true p294; replace q294 := eq_true q294))
                                  go_roundg kj14
                                  case measure => have := HK1.out; have := HK2.out; have := HJ14.out; omega
                                  case rel => exact ⟨(y291), ((⟨#[]⟩ : ByteArray)), (0), (wrap64 (x11_2 + ((rd_T37 x3_1 x12_2).f0))), (wrap64 (x12_2 + 1)), (by first | rfl | (simp; done) | (simp [*]; done)), (by first | rfl | (simp; done) | (simp [*]; done)), (by first | rfl | (simp; done) | (simp [*]; done)), (by first | rfl | (simp; done) | (simp [*]; done)), H', ⟨by have := HK1.out; have := HK2.out; have := HJ14.out; omega⟩, ⟨by (with_reducible repeat (first | apply Kd.R_alloc | apply Kd.R_drewN | apply Kd.R_drew)); exact Kd.R_mono HO_3.out (fun _ hk => hk.2)⟩, ⟨by (with_reducible repeat (first | apply Kd.R_alloc | apply Kd.R_drewN | apply Kd.R_drew)); exact HO293.out⟩, ⟨by repeat (first | (with_reducible first | exact HB.out | apply below_alloc | apply pw_below_drewN | apply below_drew1) | exact HB.out)⟩⟩
                                · rw [if_neg c33] at H
                                  exact absurd H (by simp)
                              · rw [if_neg c32] at H
                                exact absurd H (by simp)
                            · rw [if_neg c31] at H
                              exact absurd H (by simp)
                          · rw [if_neg c30] at H
                            have c30b0 : decide (0 < x10_2) = false := decide_eq_false c30
                            clear c30
                            by_cases c36 : 0 ≤ x12_2
                            · rw [if_pos c36] at H
                              have c36b0 : decide (0 ≤ x12_2) = true := decide_eq_true c36
                              clear c36
                              by_cases c37 : x12_2 < (x3_1.length : Int)
                              · rw [if_pos c37] at H
                                have c37b0 : decide (x12_2 < (x3_1.length : Int)) = true := decide_eq_true c37
                                clear c37
                                have H' := Aside0.mk H
                                clear H
                                go_wp2_with (first | ((with_reducible refine gate_builtin (b := .append) (xs := #[.tmp 60, .tmp 63]) rfl ?_); at_builtin; refine Kd.R_append k37 (w0 := w) w.heap.size rfl (.tmp 60) (.tmp 63) 22 37 (.agg #[(.int .i64 0), (.string ⟨#[]⟩), (.int .i64 0)]) 32 rfl Try.underlying22 info37 rfl (by decide) (by omega) u8 x8_2 (⟨0, x9_2, 0⟩ : S37) [.int .i64 0, .string x9_2, .int .i64 0] (fun k_ => some k_ ≠ (.slice Ao12 x3_1.length co12 : Value).ownBlock) (fun _ => False) rfl rfl ?aP (fun _ hk => hk.elim) ?aF ?aO ?aB ?aS ?aL ?_; (case aP => exact k37_mkM _ _ _ (⟨0, x9_2, 0⟩ : S37)); (case aB => exact (by repeat (first | (with_reducible first | exact HB.out | apply below_alloc | apply pw_below_drewN | apply below_drew1) | exact HB.out))); (case aF => exact (fun k_ hk => Kd.fresh' (Kd.R_lt (by (with_reducible repeat (first | apply Kd.R_alloc | apply Kd.R_drewN | apply Kd.R_drew)); exact HO_3.out)) k_ hk)); (case aO => exact (by (with_reducible repeat (first | apply Kd.R_alloc | apply Kd.R_drewN | apply Kd.R_drew)); exact HO_8.out)); (case aS => exact (below_size (by repeat (first | (with_reducible first | exact HB.out | apply below_alloc | apply pw_below_drewN | apply below_drew1) | exact HB.out)))); (case aL => have := LMc29.out; omega); intro v289 w38 ho hb hg hat; rw [← Ny288.out] at ho; have n0_ := Aside0.mk (Kd.R_after (ok := (fun _ => True)) (by (with_reducible repeat (first | apply Kd.R_alloc | apply Kd.R_drewN | apply Kd.R_drew)); exact Kd.R_mono HO_3.out (fun _ hk => ⟨trivial, hk⟩)) hg hat); have n1_ := Aside0.mk (hb); have n2_ := Aside0.mk (ho); clear HO_3; clear HB; clear HO_8; have HO_3 := n0_; have HB := n1_; have HO290 := n2_; clear n0_ n1_ n2_; clear ho hb hg hat; have p295 : 0 ≤ (x12_2 : Int) := of_decide_eq_true (by first | (with_reducible assumption) | assumption); have q295 : x12_2 < (x3_1.length : Int) := of_decide_eq_true (by first | (with_reducible assumption) | assumption); obtain ⟨ad295, e295, hx295_0, hx295_1, hx295_2⟩ := at_T37 (Kd.R_reads' HO_3.out).2.2 x12_2 p295 q295; cases e295; replace p295 := eq_true p295; replace q295 := eq_true q295))
                                go_roundg kj14
                                case measure => have := HK1.out; have := HK2.out; have := HJ14.out; omega
                                case rel => exact ⟨(y288), ((⟨#[]⟩ : ByteArray)), (0), (wrap64 (x11_2 + ((rd_T37 x3_1 x12_2).f0))), (wrap64 (x12_2 + 1)), (by first | rfl | (simp; done) | (simp [*]; done)), (by first | rfl | (simp; done) | (simp [*]; done)), (by first | rfl | (simp; done) | (simp [*]; done)), (by first | rfl | (simp; done) | (simp [*]; done)), H', ⟨by have := HK1.out; have := HK2.out; have := HJ14.out; omega⟩, ⟨by (with_reducible repeat (first | apply Kd.R_alloc | apply Kd.R_drewN | apply Kd.R_drew)); exact Kd.R_mono HO_3.out (fun _ hk => hk.2)⟩, ⟨by (with_reducible repeat (first | apply Kd.R_alloc | apply Kd.R_drewN | apply Kd.R_drew)); exact HO290.out⟩, ⟨by repeat (first | (with_reducible first | exact HB.out | apply below_alloc | apply pw_below_drewN | apply below_drew1) | exact HB.out)⟩⟩
                              · rw [if_neg c37] at H
                                exact absurd H (by simp)
                            · rw [if_neg c36] at H
                              exact absurd H (by simp)
                        · rw [if_neg c29] at H
                          exact absurd H (by simp)
                    · replace c20 := Bool.eq_false_iff.mpr c20
                      subst c20
                      have H1 : (if x11_2 > 0 then (if x8_2.length < 4398046511104 then ((some (x8_2 ++ [(⟨x11_2, (⟨#[]⟩ : ByteArray), 0⟩ : S37)] : List (S37))).bind fun y296 => (if x12_2 < (x3_1.length : Int) then (if 0 ≤ x12_2 then (if x9_2.size + ((rd_T37 x3_1 x12_2).f1).size ≤ 9223372036854775807 then (variorumref06_Norm.l1 kj14 x3_1 y296 (x9_2 ++ ((rd_T37 x3_1 x12_2).f1)) (wrap64 (x10_2 + ((rd_T37 x3_1 x12_2).f2))) 0 (wrap64 (x12_2 + 1))) else (none)) else (none)) else (variorumref06_Norm.l1 kj14 x3_1 y296 x9_2 x10_2 0 (wrap64 (x12_2 + 1))))) else (none)) else (if x12_2 < (x3_1.length : Int) then (if 0 ≤ x12_2 then (if x9_2.size + ((rd_T37 x3_1 x12_2).f1).size ≤ 9223372036854775807 then (variorumref06_Norm.l1 kj14 x3_1 x8_2 (x9_2 ++ ((rd_T37 x3_1 x12_2).f1)) (wrap64 (x10_2 + ((rd_T37 x3_1 x12_2).f2))) 0 (wrap64 (x12_2 + 1))) else (none)) else (none)) else (variorumref06_Norm.l1 kj14 x3_1 x8_2 x9_2 x10_2 0 (wrap64 (x12_2 + 1))))) = some r := by rw [if_neg (show ¬ (false = true) by decide)] at H; exact H
                      clear H
                      have H := H1
                      clear H1
                      by_cases c39 : x11_2 > 0
                      · rw [if_pos c39] at H
                        have c39b0 : decide (0 < x11_2) = true := decide_eq_true c39
                        clear c39
                        by_cases c40 : x8_2.length < 4398046511104
                        · rw [if_pos c40] at H
                          have LMc40 := Aside0.mk c40
                          clear c40
                          obtain ⟨y296, hy296⟩ : ∃ y_ : List (S37), y_ = (x8_2 ++ [(⟨x11_2, (⟨#[]⟩ : ByteArray), 0⟩ : S37)]) := ⟨_, rfl⟩
                          replace H : (if x12_2 < (x3_1.length : Int) then (if 0 ≤ x12_2 then (if x9_2.size + ((rd_T37 x3_1 x12_2).f1).size ≤ 9223372036854775807 then (variorumref06_Norm.l1 kj14 x3_1 y296 (x9_2 ++ ((rd_T37 x3_1 x12_2).f1)) (wrap64 (x10_2 + ((rd_T37 x3_1 x12_2).f2))) 0 (wrap64 (x12_2 + 1))) else (none)) else (none)) else (variorumref06_Norm.l1 kj14 x3_1 y296 x9_2 x10_2 0 (wrap64 (x12_2 + 1)))) = some r := by first | (rw [hy296]; with_reducible exact H) | (have H2_ := (Option.bind_some _ _).symm.trans H; rw [hy296]; with_reducible exact H2_) | (have H2_ := (Option.bind_some _ _).symm.trans H; with_reducible exact H2_) | with_reducible exact H | (rw [hy296]; exact H) | exact H
                          have Ny296 := Aside0.mk hy296
                          clear hy296
                          by_cases c41 : x12_2 < (x3_1.length : Int)
                          · rw [if_pos c41] at H
                            have c41b0 : decide (x12_2 < (x3_1.length : Int)) = true := decide_eq_true c41
                            clear c41
                            by_cases c42 : 0 ≤ x12_2
                            · rw [if_pos c42] at H
                              have c42b0 : decide (0 ≤ x12_2) = true := decide_eq_true c42
                              clear c42
                              by_cases c43 : x9_2.size + ((rd_T37 x3_1 x12_2).f1).size ≤ 9223372036854775807
                              · rw [if_pos c43] at H
                                have c43b0 := eq_true c43
                                have c43b1 : decide (x9_2.size + ((rd_T37 x3_1 x12_2).f1).size ≤ 9223372036854775807) = true := decide_eq_true c43
                                try have c43b2 : (9223372036854775807 < x9_2.size + ((rd_T37 x3_1 x12_2).f1).size) = False := eq_false (Nat.not_lt.2 c43)
                                have H' := Aside0.mk H
                                clear H
                                go_wp2_with (first | ((with_reducible refine gate_builtin (b := .append) (xs := #[.tmp 81, .tmp 84]) rfl ?_); at_builtin; refine Kd.R_append k37 (w0 := w) w.heap.size rfl (.tmp 81) (.tmp 84) 22 37 (.agg #[(.int .i64 0), (.string ⟨#[]⟩), (.int .i64 0)]) 32 rfl Try.underlying22 info37 rfl (by decide) (by omega) u8 x8_2 (⟨x11_2, (⟨#[]⟩ : ByteArray), 0⟩ : S37) [.int .i64 x11_2, .string (⟨#[]⟩ : ByteArray), .int .i64 0] (fun k_ => some k_ ≠ (.slice Ao12 x3_1.length co12 : Value).ownBlock) (fun _ => False) rfl rfl ?aP (fun _ hk => hk.elim) ?aF ?aO ?aB ?aS ?aL ?_; (case aP => exact k37_mkM _ _ _ (⟨x11_2, (⟨#[]⟩ : ByteArray), 0⟩ : S37)); (case aB => exact (by repeat (first | (with_reducible first | exact HB.out | apply below_alloc | apply pw_below_drewN | apply below_drew1) | exact HB.out))); (case aF => exact (fun k_ hk => Kd.fresh' (Kd.R_lt (by (with_reducible repeat (first | apply Kd.R_alloc | apply Kd.R_drewN | apply Kd.R_drew)); exact HO_3.out)) k_ hk)); (case aO => exact (by (with_reducible repeat (first | apply Kd.R_alloc | apply Kd.R_drewN | apply Kd.R_drew)); exact HO_8.out)); (case aS => exact (below_size (by repeat (first | (with_reducible first | exact HB.out | apply below_alloc | apply pw_below_drewN | apply below_drew1) | exact HB.out)))); (case aL => have := LMc40.out; omega); intro v297 w44 ho hb hg hat; rw [← Ny296.out] at ho; have n0_ := Aside0.mk (Kd.R_after (ok := (fun _ => True)) (by (with_reducible repeat (first | apply Kd.R_alloc | apply Kd.R_drewN | apply Kd.R_drew)); exact Kd.R_mono HO_3.out (fun _ hk => ⟨trivial, hk⟩)) hg hat); have n1_ := Aside0.mk (hb); have n2_ := Aside0.mk (ho); clear HO_3; clear HB; clear HO_8; have HO_3 := n0_; have HB := n1_; have HO298 := n2_; clear n0_ n1_ n2_; clear ho hb hg hat; have p299 : 0 ≤ (x12_2 : Int) := of_decide_eq_true (by first | (with_reducible assumption) | assumption); have q299 : x12_2 < (x3_1.length : Int) := of_decide_eq_true (by first | (with_reducible assumption) | assumption); obtain ⟨ad299, e299, hx299_0, hx299_1, hx299_2⟩ := at_T37 (Kd.R_reads' HO_3.out).2.2 x12_2 p299 q299; cases e299; replace p299 := eq_true p299; replace q299 := eq_true q299; have p300 : 0 ≤ (x12_2 : Int) := of_decide_eq_true (by first | (with_reducible assumption) | assumption); have q300 : x12_2 < (x3_1.length : Int) := of_decide_eq_true (by first | (with_reducible assumption) | assumption); obtain ⟨ad300, e300, hx300_0, hx300_1, hx300_2⟩ := at_T37 (Kd.R_reads' HO_3.out).2.2 x12_2 p300 q300; obtain rfl : ad299 = ad300 := (by injection e300); replace p300 := eq_true p300; replace q300 := eq_true q300))
                                go_roundg kj14
                                case measure => have := HK1.out; have := HK2.out; have := HJ14.out; omega
                                case rel => exact ⟨(y296), (x9_2 ++ ((rd_T37 x3_1 x12_2).f1)), (wrap64 (x10_2 + ((rd_T37 x3_1 x12_2).f2))), (0), (wrap64 (x12_2 + 1)), (by first | rfl | (simp; done) | (simp [*]; done)), (by first | rfl | (simp; done) | (simp [*]; done)), (by first | rfl | (simp; done) | (simp [*]; done)), (by first | rfl | (simp; done) | (simp [*]; done)), H', ⟨by have := HK1.out; have := HK2.out; have := HJ14.out; omega⟩, ⟨by (with_reducible repeat (first | apply Kd.R_alloc | apply Kd.R_drewN | apply Kd.R_drew)); exact Kd.R_mono HO_3.out (fun _ hk => hk.2)⟩, ⟨by (with_reducible repeat (first | apply Kd.R_alloc | apply Kd.R_drewN | apply Kd.R_drew)); exact HO298.out⟩, ⟨by repeat (first | (with_reducible first | exact HB.out | apply below_alloc | apply pw_below_drewN | apply below_drew1) | exact HB.out)⟩⟩
                              · rw [if_neg c43] at H
                                exact absurd H (by simp)
                            · rw [if_neg c42] at H
                              exact absurd H (by simp)
                          · rw [if_neg c41] at H
                            have c41b0 : decide (x12_2 < (x3_1.length : Int)) = false := decide_eq_false c41
                            clear c41
                            have H' := Aside0.mk H
                            clear H
                            go_wp2_with (first | ((with_reducible refine gate_builtin (b := .append) (xs := #[.tmp 81, .tmp 84]) rfl ?_); at_builtin; refine Kd.R_append k37 (w0 := w) w.heap.size rfl (.tmp 81) (.tmp 84) 22 37 (.agg #[(.int .i64 0), (.string ⟨#[]⟩), (.int .i64 0)]) 32 rfl Try.underlying22 info37 rfl (by decide) (by omega) u8 x8_2 (⟨x11_2, (⟨#[]⟩ : ByteArray), 0⟩ : S37) [.int .i64 x11_2, .string (⟨#[]⟩ : ByteArray), .int .i64 0] (fun k_ => some k_ ≠ (.slice Ao12 x3_1.length co12 : Value).ownBlock) (fun _ => False) rfl rfl ?aP (fun _ hk => hk.elim) ?aF ?aO ?aB ?aS ?aL ?_; (case aP => exact k37_mkM _ _ _ (⟨x11_2, (⟨#[]⟩ : ByteArray), 0⟩ : S37)); (case aB => exact (by repeat (first | (with_reducible first | exact HB.out | apply below_alloc | apply pw_below_drewN | apply below_drew1) | exact HB.out))); (case aF => exact (fun k_ hk => Kd.fresh' (Kd.R_lt (by (with_reducible repeat (first | apply Kd.R_alloc | apply Kd.R_drewN | apply Kd.R_drew)); exact HO_3.out)) k_ hk)); (case aO => exact (by (with_reducible repeat (first | apply Kd.R_alloc | apply Kd.R_drewN | apply Kd.R_drew)); exact HO_8.out)); (case aS => exact (below_size (by repeat (first | (with_reducible first | exact HB.out | apply below_alloc | apply pw_below_drewN | apply below_drew1) | exact HB.out)))); (case aL => have := LMc40.out; omega); intro v297 w45 ho hb hg hat; rw [← Ny296.out] at ho; have n0_ := Aside0.mk (Kd.R_after (ok := (fun _ => True)) (by (with_reducible repeat (first | apply Kd.R_alloc | apply Kd.R_drewN | apply Kd.R_drew)); exact Kd.R_mono HO_3.out (fun _ hk => ⟨trivial, hk⟩)) hg hat); have n1_ := Aside0.mk (hb); have n2_ := Aside0.mk (ho); clear HO_3; clear HB; clear HO_8; have HO_3 := n0_; have HB := n1_; have HO298 := n2_; clear n0_ n1_ n2_; clear ho hb hg hat))
                            go_roundg kj14
                            case measure => have := HK1.out; have := HK2.out; have := HJ14.out; omega
                            case rel => exact ⟨(y296), (x9_2), (x10_2), (0), (wrap64 (x12_2 + 1)), (by first | rfl | (simp; done) | (simp [*]; done)), (by first | rfl | (simp; done) | (simp [*]; done)), (by first | rfl | (simp; done) | (simp [*]; done)), (by first | rfl | (simp; done) | (simp [*]; done)), H', ⟨by have := HK1.out; have := HK2.out; have := HJ14.out; omega⟩, ⟨by (with_reducible repeat (first | apply Kd.R_alloc | apply Kd.R_drewN | apply Kd.R_drew)); exact Kd.R_mono HO_3.out (fun _ hk => hk.2)⟩, ⟨by (with_reducible repeat (first | apply Kd.R_alloc | apply Kd.R_drewN | apply Kd.R_drew)); exact HO298.out⟩, ⟨by repeat (first | (with_reducible first | exact HB.out | apply below_alloc | apply pw_below_drewN | apply below_drew1) | exact HB.out)⟩⟩
                        · rw [if_neg c40] at H
                          exact absurd H (by simp)
                      · rw [if_neg c39] at H
                        have c39b0 : decide (0 < x11_2) = false := decide_eq_false c39
                        clear c39
                        by_cases c46 : x12_2 < (x3_1.length : Int)
                        · rw [if_pos c46] at H
                          have c46b0 : decide (x12_2 < (x3_1.length : Int)) = true := decide_eq_true c46
                          clear c46
                          by_cases c47 : 0 ≤ x12_2
                          · rw [if_pos c47] at H
                            have c47b0 : decide (0 ≤ x12_2) = true := decide_eq_true c47
                            clear c47
                            by_cases c48 : x9_2.size + ((rd_T37 x3_1 x12_2).f1).size ≤ 9223372036854775807
                            · rw [if_pos c48] at H
                              have c48b0 := eq_true c48
                              have c48b1 : decide (x9_2.size + ((rd_T37 x3_1 x12_2).f1).size ≤ 9223372036854775807) = true := decide_eq_true c48
                              try have c48b2 : (9223372036854775807 < x9_2.size + ((rd_T37 x3_1 x12_2).f1).size) = False := eq_false (Nat.not_lt.2 c48)
                              have H' := Aside0.mk H
                              clear H
                              have p301 : 0 ≤ (x12_2 : Int) := of_decide_eq_true (by first | (with_reducible assumption) | assumption)
                              have q301 : x12_2 < (x3_1.length : Int) := of_decide_eq_true (by first | (with_reducible assumption) | assumption)
                              obtain ⟨ad301, e301, hx301_0, hx301_1, hx301_2⟩ := at_T37 (Kd.R_reads' HO_3.out).2.2 x12_2 p301 q301
                              cases e301
                              replace p301 := eq_true p301
                              replace q301 := eq_true q301
                              have p302 : 0 ≤ (x12_2 : Int) := of_decide_eq_true (by first | (with_reducible assumption) | assumption)
                              have q302 : x12_2 < (x3_1.length : Int) := of_decide_eq_true (by first | (with_reducible assumption) | assumption)
                              obtain ⟨ad302, e302, hx302_0, hx302_1, hx302_2⟩ := at_T37 (Kd.R_reads' HO_3.out).2.2 x12_2 p302 q302
                              obtain rfl : ad301 = ad302 := (by injection e302)
                              replace p302 := eq_true p302
                              replace q302 := eq_true q302
                              go_wp2
                              go_roundg kj14
                              case measure => have := HK1.out; have := HK2.out; have := HJ14.out; omega
                              case rel => exact ⟨(x8_2), (x9_2 ++ ((rd_T37 x3_1 x12_2).f1)), (wrap64 (x10_2 + ((rd_T37 x3_1 x12_2).f2))), (0), (wrap64 (x12_2 + 1)), (by first | rfl | (simp; done) | (simp [*]; done)), (by first | rfl | (simp; done) | (simp [*]; done)), (by first | rfl | (simp; done) | (simp [*]; done)), (by first | rfl | (simp; done) | (simp [*]; done)), H', ⟨by have := HK1.out; have := HK2.out; have := HJ14.out; omega⟩, ⟨by (with_reducible repeat (first | apply Kd.R_alloc | apply Kd.R_drewN | apply Kd.R_drew)); exact HO_3.out⟩, ⟨by (with_reducible repeat (first | apply Kd.R_alloc | apply Kd.R_drewN | apply Kd.R_drew)); exact HO_8.out⟩, ⟨by repeat (first | (with_reducible first | exact HB.out | apply below_alloc | apply pw_below_drewN | apply below_drew1) | exact HB.out)⟩⟩
                            · rw [if_neg c48] at H
                              exact absurd H (by simp)
                          · rw [if_neg c47] at H
                            exact absurd H (by simp)
                        · rw [if_neg c46] at H
                          have c46b0 : decide (x12_2 < (x3_1.length : Int)) = false := decide_eq_false c46
                          clear c46
                          have H' := Aside0.mk H
                          clear H
                          go_wp2
                          go_roundg kj14
                          case measure => have := HK1.out; have := HK2.out; have := HJ14.out; omega
                          case rel => exact ⟨(x8_2), (x9_2), (x10_2), (0), (wrap64 (x12_2 + 1)), (by first | rfl | (simp; done) | (simp [*]; done)), (by first | rfl | (simp; done) | (simp [*]; done)), (by first | rfl | (simp; done) | (simp [*]; done)), (by first | rfl | (simp; done) | (simp [*]; done)), H', ⟨by have := HK1.out; have := HK2.out; have := HJ14.out; omega⟩, ⟨by (with_reducible repeat (first | apply Kd.R_alloc | apply Kd.R_drewN | apply Kd.R_drew)); exact HO_3.out⟩, ⟨by (with_reducible repeat (first | apply Kd.R_alloc | apply Kd.R_drewN | apply Kd.R_drew)); exact HO_8.out⟩, ⟨by repeat (first | (with_reducible first | exact HB.out | apply below_alloc | apply pw_below_drewN | apply below_drew1) | exact HB.out)⟩⟩
              · rw [if_neg c14] at H
                have c14b0 : decide (x12_2 ≤ (x3_1.length : Int)) = false := decide_eq_false c14
                clear c14
                have HC49 := Aside0.mk H
                clear H
                go_upto_if 105 with (fail)
                go_cut [8] (fun v8 wc => ∃ (kq : Nat) (x8_48 : List (S37)), Aside0 (variorumref06_Norm.j3 kq x8_48 x10_2 = some r) ∧ Aside0 (kq ≤ k2) ∧ Aside0 (Kd.R k37 37 wc w.heap.size (fun _ => True) v8 x8_48) ∧ Aside0 (Below w.heap.size w wc))
                case first =>
                  have H := HC49.out
                  clear HC49
                  by_cases c50 : x9_2.toList = ([] : List UInt8)
                  · rw [if_pos c50] at H
                    have c50b0 : (x9_2.toList == ([] : List UInt8)) = true := beq_iff_eq.mpr c50
                    have c50e : x9_2.toList.isEmpty = true := List.isEmpty_iff.mpr c50
                    have c50b1 : (x9_2.toList != ([] : List UInt8)) = false := bne_eq_false_iff_eq.mpr c50
                    clear c50
                    (first | rw [c50b0] | (simp only [i64_w, i32_w]; rw [c50b0]) | (rw [c50e]; simp only [Bool.not_true, Bool.not_false]) | skip)
                    have H' := Aside0.mk H
                    clear H
                    go_wp2
                    go_meet
                    case rel => exact ⟨_, (x8_2), H', ⟨by have := HK1.out; have := HK2.out; first | omega | exact Nat.le_refl _⟩, ⟨by (with_reducible repeat (first | apply Kd.R_alloc | apply Kd.R_drewN | apply Kd.R_drew)); exact Kd.R_mono HO_8.out (fun _ hk => trivial)⟩, ⟨by repeat (first | (with_reducible first | exact HB.out | apply below_alloc | apply pw_below_drewN | apply below_drew1) | exact HB.out)⟩⟩
                  · rw [if_neg c50] at H
                    have c50b0 : (x9_2.toList == ([] : List UInt8)) = false := beq_eq_false_iff_ne.mpr c50
                    have c50e : x9_2.toList.isEmpty = false := List.isEmpty_eq_false_iff.mpr c50
                    have c50b1 : (x9_2.toList != ([] : List UInt8)) = true := bne_iff_ne.mpr c50
                    (first | rw [c50b0] | (simp only [i64_w, i32_w]; rw [c50b0]) | (rw [c50e]; simp only [Bool.not_true, Bool.not_false]) | skip)
                    by_cases c51 : x8_2.length < 4398046511104
                    · rw [if_pos c51] at H
                      have LMc51 := Aside0.mk c51
                      clear c51
                      obtain ⟨y303, hy303⟩ : ∃ y_ : List (S37), y_ = (x8_2 ++ [(⟨0, x9_2, 0⟩ : S37)]) := ⟨_, rfl⟩
                      replace H : (variorumref06_Norm.j3 k2 y303 x10_2) = some r := by first | (rw [hy303]; with_reducible exact H) | (have H2_ := (Option.bind_some _ _).symm.trans H; rw [hy303]; with_reducible exact H2_) | (have H2_ := (Option.bind_some _ _).symm.trans H; with_reducible exact H2_) | with_reducible exact H | (rw [hy303]; exact H) | exact H
                      have Ny303 := Aside0.mk hy303
                      clear hy303
                      have H' := Aside0.mk H
                      clear H
                      go_wp2_with (first | ((with_reducible refine gate_builtin (b := .append) (xs := #[.tmp 106, .tmp 109]) rfl ?_); at_builtin; refine Kd.R_append k37 (w0 := w) w.heap.size rfl (.tmp 106) (.tmp 109) 22 37 (.agg #[(.int .i64 0), (.string ⟨#[]⟩), (.int .i64 0)]) 32 rfl Try.underlying22 info37 rfl (by decide) (by omega) u8 x8_2 (⟨0, x9_2, 0⟩ : S37) [.int .i64 0, .string x9_2, .int .i64 0] (fun k_ => some k_ ≠ (.slice Ao12 x3_1.length co12 : Value).ownBlock) (fun _ => False) rfl rfl ?aP (fun _ hk => hk.elim) ?aF ?aO ?aB ?aS ?aL ?_; (case aP => exact k37_mkM _ _ _ (⟨0, x9_2, 0⟩ : S37)); (case aB => exact (by repeat (first | (with_reducible first | exact HB.out | apply below_alloc | apply pw_below_drewN | apply below_drew1) | exact HB.out))); (case aF => exact (fun k_ hk => Kd.fresh' (Kd.R_lt (by (with_reducible repeat (first | apply Kd.R_alloc | apply Kd.R_drewN | apply Kd.R_drew)); exact HO_3.out)) k_ hk)); (case aO => exact (by (with_reducible repeat (first | apply Kd.R_alloc | apply Kd.R_drewN | apply Kd.R_drew)); exact HO_8.out)); (case aS => exact (below_size (by repeat (first | (with_reducible first | exact HB.out | apply below_alloc | apply pw_below_drewN | apply below_drew1) | exact HB.out)))); (case aL => have := LMc51.out; omega); intro v304 w52 ho hb hg hat; rw [← Ny303.out] at ho; have n0_ := Aside0.mk (Kd.R_after (ok := (fun _ => True)) (by (with_reducible repeat (first | apply Kd.R_alloc | apply Kd.R_drewN | apply Kd.R_drew)); exact Kd.R_mono HO_3.out (fun _ hk => ⟨trivial, hk⟩)) hg hat); have n1_ := Aside0.mk (hb); have n2_ := Aside0.mk (ho); clear HO_3; clear HB; clear HO_8; have HO_3 := n0_; have HB := n1_; have HO305 := n2_; clear n0_ n1_ n2_; clear ho hb hg hat))
                      go_meet
                      case rel => exact ⟨_, (y303), H', ⟨by have := HK1.out; have := HK2.out; first | omega | exact Nat.le_refl _⟩, ⟨by (with_reducible repeat (first | apply Kd.R_alloc | apply Kd.R_drewN | apply Kd.R_drew)); exact Kd.R_mono HO305.out (fun _ hk => trivial)⟩, ⟨by repeat (first | (with_reducible first | exact HB.out | apply below_alloc | apply pw_below_drewN | apply below_drew1) | exact HB.out)⟩⟩
                    · rw [if_neg c51] at H
                      exact absurd H (by simp)
                case rest =>
                  clear HC49
                  try clear c1
                  try clear c2
                  try clear c2b0
                  try clear p2
                  try clear q2
                  try clear hx2
                  try clear c3
                  try clear c3b0
                  try clear p3
                  try clear q3
                  try clear hx3
                  try clear c4
                  try clear c5
                  try clear c5b0
                  try clear c6
                  try clear p6
                  try clear c11
                  try clear c14
                  try clear c14b0
                  try clear c16
                  try clear c16b0
                  try clear c17
                  try clear c17b0
                  try clear c20
                  try clear c21
                  try clear c21b0
                  try clear c21b1
                  try clear c22
                  try clear c22b0
                  try clear c23
                  try clear c24
                  try clear c24b0
                  try clear c25
                  try clear c25b0
                  try clear c27
                  try clear c27b0
                  try clear p27
                  try clear q27
                  try clear hx27
                  try clear c28
                  try clear c28b0
                  try clear p28
                  try clear q28
                  try clear hx28
                  try clear c29
                  try clear p29
                  try clear q29
                  try clear hx29
                  try clear c30
                  try clear c30b0
                  try clear p30
                  try clear q30
                  try clear hx30
                  try clear c31
                  try clear c32
                  try clear c32b0
                  try clear c33
                  try clear c33b0
                  try clear c36
                  try clear c36b0
                  try clear c37
                  try clear c37b0
                  try clear c39
                  try clear c39b0
                  try clear c40
                  try clear c41
                  try clear c41b0
                  try clear c42
                  try clear c42b0
                  try clear c43
                  try clear c43b0
                  try clear c43b1
                  try clear c43b2
                  try clear c46
                  try clear c46b0
                  try clear c47
                  try clear c47b0
                  try clear c48
                  try clear c48b0
                  try clear c48b1
                  try clear c48b2
                  try clear c50
                  try clear c50b0
                  try clear c50b1
                  try clear c51
                  try clear c52
                  try clear hx272_0
                  try clear hx272_1
                  try clear hx272_2
                  try clear hx274_0
                  try clear hx274_1
                  try clear hx274_2
                  try clear hx281_0
                  try clear hx281_1
                  try clear hx281_2
                  try clear hx286_0
                  try clear hx286_1
                  try clear hx286_2
                  try clear hx287_0
                  try clear hx287_1
                  try clear hx287_2
                  try clear hx294_0
                  try clear hx294_1
                  try clear hx294_2
                  try clear hx295_0
                  try clear hx295_1
                  try clear hx295_2
                  try clear hx299_0
                  try clear hx299_1
                  try clear hx299_2
                  try clear hx300_0
                  try clear hx300_1
                  try clear hx300_2
                  try clear hx301_0
                  try clear hx301_1
                  try clear hx301_2
                  try clear hx302_0
                  try clear hx302_1
                  try clear hx302_2
                  try clear p2
                  try clear p272
                  try clear p274
                  try clear p281
                  try clear p286
                  try clear p287
                  try clear p294
                  try clear p295
                  try clear p299
                  try clear p300
                  try clear p301
                  try clear p302
                  try clear p6
                  try clear q2
                  try clear q272
                  try clear q274
                  try clear q281
                  try clear q286
                  try clear q287
                  try clear q294
                  try clear q295
                  try clear q299
                  try clear q300
                  try clear q301
                  try clear q302
                  obtain ⟨kq, x8_48, HA, HJ48, HO_8, HB⟩ := hcut
                  cases kq with
                  | zero => exact absurd HA.out (by simp [variorumref06_Norm.j3])
                  | succ kj48 =>
                    have H := HA.out
                    clear HA
                    simp only [variorumref06_Norm.j3] at H
                    by_cases c53 : x10_2 > 0
                    · rw [if_pos c53] at H
                      have c53b0 : decide (0 < x10_2) = true := decide_eq_true c53
                      clear c53
                      by_cases c54 : x8_48.length < 4398046511104
                      · rw [if_pos c54] at H
                        have LMc54 := Aside0.mk c54
                        clear c54
                        obtain ⟨y306, hy306⟩ : ∃ y_ : List (S37), y_ = (x8_48 ++ [(⟨0, (⟨#[]⟩ : ByteArray), x10_2⟩ : S37)]) := ⟨_, rfl⟩
                        replace H : ((variorumref06_Good.f y306).bind fun t309 => (if t309 = true then (some y306) else (some ([] : List (S37))))) = some r := by first | (rw [hy306]; with_reducible exact H) | (have H2_ := (Option.bind_some _ _).symm.trans H; rw [hy306]; with_reducible exact H2_) | (have H2_ := (Option.bind_some _ _).symm.trans H; with_reducible exact H2_) | with_reducible exact H | (rw [hy306]; exact H) | exact H
                        have Ny306 := Aside0.mk hy306
                        clear hy306
                        replace H := Option.bind_eq_some_iff.mp H
                        obtain ⟨t309, A550, H⟩ := H
                        replace H : (if t309 = true then (some y306) else (some ([] : List (S37)))) = some r := H
                        have A55 := Aside0.mk A550
                        clear A550
                        by_cases c56 : t309 = true
                        · subst c56
                          have H1 : (some y306) = some r := by rw [if_pos rfl] at H; exact H
                          clear H
                          have H := H1
                          clear H1
                          obtain rfl := Option.some.inj H
                          go_wp2_with (first | ((with_reducible refine gate_builtin (b := .append) (xs := #[.tmp 113, .tmp 116]) rfl ?_); at_builtin; refine Kd.R_append k37 (w0 := w) w.heap.size rfl (.tmp 113) (.tmp 116) 22 37 (.agg #[(.int .i64 0), (.string ⟨#[]⟩), (.int .i64 0)]) 32 rfl Try.underlying22 info37 rfl (by decide) (by omega) u8 x8_48 (⟨0, (⟨#[]⟩ : ByteArray), x10_2⟩ : S37) [.int .i64 0, .string (⟨#[]⟩ : ByteArray), .int .i64 x10_2] (fun _ => True) (fun _ => False) rfl rfl ?aP (fun _ hk => hk.elim) ?aF ?aO ?aB ?aS ?aL ?_; (case aP => exact k37_mkM _ _ _ (⟨0, (⟨#[]⟩ : ByteArray), x10_2⟩ : S37)); (case aB => exact (by repeat (first | (with_reducible first | exact HB.out | apply below_alloc | apply pw_below_drewN | apply below_drew1) | exact HB.out))); (case aF => exact (fun _ _ => trivial)); (case aO => exact (by (with_reducible repeat (first | apply Kd.R_alloc | apply Kd.R_drewN | apply Kd.R_drew)); exact HO_8.out)); (case aS => exact (below_size (by repeat (first | (with_reducible first | exact HB.out | apply below_alloc | apply pw_below_drewN | apply below_drew1) | exact HB.out)))); (case aL => have := LMc54.out; omega); intro v307 w57 ho hb hg hat; rw [← Ny306.out] at ho; have n0_ := Aside0.mk (hb); have n1_ := Aside0.mk (ho); clear HB; clear HO_8; have HB := n0_; have HO308 := n1_; clear n0_ n1_; clear ho hb hg hat; obtain ⟨Ao58, co58, eo58⟩ := Kd.R_slice HO308.out; subst eo58) | ((with_reducible refine gate_callee (f := 18) rfl ?_); refine goesL_ (some 119) rfl rfl Try.func18 (by kernel_rfl) rfl #[.slice Ao58 y306.length co58] rfl (by (try simp only [List.map_toArray, List.map_cons, List.map_nil]); first | done | rfl | (simp only [List.length_drop, List.length_take]; rfl)) ?_; (with_reducible refine (variorumref06_Good.calls _ _ y306 true _ ?side1 ?side2 A55.out).mono ?_); (case side1 => repeat (first | exact (Kd.R_reads' HO308.out).2.2 | (with_reducible refine Kd.C_alloc ?_ _) | (with_reducible refine Kd.C_drewN ?_ _) | (with_reducible refine Kd.C_drew ?_))); (case side2 => exact (Kd.R_reads' HO308.out).2.1); rintro e w59 ⟨rfl, hb⟩; refine ⟨_, rfl, ?_⟩; have n0_ := Aside0.mk (Kd.R_below (by (with_reducible repeat (first | apply Kd.R_alloc | apply Kd.R_drewN | apply Kd.R_drew)); exact HO308.out) hb); have n1_ := Aside0.mk (below_step (by repeat (first | (with_reducible first | exact HB.out | apply below_alloc | apply pw_below_drewN | apply below_drew1) | exact HB.out)) hb); clear HO308; clear HB; have HO308 := n0_; have HB := n1_; clear n0_ n1_; (try clear hb); (try clear hb2); (try clear hk); (try clear hi)))
                          go_ret
                          exact ⟨_, by first | rfl | (simp [errW_none, errW_some] <;> rfl) | (simp [*, errW_none, errW_some] <;> rfl), by (with_reducible repeat (first | apply Kd.R_alloc | apply Kd.R_drewN | apply Kd.R_drew)); exact HO308.out, by repeat (first | (with_reducible first | exact HB.out | apply below_alloc | apply pw_below_drewN | apply below_drew1) | exact HB.out)⟩
                        · replace c56 := Bool.eq_false_iff.mpr c56
                          subst c56
                          have H1 : (some ([] : List (S37))) = some r := by rw [if_neg (show ¬ (false = true) by decide)] at H; exact H
                          clear H
                          have H := H1
                          clear H1
                          obtain rfl := Option.some.inj H
                          go_wp2_with (first | ((with_reducible refine gate_builtin (b := .append) (xs := #[.tmp 113, .tmp 116]) rfl ?_); at_builtin; refine Kd.R_append k37 (w0 := w) w.heap.size rfl (.tmp 113) (.tmp 116) 22 37 (.agg #[(.int .i64 0), (.string ⟨#[]⟩), (.int .i64 0)]) 32 rfl Try.underlying22 info37 rfl (by decide) (by omega) u8 x8_48 (⟨0, (⟨#[]⟩ : ByteArray), x10_2⟩ : S37) [.int .i64 0, .string (⟨#[]⟩ : ByteArray), .int .i64 x10_2] (fun _ => True) (fun _ => False) rfl rfl ?aP (fun _ hk => hk.elim) ?aF ?aO ?aB ?aS ?aL ?_; (case aP => exact k37_mkM _ _ _ (⟨0, (⟨#[]⟩ : ByteArray), x10_2⟩ : S37)); (case aB => exact (by repeat (first | (with_reducible first | exact HB.out | apply below_alloc | apply pw_below_drewN | apply below_drew1) | exact HB.out))); (case aF => exact (fun _ _ => trivial)); (case aO => exact (by (with_reducible repeat (first | apply Kd.R_alloc | apply Kd.R_drewN | apply Kd.R_drew)); exact HO_8.out)); (case aS => exact (below_size (by repeat (first | (with_reducible first | exact HB.out | apply below_alloc | apply pw_below_drewN | apply below_drew1) | exact HB.out)))); (case aL => have := LMc54.out; omega); intro v307 w60 ho hb hg hat; rw [← Ny306.out] at ho; have n0_ := Aside0.mk (hb); have n1_ := Aside0.mk (ho); clear HB; clear HO_8; have HB := n0_; have HO308 := n1_; clear n0_ n1_; clear ho hb hg hat; obtain ⟨Ao61, co61, eo61⟩ := Kd.R_slice HO308.out; subst eo61) | ((with_reducible refine gate_callee (f := 18) rfl ?_); refine goesL_ (some 119) rfl rfl Try.func18 (by kernel_rfl) rfl #[.slice Ao61 y306.length co61] rfl (by (try simp only [List.map_toArray, List.map_cons, List.map_nil]); first | done | rfl | (simp only [List.length_drop, List.length_take]; rfl)) ?_; (with_reducible refine (variorumref06_Good.calls _ _ y306 false _ ?side1 ?side2 A55.out).mono ?_); (case side1 => repeat (first | exact (Kd.R_reads' HO308.out).2.2 | (with_reducible refine Kd.C_alloc ?_ _) | (with_reducible refine Kd.C_drewN ?_ _) | (with_reducible refine Kd.C_drew ?_))); (case side2 => exact (Kd.R_reads' HO308.out).2.1); rintro e w62 ⟨rfl, hb⟩; refine ⟨_, rfl, ?_⟩; have n0_ := Aside0.mk (Kd.R_below (by (with_reducible repeat (first | apply Kd.R_alloc | apply Kd.R_drewN | apply Kd.R_drew)); exact HO308.out) hb); have n1_ := Aside0.mk (below_step (by repeat (first | (with_reducible first | exact HB.out | apply below_alloc | apply pw_below_drewN | apply below_drew1) | exact HB.out)) hb); clear HO308; clear HB; have HO308 := n0_; have HB := n1_; clear n0_ n1_; (try clear hb); (try clear hb2); (try clear hk); (try clear hi)))
                          go_ret
                          exact ⟨_, by first | rfl | (simp [errW_none, errW_some] <;> rfl) | (simp [*, errW_none, errW_some] <;> rfl), by first | exact Kd.R_nil _ _ _ _ _ | exact Kd.N_nil _ _ _ _ _ | exact Kd.V_nil _ _ _ _ _ | exact Kd.Q_nil _ _ _ _ _ | exact Kd.S_nil _ _ _ _ _, by repeat (first | (with_reducible first | exact HB.out | apply below_alloc | apply pw_below_drewN | apply below_drew1) | exact HB.out)⟩
                      · rw [if_neg c54] at H
                        exact absurd H (by simp)
                    · rw [if_neg c53] at H
                      have c53b0 : decide (0 < x10_2) = false := decide_eq_false c53
                      clear c53
                      replace H := Option.bind_eq_some_iff.mp H
                      obtain ⟨t310, A630, H⟩ := H
                      replace H : (if t310 = true then (some x8_48) else (some ([] : List (S37)))) = some r := H
                      have A63 := Aside0.mk A630
                      clear A630
                      by_cases c64 : t310 = true
                      · subst c64
                        have H1 : (some x8_48) = some r := by rw [if_pos rfl] at H; exact H
                        clear H
                        have H := H1
                        clear H1
                        obtain rfl := Option.some.inj H
                        obtain ⟨Ao65, co65, eo65⟩ := Kd.R_slice HO_8.out
                        subst eo65
                        go_wp2_with (first | ((with_reducible refine gate_callee (f := 18) rfl ?_); refine goesL_ (some 119) rfl rfl Try.func18 (by kernel_rfl) rfl #[.slice Ao65 x8_48.length co65] rfl (by (try simp only [List.map_toArray, List.map_cons, List.map_nil]); first | done | rfl | (simp only [List.length_drop, List.length_take]; rfl)) ?_; (with_reducible refine (variorumref06_Good.calls _ _ x8_48 true _ ?side1 ?side2 A63.out).mono ?_); (case side1 => repeat (first | exact (Kd.R_reads' HO_8.out).2.2 | (with_reducible refine Kd.C_alloc ?_ _) | (with_reducible refine Kd.C_drewN ?_ _) | (with_reducible refine Kd.C_drew ?_))); (case side2 => exact (Kd.R_reads' HO_8.out).2.1); rintro e w66 ⟨rfl, hb⟩; refine ⟨_, rfl, ?_⟩; have n0_ := Aside0.mk (Kd.R_below (by (with_reducible repeat (first | apply Kd.R_alloc | apply Kd.R_drewN | apply Kd.R_drew)); exact HO_8.out) hb); have n1_ := Aside0.mk (below_step (by repeat (first | (with_reducible first | exact HB.out | apply below_alloc | apply pw_below_drewN | apply below_drew1) | exact HB.out)) hb); clear HO_8; clear HB; have HO_8 := n0_; have HB := n1_; clear n0_ n1_; (try clear hb); (try clear hb2); (try clear hk); (try clear hi)))
                        go_ret
                        exact ⟨_, by first | rfl | (simp [errW_none, errW_some] <;> rfl) | (simp [*, errW_none, errW_some] <;> rfl), by (with_reducible repeat (first | apply Kd.R_alloc | apply Kd.R_drewN | apply Kd.R_drew)); exact HO_8.out, by repeat (first | (with_reducible first | exact HB.out | apply below_alloc | apply pw_below_drewN | apply below_drew1) | exact HB.out)⟩
                      · replace c64 := Bool.eq_false_iff.mpr c64
                        subst c64
                        have H1 : (some ([] : List (S37))) = some r := by rw [if_neg (show ¬ (false = true) by decide)] at H; exact H
                        clear H
                        have H := H1
                        clear H1
                        obtain rfl := Option.some.inj H
                        obtain ⟨Ao67, co67, eo67⟩ := Kd.R_slice HO_8.out
                        subst eo67
                        go_wp2_with (first | ((with_reducible refine gate_callee (f := 18) rfl ?_); refine goesL_ (some 119) rfl rfl Try.func18 (by kernel_rfl) rfl #[.slice Ao67 x8_48.length co67] rfl (by (try simp only [List.map_toArray, List.map_cons, List.map_nil]); first | done | rfl | (simp only [List.length_drop, List.length_take]; rfl)) ?_; (with_reducible refine (variorumref06_Good.calls _ _ x8_48 false _ ?side1 ?side2 A63.out).mono ?_); (case side1 => repeat (first | exact (Kd.R_reads' HO_8.out).2.2 | (with_reducible refine Kd.C_alloc ?_ _) | (with_reducible refine Kd.C_drewN ?_ _) | (with_reducible refine Kd.C_drew ?_))); (case side2 => exact (Kd.R_reads' HO_8.out).2.1); rintro e w68 ⟨rfl, hb⟩; refine ⟨_, rfl, ?_⟩; have n0_ := Aside0.mk (Kd.R_below (by (with_reducible repeat (first | apply Kd.R_alloc | apply Kd.R_drewN | apply Kd.R_drew)); exact HO_8.out) hb); have n1_ := Aside0.mk (below_step (by repeat (first | (with_reducible first | exact HB.out | apply below_alloc | apply pw_below_drewN | apply below_drew1) | exact HB.out)) hb); clear HO_8; clear HB; have HO_8 := n0_; have HB := n1_; clear n0_ n1_; (try clear hb); (try clear hb2); (try clear hk); (try clear hi)))
                        go_ret
                        exact ⟨_, by first | rfl | (simp [errW_none, errW_some] <;> rfl) | (simp [*, errW_none, errW_some] <;> rfl), by first | exact Kd.R_nil _ _ _ _ _ | exact Kd.N_nil _ _ _ _ _ | exact Kd.V_nil _ _ _ _ _ | exact Kd.Q_nil _ _ _ _ _ | exact Kd.S_nil _ _ _ _ _, by repeat (first | (with_reducible first | exact HB.out | apply below_alloc | apply pw_below_drewN | apply below_drew1) | exact HB.out)⟩
        · replace c11 := Bool.eq_false_iff.mpr c11
          subst c11
          have H1 : (some ([] : List (S37))) = some r := by rw [if_neg (show ¬ (false = true) by decide)] at H; exact H
          clear H
          have H := H1
          clear H1
          obtain rfl := Option.some.inj H
          obtain ⟨Ao69, co69, eo69⟩ := Kd.R_slice HO_3.out
          subst eo69
          go_wp2_with (first | ((with_reducible refine gate_callee (f := 53) rfl ?_); refine goesL_ (some 34) rfl rfl Try.func53 (by kernel_rfl) rfl #[.slice Ao69 x3_1.length co69] rfl (by (try simp only [List.map_toArray, List.map_cons, List.map_nil]); first | done | rfl | (simp only [List.length_drop, List.length_take]; rfl)) ?_; (with_reducible refine (variorumref06_sums.calls k1 _ _ x3_1 t278 t279 false _ ?side1 ?side2 A10.out).mono ?_); (case side1 => repeat (first | exact (Kd.R_reads' HO_3.out).2.2 | (with_reducible refine Kd.C_alloc ?_ _) | (with_reducible refine Kd.C_drewN ?_ _) | (with_reducible refine Kd.C_drew ?_))); (case side2 => exact (Kd.R_reads' HO_3.out).2.1); rintro e w70 ⟨rfl, hb⟩; refine ⟨_, rfl, ?_⟩; have n0_ := Aside0.mk (Kd.R_below (by (with_reducible repeat (first | apply Kd.R_alloc | apply Kd.R_drewN | apply Kd.R_drew)); exact HO_3.out) hb); have n1_ := Aside0.mk (below_step (by repeat (first | (with_reducible first | exact HB.out | apply below_alloc | apply pw_below_drewN | apply below_drew1) | exact HB.out)) hb); clear HO_3; clear HB; have HO_3 := n0_; have HB := n1_; clear n0_ n1_; (try clear hb); (try clear hb2); (try clear hk); (try clear hi)))
          go_ret
          exact ⟨_, by first | rfl | (simp [errW_none, errW_some] <;> rfl) | (simp [*, errW_none, errW_some] <;> rfl), by first | exact Kd.R_nil _ _ _ _ _ | exact Kd.N_nil _ _ _ _ _ | exact Kd.V_nil _ _ _ _ _ | exact Kd.Q_nil _ _ _ _ _ | exact Kd.S_nil _ _ _ _ _, by repeat (first | (with_reducible first | exact HB.out | apply below_alloc | apply pw_below_drewN | apply below_drew1) | exact HB.out)⟩

end Go.Proofs.Ythocalfgeaclgaa.P
end
-- MERGED YthocalfgeaclgaaPvariorumref06Insert
section
-- Written by wip/myprint.py of this session, over the kit's print.py: a Lean function for each Go function, and the proof that the code comes to it.
namespace Go.Proofs.Ythocalfgeaclgaa.P
open Go.RowKit Go.Proofs.YthocalfgeaclgaaW.PrintWords Go.Proofs.YthocalfgeaclgaaW.PrintLast Go.Proofs.YthocalfgeaclgaaW.PrintMore
attribute [local go_sem] max2_int min2_int max_two min_two max_three min_three max_four min_four   -- for this text's walks alone
set_option linter.unusedVariables false
set_option linter.unusedSimpArgs false

/-! ### variorumref06_Insert: function 33 -/
mutual
def variorumref06_Insert.j0 : Nat → Int → Int → ByteArray → Bool → Option ((List (S37)) × Int)
  | 0, _, _, _, _ => none
  | k + 1, x0, x1, x2, x13 => if x13 = true then (some (([] : List (S37)), 2)) else (if x1 < 0 then (variorumref06_Insert.j1 k x0 x1 x2 true) else (variorumref06_Insert.j1 k x0 x1 x2 (decide (x1 > x0))))
def variorumref06_Insert.j1 : Nat → Int → Int → ByteArray → Bool → Option ((List (S37)) × Int)
  | 0, _, _, _, _ => none
  | k + 1, x0, x1, x2, x20 => if x20 = true then (some (([] : List (S37)), 30)) else (if (x2.size : Int) > (wrap64 (16777216 - x0)) then (some (([] : List (S37)), 31)) else ((variorumref06_Norm.f k (([(⟨x1, (⟨#[]⟩ : ByteArray), 0⟩ : S37), (⟨0, x2, 0⟩ : S37), (⟨wrap64 (x0 - x1), (⟨#[]⟩ : ByteArray), 0⟩ : S37)] : List (S37)))).bind fun t314 => (some (t314, 0))))
end
def variorumref06_Insert.f (k : Nat) (a0 : Int) (a1 : Int) (a2 : ByteArray) : Option ((List (S37)) × Int) := if a0 < 0 then (variorumref06_Insert.j0 k a0 a1 a2 true) else (variorumref06_Insert.j0 k a0 a1 a2 (decide (a0 > 16777216)))
theorem variorumref06_Insert.mono_l : ∀ k, (∀ y0 y1 y2 y3, LeO (variorumref06_Insert.j0 k y0 y1 y2 y3) (variorumref06_Insert.j0 (k + 1) y0 y1 y2 y3)) ∧ (∀ y0 y1 y2 y3, LeO (variorumref06_Insert.j1 k y0 y1 y2 y3) (variorumref06_Insert.j1 (k + 1) y0 y1 y2 y3))
  | 0 => ⟨fun _ _ _ _ r h => by simp [variorumref06_Insert.j0] at h, fun _ _ _ _ r h => by simp [variorumref06_Insert.j1] at h⟩
  | k + 1 => by
    obtain ⟨ih0, ih1⟩ := variorumref06_Insert.mono_l k
    refine ⟨?_, ?_⟩
    · intro y0 y1 y2 y3
      unfold variorumref06_Insert.j0
      repeat' first
      | (with_reducible exact ih0 _ _ _ _)
      | (with_reducible exact ih1 _ _ _ _)
      | (with_reducible exact variorumref06_Norm.mono _ _)
      | (with_reducible exact LeO.refl _)
      | (with_reducible exact LeO.none _)
      | (with_reducible refine LeO.ite ?_ ?_)
      | (with_reducible refine LeO.bind ?_ (fun _ => ?_))
      | exact ih0 _ _ _ _
      | exact ih1 _ _ _ _
      | exact variorumref06_Norm.mono _ _
      | exact LeO.none _
      | refine LeO.ite ?_ ?_
      | refine LeO.bind ?_ (fun _ => ?_)
    · intro y0 y1 y2 y3
      unfold variorumref06_Insert.j1
      repeat' first
      | (with_reducible exact ih0 _ _ _ _)
      | (with_reducible exact ih1 _ _ _ _)
      | (with_reducible exact variorumref06_Norm.mono _ _)
      | (with_reducible exact LeO.refl _)
      | (with_reducible exact LeO.none _)
      | (with_reducible refine LeO.ite ?_ ?_)
      | (with_reducible refine LeO.bind ?_ (fun _ => ?_))
      | exact ih0 _ _ _ _
      | exact ih1 _ _ _ _
      | exact variorumref06_Norm.mono _ _
      | exact LeO.none _
      | refine LeO.ite ?_ ?_
      | refine LeO.bind ?_ (fun _ => ?_)
theorem variorumref06_Insert.mono : ∀ a0 a1 a2 k, LeO (variorumref06_Insert.f k a0 a1 a2) (variorumref06_Insert.f (k + 1) a0 a1 a2) := by
  intro a0 a1 a2 k
  obtain ⟨ih0, ih1⟩ := variorumref06_Insert.mono_l k
  unfold variorumref06_Insert.f
  repeat' first
      | (with_reducible exact ih0 _ _ _ _)
      | (with_reducible exact ih1 _ _ _ _)
      | (with_reducible exact variorumref06_Norm.mono _ _)
      | (with_reducible exact LeO.refl _)
      | (with_reducible exact LeO.none _)
      | (with_reducible refine LeO.ite ?_ ?_)
      | (with_reducible refine LeO.bind ?_ (fun _ => ?_))
      | exact ih0 _ _ _ _
      | exact ih1 _ _ _ _
      | exact variorumref06_Norm.mono _ _
      | exact LeO.none _
      | refine LeO.ite ?_ ?_
      | refine LeO.bind ?_ (fun _ => ?_)
set_option maxHeartbeats 8000000 in
set_option maxRecDepth 100000 in
theorem variorumref06_Insert.calls (k : Nat) (a0 : Int) (a1 : Int) (a2 : ByteArray) (r1 : List (S37)) (r2 : Int) (w : World) (h : variorumref06_Insert.f k a0 a1 a2 = some (r1, r2)) :
    Calls Try.prog 33 #[.int .i64 a0, .int .i64 a1, .string a2] w fun e w' => ∃ v0_ : Value, e = .returned (.tuple #[v0_, .int .i64 r2]) ∧ Kd.R k37 37 w' w.heap.size (fun _ => True) v0_ r1 ∧ Below w.heap.size w w' := by
  have hu37 := Try.underlying37
  have HB := Aside0.mk (Below.refl w.heap.size w)
  have H : (if a0 < 0 then (variorumref06_Insert.j0 k a0 a1 a2 true) else (variorumref06_Insert.j0 k a0 a1 a2 (decide (a0 > 16777216)))) = some (r1, r2) := h
  clear h
  have HC4 := Aside0.mk H
  clear H
  go_enter Try.func33, Try.ntmps33
  go_upto_region 1 with (fail)
  go_cut [13] (fun v13 wc => ∃ (kq : Nat) (x13_3 : Bool), v13 = .bool x13_3 ∧ Aside0 (variorumref06_Insert.j0 kq a0 a1 a2 x13_3 = some (r1, r2)) ∧ Aside0 (kq ≤ k) ∧ Aside0 (Below w.heap.size w wc))
  case first =>
    have H := HC4.out
    clear HC4
    by_cases c5 : a0 < 0
    · rw [if_pos c5] at H
      have c5b0 : decide (a0 < 0) = true := decide_eq_true c5
      clear c5
      (first | rw [c5b0] | (simp only [i64_w, i32_w]; rw [c5b0]) | skip)
      have H' := Aside0.mk H
      clear H
      go_wp2
      go_meet
      case rel => exact ⟨_, (true), (by first | rfl | (simp; done) | (simp [*]; done)), H', ⟨by first | omega | exact Nat.le_refl _⟩, ⟨by repeat (first | (with_reducible first | exact HB.out | apply below_alloc | apply pw_below_drewN | apply below_drew1) | exact HB.out)⟩⟩
    · rw [if_neg c5] at H
      have c5b0 : decide (a0 < 0) = false := decide_eq_false c5
      clear c5
      (first | rw [c5b0] | (simp only [i64_w, i32_w]; rw [c5b0]) | skip)
      have H' := Aside0.mk H
      clear H
      go_wp2
      go_meet
      case rel => exact ⟨_, (decide (a0 > 16777216)), (by first | rfl | (simp; done) | (simp [*]; done)), H', ⟨by first | omega | exact Nat.le_refl _⟩, ⟨by repeat (first | (with_reducible first | exact HB.out | apply below_alloc | apply pw_below_drewN | apply below_drew1) | exact HB.out)⟩⟩
  case rest =>
    clear HC4
    try clear p2
    try clear c3
    try clear c5
    try clear c5b0
    obtain ⟨kq, x13_3, rfl, HA, HJ3, HB⟩ := hcut
    cases kq with
    | zero => exact absurd HA.out (by simp [variorumref06_Insert.j0])
    | succ kj3 =>
      have H := HA.out
      clear HA
      simp only [variorumref06_Insert.j0] at H
      by_cases c6 : x13_3 = true
      · subst c6
        have H1 : (some (([] : List (S37)), 2)) = some (r1, r2) := by rw [if_pos rfl] at H; exact H
        clear H
        have H := H1
        clear H1
        simp only [Option.some.injEq, Prod.mk.injEq] at H
        obtain ⟨rfl, rfl⟩ := H
        go_wp2
        go_ret2
        exact ⟨_, by first | rfl | (simp [errW_none, errW_some] <;> rfl) | (simp [*, errW_none, errW_some] <;> rfl), by first | exact Kd.R_nil _ _ _ _ _ | exact Kd.N_nil _ _ _ _ _ | exact Kd.V_nil _ _ _ _ _ | exact Kd.Q_nil _ _ _ _ _ | exact Kd.S_nil _ _ _ _ _, by repeat (first | (with_reducible first | exact HB.out | apply below_alloc | apply pw_below_drewN | apply below_drew1) | exact HB.out)⟩
      · replace c6 := Bool.eq_false_iff.mpr c6
        subst c6
        have H1 : (if a1 < 0 then (variorumref06_Insert.j1 kj3 a0 a1 a2 true) else (variorumref06_Insert.j1 kj3 a0 a1 a2 (decide (a1 > a0)))) = some (r1, r2) := by rw [if_neg (show ¬ (false = true) by decide)] at H; exact H
        clear H
        have H := H1
        clear H1
        have HC7 := Aside0.mk H
        clear H
        go_upto_region 3 with (fail)
        go_cut [20] (fun v20 wc => ∃ (kq : Nat) (x20_6 : Bool), v20 = .bool x20_6 ∧ Aside0 (variorumref06_Insert.j1 kq a0 a1 a2 x20_6 = some (r1, r2)) ∧ Aside0 (kq ≤ kj3) ∧ Aside0 (Below w.heap.size w wc))
        case first =>
          have H := HC7.out
          clear HC7
          by_cases c8 : a1 < 0
          · rw [if_pos c8] at H
            have c8b0 : decide (a1 < 0) = true := decide_eq_true c8
            clear c8
            (first | rw [c8b0] | (simp only [i64_w, i32_w]; rw [c8b0]) | skip)
            have H' := Aside0.mk H
            clear H
            go_wp2
            go_meet
            case rel => exact ⟨_, (true), (by first | rfl | (simp; done) | (simp [*]; done)), H', ⟨by have := HJ3.out; first | omega | exact Nat.le_refl _⟩, ⟨by repeat (first | (with_reducible first | exact HB.out | apply below_alloc | apply pw_below_drewN | apply below_drew1) | exact HB.out)⟩⟩
          · rw [if_neg c8] at H
            have c8b0 : decide (a1 < 0) = false := decide_eq_false c8
            clear c8
            (first | rw [c8b0] | (simp only [i64_w, i32_w]; rw [c8b0]) | skip)
            have H' := Aside0.mk H
            clear H
            go_wp2
            go_meet
            case rel => exact ⟨_, (decide (a1 > a0)), (by first | rfl | (simp; done) | (simp [*]; done)), H', ⟨by have := HJ3.out; first | omega | exact Nat.le_refl _⟩, ⟨by repeat (first | (with_reducible first | exact HB.out | apply below_alloc | apply pw_below_drewN | apply below_drew1) | exact HB.out)⟩⟩
        case rest =>
          clear HC7
          try clear p2
          try clear c3
          try clear c5
          try clear c5b0
          try clear c6
          try clear c8
          try clear c8b0
          try clear p2
          obtain ⟨kq, x20_6, rfl, HA, HJ6, HB⟩ := hcut
          cases kq with
          | zero => exact absurd HA.out (by simp [variorumref06_Insert.j1])
          | succ kj6 =>
            have H := HA.out
            clear HA
            simp only [variorumref06_Insert.j1] at H
            by_cases c9 : x20_6 = true
            · subst c9
              have H1 : (some (([] : List (S37)), 30)) = some (r1, r2) := by rw [if_pos rfl] at H; exact H
              clear H
              have H := H1
              clear H1
              simp only [Option.some.injEq, Prod.mk.injEq] at H
              obtain ⟨rfl, rfl⟩ := H
              go_wp2
              go_ret2
              exact ⟨_, by first | rfl | (simp [errW_none, errW_some] <;> rfl) | (simp [*, errW_none, errW_some] <;> rfl), by first | exact Kd.R_nil _ _ _ _ _ | exact Kd.N_nil _ _ _ _ _ | exact Kd.V_nil _ _ _ _ _ | exact Kd.Q_nil _ _ _ _ _ | exact Kd.S_nil _ _ _ _ _, by repeat (first | (with_reducible first | exact HB.out | apply below_alloc | apply pw_below_drewN | apply below_drew1) | exact HB.out)⟩
            · replace c9 := Bool.eq_false_iff.mpr c9
              subst c9
              have H1 : (if (a2.size : Int) > (wrap64 (16777216 - a0)) then (some (([] : List (S37)), 31)) else ((variorumref06_Norm.f kj6 (([(⟨a1, (⟨#[]⟩ : ByteArray), 0⟩ : S37), (⟨0, a2, 0⟩ : S37), (⟨wrap64 (a0 - a1), (⟨#[]⟩ : ByteArray), 0⟩ : S37)] : List (S37)))).bind fun t314 => (some (t314, 0)))) = some (r1, r2) := by rw [if_neg (show ¬ (false = true) by decide)] at H; exact H
              clear H
              have H := H1
              clear H1
              by_cases c10 : (a2.size : Int) > (wrap64 (16777216 - a0))
              · rw [if_pos c10] at H
                have c10b0 : decide ((wrap64 (16777216 - a0)) < (a2.size : Int)) = true := decide_eq_true c10
                clear c10
                simp only [Option.some.injEq, Prod.mk.injEq] at H
                obtain ⟨rfl, rfl⟩ := H
                go_wp2
                go_ret2
                exact ⟨_, by first | rfl | (simp [errW_none, errW_some] <;> rfl) | (simp [*, errW_none, errW_some] <;> rfl), by first | exact Kd.R_nil _ _ _ _ _ | exact Kd.N_nil _ _ _ _ _ | exact Kd.V_nil _ _ _ _ _ | exact Kd.Q_nil _ _ _ _ _ | exact Kd.S_nil _ _ _ _ _, by repeat (first | (with_reducible first | exact HB.out | apply below_alloc | apply pw_below_drewN | apply below_drew1) | exact HB.out)⟩
              · rw [if_neg c10] at H
                have c10b0 : decide ((wrap64 (16777216 - a0)) < (a2.size : Int)) = false := decide_eq_false c10
                clear c10
                obtain ⟨y311, hy311⟩ : ∃ y_ : List (S37), y_ = (([(⟨a1, (⟨#[]⟩ : ByteArray), 0⟩ : S37), (⟨0, a2, 0⟩ : S37), (⟨wrap64 (a0 - a1), (⟨#[]⟩ : ByteArray), 0⟩ : S37)] : List (S37))) := ⟨_, rfl⟩
                replace H : ((variorumref06_Norm.f kj6 y311).bind fun t314 => (some (t314, 0))) = some (r1, r2) := by first | (rw [hy311]; with_reducible exact H) | (have H2_ := (Option.bind_some _ _).symm.trans H; rw [hy311]; with_reducible exact H2_) | (have H2_ := (Option.bind_some _ _).symm.trans H; with_reducible exact H2_) | with_reducible exact H | (rw [hy311]; exact H) | exact H
                have Ny311 := Aside0.mk hy311
                clear hy311
                replace H := Option.bind_eq_some_iff.mp H
                obtain ⟨t314, A110, H⟩ := H
                replace H : (some (t314, 0)) = some (r1, r2) := H
                have A11 := Aside0.mk A110
                clear A110
                simp only [Option.some.injEq, Prod.mk.injEq] at H
                obtain ⟨rfl, rfl⟩ := H
                go_wp2_with (first | ((with_reducible refine gate_dst (N := 34) rfl ?_); refine Kd.R_lit k37 _ 37 ?hg (N := 34) ?hd (xs := ([(⟨a1, (⟨#[]⟩ : ByteArray), 0⟩ : S37), (⟨0, a2, 0⟩ : S37), (⟨wrap64 (a0 - a1), (⟨#[]⟩ : ByteArray), 0⟩ : S37)] : List (S37))) (inner := [.int .i64 a1, .string (⟨#[]⟩ : ByteArray), .int .i64 0, .int .i64 0, .string a2, .int .i64 0, .int .i64 (wrap64 (a0 - a1)), .string (⟨#[]⟩ : ByteArray), .int .i64 0]) (ok := fun _ => True) (okp := fun _ => True) ?hr ?hp (fun _ hk => hk) trivial (Below.refl _ _) (Nat.le_refl _) (by simp) ?_; (case hd => rfl); (case hg => rfl); (case hr => first | (go_simp; done) | (go_simp; rfl)); (case hp => exact (Reps.c3 (show Kd.M k37 _ _ _ (⟨a1, (⟨#[]⟩ : ByteArray), 0⟩ : S37) [.int .i64 a1, .string (⟨#[]⟩ : ByteArray), .int .i64 0] from (k37_mkM _ _ _ (⟨a1, (⟨#[]⟩ : ByteArray), 0⟩ : S37) )) (Reps.c3 (show Kd.M k37 _ _ _ (⟨0, a2, 0⟩ : S37) [.int .i64 0, .string a2, .int .i64 0] from (k37_mkM _ _ _ (⟨0, a2, 0⟩ : S37) )) (Reps.c3 (show Kd.M k37 _ _ _ (⟨wrap64 (a0 - a1), (⟨#[]⟩ : ByteArray), 0⟩ : S37) [.int .i64 (wrap64 (a0 - a1)), .string (⟨#[]⟩ : ByteArray), .int .i64 0] from (k37_mkM _ _ _ (⟨wrap64 (a0 - a1), (⟨#[]⟩ : ByteArray), 0⟩ : S37) )) (Reps.none _ _))))); intro v312 w12 ho13 hb hg_ hnew_; clear hg_ hnew_; (first | rw [← Ny311.out] at ho13 | (simp only [Int.reduceToNat] at ho13; rw [← Ny311.out] at ho13)); have n0_ := Aside0.mk (Kd.R_lower ho13 (below_size (by repeat (first | (with_reducible first | exact HB.out | apply below_alloc | apply pw_below_drewN | apply below_drew1) | exact HB.out)))); have n1_ := Aside0.mk (below_step (by repeat (first | (with_reducible first | exact HB.out | apply below_alloc | apply pw_below_drewN | apply below_drew1) | exact HB.out)) hb); clear HB; have HO313 := n0_; have HB := n1_; clear n0_ n1_; clear hb ho13; obtain ⟨Ao14, co14, eo14⟩ := Kd.R_slice HO313.out; subst eo14) | ((with_reducible refine gate_callee (f := 58) rfl ?_); refine goesL_ (some 35) rfl rfl Try.func58 (by kernel_rfl) rfl #[.slice Ao14 y311.length co14] rfl (by (try simp only [List.map_toArray, List.map_cons, List.map_nil]); first | done | rfl | (simp only [List.length_drop, List.length_take]; rfl)) ?_; (with_reducible refine (variorumref06_Norm.calls kj6 _ _ y311 t314 _ ?side1 ?side2 A11.out).mono ?_); (case side1 => repeat (first | exact (Kd.R_reads' HO313.out).2.2 | (with_reducible refine Kd.C_alloc ?_ _) | (with_reducible refine Kd.C_drewN ?_ _) | (with_reducible refine Kd.C_drew ?_))); (case side2 => exact (Kd.R_reads' HO313.out).2.1); rintro e w15 ⟨v315, rfl, ho0, hb⟩; refine ⟨_, rfl, ?_⟩; have n0_ := Aside0.mk (Kd.R_elder' (by (with_reducible repeat (first | apply Kd.R_alloc | apply Kd.R_drewN | apply Kd.R_drew)); exact HO313.out) (Kd.R_base ho0) hb); have n1_ := Aside0.mk (Kd.R_lower (Kd.R_new' ho0 (Kd.R_lt (by (with_reducible repeat (first | apply Kd.R_alloc | apply Kd.R_drewN | apply Kd.R_drew)); exact HO313.out))) (below_size (by repeat (first | (with_reducible first | exact HB.out | apply below_alloc | apply pw_below_drewN | apply below_drew1) | exact HB.out)))); have n2_ := Aside0.mk (below_step (by repeat (first | (with_reducible first | exact HB.out | apply below_alloc | apply pw_below_drewN | apply below_drew1) | exact HB.out)) hb); clear HO313; clear HB; have HO313 := n0_; have HO316 := n1_; have HB := n2_; clear n0_ n1_ n2_; (try clear hb); (try clear hb2); (try clear hk); (try clear hi); (try clear ho0)))
                go_ret2
                exact ⟨_, by first | rfl | (simp [errW_none, errW_some] <;> rfl) | (simp [*, errW_none, errW_some] <;> rfl), by (with_reducible repeat (first | apply Kd.R_alloc | apply Kd.R_drewN | apply Kd.R_drew)); exact Kd.R_mono HO316.out (fun _ hk => trivial), by repeat (first | (with_reducible first | exact HB.out | apply below_alloc | apply pw_below_drewN | apply below_drew1) | exact HB.out)⟩

end Go.Proofs.Ythocalfgeaclgaa.P
end
-- MERGED YthocalfgeaclgaaPvariorumref06Delete
section
-- Written by wip/myprint.py of this session, over the kit's print.py: a Lean function for each Go function, and the proof that the code comes to it.
namespace Go.Proofs.Ythocalfgeaclgaa.P
open Go.RowKit Go.Proofs.YthocalfgeaclgaaW.PrintWords Go.Proofs.YthocalfgeaclgaaW.PrintLast Go.Proofs.YthocalfgeaclgaaW.PrintMore
attribute [local go_sem] max2_int min2_int max_two min_two max_three min_three max_four min_four   -- for this text's walks alone
set_option linter.unusedVariables false
set_option linter.unusedSimpArgs false

/-! ### variorumref06_Delete: function 35 -/
def variorumref06_Delete.j0 : Nat → Int → Int → Int → Bool → Option ((List (S37)) × Int)
  | 0, _, _, _, _ => none
  | k + 1, x0, x1, x2, x13 => if x13 = true then (some (([] : List (S37)), 2)) else (if x1 < 0 then (some (([] : List (S37)), 30)) else (if x2 < 0 then (some (([] : List (S37)), 30)) else (if x1 > x0 then (some (([] : List (S37)), 30)) else (if x2 > (wrap64 (x0 - x1)) then (some (([] : List (S37)), 30)) else ((variorumref06_Norm.f k (([(⟨x1, (⟨#[]⟩ : ByteArray), 0⟩ : S37), (⟨0, (⟨#[]⟩ : ByteArray), x2⟩ : S37), (⟨wrap64 ((wrap64 (x0 - x1)) - x2), (⟨#[]⟩ : ByteArray), 0⟩ : S37)] : List (S37)))).bind fun t326 => (some (t326, 0)))))))
def variorumref06_Delete.f (k : Nat) (a0 : Int) (a1 : Int) (a2 : Int) : Option ((List (S37)) × Int) := if a0 < 0 then (variorumref06_Delete.j0 k a0 a1 a2 true) else (variorumref06_Delete.j0 k a0 a1 a2 (decide (a0 > 16777216)))
theorem variorumref06_Delete.mono_l : ∀ k, (∀ y0 y1 y2 y3, LeO (variorumref06_Delete.j0 k y0 y1 y2 y3) (variorumref06_Delete.j0 (k + 1) y0 y1 y2 y3))
  | 0 => fun _ _ _ _ r h => by simp [variorumref06_Delete.j0] at h
  | k + 1 => by
    have ih0 := variorumref06_Delete.mono_l k
    · intro y0 y1 y2 y3
      unfold variorumref06_Delete.j0
      repeat' first
      | (with_reducible exact ih0 _ _ _ _)
      | (with_reducible exact variorumref06_Norm.mono _ _)
      | (with_reducible exact LeO.refl _)
      | (with_reducible exact LeO.none _)
      | (with_reducible refine LeO.ite ?_ ?_)
      | (with_reducible refine LeO.bind ?_ (fun _ => ?_))
      | exact ih0 _ _ _ _
      | exact variorumref06_Norm.mono _ _
      | exact LeO.none _
      | refine LeO.ite ?_ ?_
      | refine LeO.bind ?_ (fun _ => ?_)
theorem variorumref06_Delete.mono : ∀ a0 a1 a2 k, LeO (variorumref06_Delete.f k a0 a1 a2) (variorumref06_Delete.f (k + 1) a0 a1 a2) := by
  intro a0 a1 a2 k
  have ih0 := variorumref06_Delete.mono_l k
  unfold variorumref06_Delete.f
  repeat' first
      | (with_reducible exact ih0 _ _ _ _)
      | (with_reducible exact variorumref06_Norm.mono _ _)
      | (with_reducible exact LeO.refl _)
      | (with_reducible exact LeO.none _)
      | (with_reducible refine LeO.ite ?_ ?_)
      | (with_reducible refine LeO.bind ?_ (fun _ => ?_))
      | exact ih0 _ _ _ _
      | exact variorumref06_Norm.mono _ _
      | exact LeO.none _
      | refine LeO.ite ?_ ?_
      | refine LeO.bind ?_ (fun _ => ?_)
set_option maxHeartbeats 8000000 in
set_option maxRecDepth 100000 in
theorem variorumref06_Delete.calls (k : Nat) (a0 : Int) (a1 : Int) (a2 : Int) (r1 : List (S37)) (r2 : Int) (w : World) (h : variorumref06_Delete.f k a0 a1 a2 = some (r1, r2)) :
    Calls Try.prog 35 #[.int .i64 a0, .int .i64 a1, .int .i64 a2] w fun e w' => ∃ v0_ : Value, e = .returned (.tuple #[v0_, .int .i64 r2]) ∧ Kd.R k37 37 w' w.heap.size (fun _ => True) v0_ r1 ∧ Below w.heap.size w w' := by
  have hu37 := Try.underlying37
  have HB := Aside0.mk (Below.refl w.heap.size w)
  have H : (if a0 < 0 then (variorumref06_Delete.j0 k a0 a1 a2 true) else (variorumref06_Delete.j0 k a0 a1 a2 (decide (a0 > 16777216)))) = some (r1, r2) := h
  clear h
  have HC4 := Aside0.mk H
  clear H
  go_enter Try.func35, Try.ntmps35
  go_upto_region 1 with (fail)
  go_cut [13] (fun v13 wc => ∃ (kq : Nat) (x13_3 : Bool), v13 = .bool x13_3 ∧ Aside0 (variorumref06_Delete.j0 kq a0 a1 a2 x13_3 = some (r1, r2)) ∧ Aside0 (kq ≤ k) ∧ Aside0 (Below w.heap.size w wc))
  case first =>
    have H := HC4.out
    clear HC4
    by_cases c5 : a0 < 0
    · rw [if_pos c5] at H
      have c5b0 : decide (a0 < 0) = true := decide_eq_true c5
      clear c5
      (first | rw [c5b0] | (simp only [i64_w, i32_w]; rw [c5b0]) | skip)
      have H' := Aside0.mk H
      clear H
      go_wp2
      go_meet
      case rel => exact ⟨_, (true), (by first | rfl | (simp; done) | (simp [*]; done)), H', ⟨by first | omega | exact Nat.le_refl _⟩, ⟨by repeat (first | (with_reducible first | exact HB.out | apply below_alloc | apply pw_below_drewN | apply below_drew1) | exact HB.out)⟩⟩
    · rw [if_neg c5] at H
      have c5b0 : decide (a0 < 0) = false := decide_eq_false c5
      clear c5
      (first | rw [c5b0] | (simp only [i64_w, i32_w]; rw [c5b0]) | skip)
      have H' := Aside0.mk H
      clear H
      go_wp2
      go_meet
      case rel => exact ⟨_, (decide (a0 > 16777216)), (by first | rfl | (simp; done) | (simp [*]; done)), H', ⟨by first | omega | exact Nat.le_refl _⟩, ⟨by repeat (first | (with_reducible first | exact HB.out | apply below_alloc | apply pw_below_drewN | apply below_drew1) | exact HB.out)⟩⟩
  case rest =>
    clear HC4
    try clear p2
    try clear c3
    try clear c5
    try clear c5b0
    obtain ⟨kq, x13_3, rfl, HA, HJ3, HB⟩ := hcut
    cases kq with
    | zero => exact absurd HA.out (by simp [variorumref06_Delete.j0])
    | succ kj3 =>
      have H := HA.out
      clear HA
      simp only [variorumref06_Delete.j0] at H
      by_cases c6 : x13_3 = true
      · subst c6
        have H1 : (some (([] : List (S37)), 2)) = some (r1, r2) := by rw [if_pos rfl] at H; exact H
        clear H
        have H := H1
        clear H1
        simp only [Option.some.injEq, Prod.mk.injEq] at H
        obtain ⟨rfl, rfl⟩ := H
        go_wp2
        go_ret2
        exact ⟨_, by first | rfl | (simp [errW_none, errW_some] <;> rfl) | (simp [*, errW_none, errW_some] <;> rfl), by first | exact Kd.R_nil _ _ _ _ _ | exact Kd.N_nil _ _ _ _ _ | exact Kd.V_nil _ _ _ _ _ | exact Kd.Q_nil _ _ _ _ _ | exact Kd.S_nil _ _ _ _ _, by repeat (first | (with_reducible first | exact HB.out | apply below_alloc | apply pw_below_drewN | apply below_drew1) | exact HB.out)⟩
      · replace c6 := Bool.eq_false_iff.mpr c6
        subst c6
        have H1 : (if a1 < 0 then (some (([] : List (S37)), 30)) else (if a2 < 0 then (some (([] : List (S37)), 30)) else (if a1 > a0 then (some (([] : List (S37)), 30)) else (if a2 > (wrap64 (a0 - a1)) then (some (([] : List (S37)), 30)) else ((variorumref06_Norm.f kj3 (([(⟨a1, (⟨#[]⟩ : ByteArray), 0⟩ : S37), (⟨0, (⟨#[]⟩ : ByteArray), a2⟩ : S37), (⟨wrap64 ((wrap64 (a0 - a1)) - a2), (⟨#[]⟩ : ByteArray), 0⟩ : S37)] : List (S37)))).bind fun t326 => (some (t326, 0))))))) = some (r1, r2) := by rw [if_neg (show ¬ (false = true) by decide)] at H; exact H
        clear H
        have H := H1
        clear H1
        by_cases c7 : a1 < 0
        · rw [if_pos c7] at H
          have c7b0 : decide (a1 < 0) = true := decide_eq_true c7
          clear c7
          simp only [Option.some.injEq, Prod.mk.injEq] at H
          obtain ⟨rfl, rfl⟩ := H
          go_wp2
          go_ret2
          exact ⟨_, by first | rfl | (simp [errW_none, errW_some] <;> rfl) | (simp [*, errW_none, errW_some] <;> rfl), by first | exact Kd.R_nil _ _ _ _ _ | exact Kd.N_nil _ _ _ _ _ | exact Kd.V_nil _ _ _ _ _ | exact Kd.Q_nil _ _ _ _ _ | exact Kd.S_nil _ _ _ _ _, by repeat (first | (with_reducible first | exact HB.out | apply below_alloc | apply pw_below_drewN | apply below_drew1) | exact HB.out)⟩
        · rw [if_neg c7] at H
          have c7b0 : decide (a1 < 0) = false := decide_eq_false c7
          clear c7
          by_cases c8 : a2 < 0
          · rw [if_pos c8] at H
            have c8b0 : decide (a2 < 0) = true := decide_eq_true c8
            clear c8
            simp only [Option.some.injEq, Prod.mk.injEq] at H
            obtain ⟨rfl, rfl⟩ := H
            go_wp2
            go_ret2
            exact ⟨_, by first | rfl | (simp [errW_none, errW_some] <;> rfl) | (simp [*, errW_none, errW_some] <;> rfl), by first | exact Kd.R_nil _ _ _ _ _ | exact Kd.N_nil _ _ _ _ _ | exact Kd.V_nil _ _ _ _ _ | exact Kd.Q_nil _ _ _ _ _ | exact Kd.S_nil _ _ _ _ _, by repeat (first | (with_reducible first | exact HB.out | apply below_alloc | apply pw_below_drewN | apply below_drew1) | exact HB.out)⟩
          · rw [if_neg c8] at H
            have c8b0 : decide (a2 < 0) = false := decide_eq_false c8
            clear c8
            by_cases c9 : a1 > a0
            · rw [if_pos c9] at H
              have c9b0 : decide (a0 < a1) = true := decide_eq_true c9
              clear c9
              simp only [Option.some.injEq, Prod.mk.injEq] at H
              obtain ⟨rfl, rfl⟩ := H
              go_wp2
              go_ret2
              exact ⟨_, by first | rfl | (simp [errW_none, errW_some] <;> rfl) | (simp [*, errW_none, errW_some] <;> rfl), by first | exact Kd.R_nil _ _ _ _ _ | exact Kd.N_nil _ _ _ _ _ | exact Kd.V_nil _ _ _ _ _ | exact Kd.Q_nil _ _ _ _ _ | exact Kd.S_nil _ _ _ _ _, by repeat (first | (with_reducible first | exact HB.out | apply below_alloc | apply pw_below_drewN | apply below_drew1) | exact HB.out)⟩
            · rw [if_neg c9] at H
              have c9b0 : decide (a0 < a1) = false := decide_eq_false c9
              clear c9
              by_cases c10 : a2 > (wrap64 (a0 - a1))
              · rw [if_pos c10] at H
                have c10b0 : decide ((wrap64 (a0 - a1)) < a2) = true := decide_eq_true c10
                clear c10
                simp only [Option.some.injEq, Prod.mk.injEq] at H
                obtain ⟨rfl, rfl⟩ := H
                go_wp2
                go_ret2
                exact ⟨_, by first | rfl | (simp [errW_none, errW_some] <;> rfl) | (simp [*, errW_none, errW_some] <;> rfl), by first | exact Kd.R_nil _ _ _ _ _ | exact Kd.N_nil _ _ _ _ _ | exact Kd.V_nil _ _ _ _ _ | exact Kd.Q_nil _ _ _ _ _ | exact Kd.S_nil _ _ _ _ _, by repeat (first | (with_reducible first | exact HB.out | apply below_alloc | apply pw_below_drewN | apply below_drew1) | exact HB.out)⟩
              · rw [if_neg c10] at H
                have c10b0 : decide ((wrap64 (a0 - a1)) < a2) = false := decide_eq_false c10
                clear c10
                obtain ⟨y323, hy323⟩ : ∃ y_ : List (S37), y_ = (([(⟨a1, (⟨#[]⟩ : ByteArray), 0⟩ : S37), (⟨0, (⟨#[]⟩ : ByteArray), a2⟩ : S37), (⟨wrap64 ((wrap64 (a0 - a1)) - a2), (⟨#[]⟩ : ByteArray), 0⟩ : S37)] : List (S37))) := ⟨_, rfl⟩
                replace H : ((variorumref06_Norm.f kj3 y323).bind fun t326 => (some (t326, 0))) = some (r1, r2) := by first | (rw [hy323]; with_reducible exact H) | (have H2_ := (Option.bind_some _ _).symm.trans H; rw [hy323]; with_reducible exact H2_) | (have H2_ := (Option.bind_some _ _).symm.trans H; with_reducible exact H2_) | with_reducible exact H | (rw [hy323]; exact H) | exact H
                have Ny323 := Aside0.mk hy323
                clear hy323
                replace H := Option.bind_eq_some_iff.mp H
                obtain ⟨t326, A110, H⟩ := H
                replace H : (some (t326, 0)) = some (r1, r2) := H
                have A11 := Aside0.mk A110
                clear A110
                simp only [Option.some.injEq, Prod.mk.injEq] at H
                obtain ⟨rfl, rfl⟩ := H
                go_wp2_with (first | ((with_reducible refine gate_dst (N := 42) rfl ?_); refine Kd.R_lit k37 _ 37 ?hg (N := 42) ?hd (xs := ([(⟨a1, (⟨#[]⟩ : ByteArray), 0⟩ : S37), (⟨0, (⟨#[]⟩ : ByteArray), a2⟩ : S37), (⟨wrap64 ((wrap64 (a0 - a1)) - a2), (⟨#[]⟩ : ByteArray), 0⟩ : S37)] : List (S37))) (inner := [.int .i64 a1, .string (⟨#[]⟩ : ByteArray), .int .i64 0, .int .i64 0, .string (⟨#[]⟩ : ByteArray), .int .i64 a2, .int .i64 (wrap64 ((wrap64 (a0 - a1)) - a2)), .string (⟨#[]⟩ : ByteArray), .int .i64 0]) (ok := fun _ => True) (okp := fun _ => True) ?hr ?hp (fun _ hk => hk) trivial (Below.refl _ _) (Nat.le_refl _) (by simp) ?_; (case hd => rfl); (case hg => rfl); (case hr => first | (go_simp; done) | (go_simp; rfl)); (case hp => exact (Reps.c3 (show Kd.M k37 _ _ _ (⟨a1, (⟨#[]⟩ : ByteArray), 0⟩ : S37) [.int .i64 a1, .string (⟨#[]⟩ : ByteArray), .int .i64 0] from (k37_mkM _ _ _ (⟨a1, (⟨#[]⟩ : ByteArray), 0⟩ : S37) )) (Reps.c3 (show Kd.M k37 _ _ _ (⟨0, (⟨#[]⟩ : ByteArray), a2⟩ : S37) [.int .i64 0, .string (⟨#[]⟩ : ByteArray), .int .i64 a2] from (k37_mkM _ _ _ (⟨0, (⟨#[]⟩ : ByteArray), a2⟩ : S37) )) (Reps.c3 (show Kd.M k37 _ _ _ (⟨wrap64 ((wrap64 (a0 - a1)) - a2), (⟨#[]⟩ : ByteArray), 0⟩ : S37) [.int .i64 (wrap64 ((wrap64 (a0 - a1)) - a2)), .string (⟨#[]⟩ : ByteArray), .int .i64 0] from (k37_mkM _ _ _ (⟨wrap64 ((wrap64 (a0 - a1)) - a2), (⟨#[]⟩ : ByteArray), 0⟩ : S37) )) (Reps.none _ _))))); intro v324 w12 ho13 hb hg_ hnew_; clear hg_ hnew_; (first | rw [← Ny323.out] at ho13 | (simp only [Int.reduceToNat] at ho13; rw [← Ny323.out] at ho13)); have n0_ := Aside0.mk (Kd.R_lower ho13 (below_size (by repeat (first | (with_reducible first | exact HB.out | apply below_alloc | apply pw_below_drewN | apply below_drew1) | exact HB.out)))); have n1_ := Aside0.mk (below_step (by repeat (first | (with_reducible first | exact HB.out | apply below_alloc | apply pw_below_drewN | apply below_drew1) | exact HB.out)) hb); clear HB; have HO325 := n0_; have HB := n1_; clear n0_ n1_; clear hb ho13; obtain ⟨Ao14, co14, eo14⟩ := Kd.R_slice HO325.out; subst eo14) | ((with_reducible refine gate_callee (f := 58) rfl ?_); refine goesL_ (some 43) rfl rfl Try.func58 (by kernel_rfl) rfl #[.slice Ao14 y323.length co14] rfl (by (try simp only [List.map_toArray, List.map_cons, List.map_nil]); first | done | rfl | (simp only [List.length_drop, List.length_take]; rfl)) ?_; (with_reducible refine (variorumref06_Norm.calls kj3 _ _ y323 t326 _ ?side1 ?side2 A11.out).mono ?_); (case side1 => repeat (first | exact (Kd.R_reads' HO325.out).2.2 | (with_reducible refine Kd.C_alloc ?_ _) | (with_reducible refine Kd.C_drewN ?_ _) | (with_reducible refine Kd.C_drew ?_))); (case side2 => exact (Kd.R_reads' HO325.out).2.1); rintro e w15 ⟨v327, rfl, ho0, hb⟩; refine ⟨_, rfl, ?_⟩; have n0_ := Aside0.mk (Kd.R_elder' (by (with_reducible repeat (first | apply Kd.R_alloc | apply Kd.R_drewN | apply Kd.R_drew)); exact HO325.out) (Kd.R_base ho0) hb); have n1_ := Aside0.mk (Kd.R_lower (Kd.R_new' ho0 (Kd.R_lt (by (with_reducible repeat (first | apply Kd.R_alloc | apply Kd.R_drewN | apply Kd.R_drew)); exact HO325.out))) (below_size (by repeat (first | (with_reducible first | exact HB.out | apply below_alloc | apply pw_below_drewN | apply below_drew1) | exact HB.out)))); have n2_ := Aside0.mk (below_step (by repeat (first | (with_reducible first | exact HB.out | apply below_alloc | apply pw_below_drewN | apply below_drew1) | exact HB.out)) hb); clear HO325; clear HB; have HO325 := n0_; have HO328 := n1_; have HB := n2_; clear n0_ n1_ n2_; (try clear hb); (try clear hb2); (try clear hk); (try clear hi); (try clear ho0)))
                go_ret2
                exact ⟨_, by first | rfl | (simp [errW_none, errW_some] <;> rfl) | (simp [*, errW_none, errW_some] <;> rfl), by (with_reducible repeat (first | apply Kd.R_alloc | apply Kd.R_drewN | apply Kd.R_drew)); exact Kd.R_mono HO328.out (fun _ hk => trivial), by repeat (first | (with_reducible first | exact HB.out | apply below_alloc | apply pw_below_drewN | apply below_drew1) | exact HB.out)⟩

end Go.Proofs.Ythocalfgeaclgaa.P
end
-- MERGED YthocalfgeaclgaaPeditNorm
section
-- Written by wip/myprint.py of this session, over the kit's print.py: a Lean function for each Go function, and the proof that the code comes to it.
namespace Go.Proofs.Ythocalfgeaclgaa.P
open Go.RowKit Go.Proofs.YthocalfgeaclgaaW.PrintWords Go.Proofs.YthocalfgeaclgaaW.PrintLast Go.Proofs.YthocalfgeaclgaaW.PrintMore
attribute [local go_sem] max2_int min2_int max_two min_two max_three min_three max_four min_four   -- for this text's walks alone
set_option linter.unusedVariables false
set_option linter.unusedSimpArgs false

/-! ### edit_Norm: function 23 -/
-- NEEDS Derived.Test.YthocalfgeaclgaaEditN
def edit_Norm.f (l0 : List (S37)) : Option (List (S37)) := if l0.length ≤ 4000000 then some (EditL.norm l0) else none
theorem edit_Norm.calls (A0 : Option Addr) (c0 : Nat) (l0 : List (S37)) (r : List (S37)) (w : World) (hr0 : Kd.C k37 w A0 l0.length l0) (hc0 : l0.length ≤ c0) (h : edit_Norm.f l0 = some r) :
    Calls Try.prog 23 #[.slice A0 l0.length c0] w fun e w' => ∃ v0_ : Value, e = .returned (v0_) ∧ Kd.R k37 37 w' w.heap.size (fun _ => True) v0_ r ∧ Below w.heap.size w w' := by
  unfold edit_Norm.f at h
  by_cases hl : l0.length ≤ 4000000
  · rw [if_pos hl] at h
    obtain rfl := Option.some.inj h
    exact EditN.norm_c A0 c0 l0 w hr0 hc0 hl
  · rw [if_neg hl] at h; cases h

end Go.Proofs.Ythocalfgeaclgaa.P
end
-- MERGED YthocalfgeaclgaaPeditInsert
section
-- Written by wip/myprint.py of this session, over the kit's print.py: a Lean function for each Go function, and the proof that the code comes to it.
namespace Go.Proofs.Ythocalfgeaclgaa.P
open Go.RowKit Go.Proofs.YthocalfgeaclgaaW.PrintWords Go.Proofs.YthocalfgeaclgaaW.PrintLast Go.Proofs.YthocalfgeaclgaaW.PrintMore
attribute [local go_sem] max2_int min2_int max_two min_two max_three min_three max_four min_four   -- for this text's walks alone
set_option linter.unusedVariables false
set_option linter.unusedSimpArgs false

/-! ### edit_Insert: function 32 -/
mutual
def edit_Insert.j0 : Nat → Int → Int → ByteArray → Bool → Option ((List (S37)) × Int)
  | 0, _, _, _, _ => none
  | k + 1, x0, x1, x2, x8 => if x8 = true then (some (([] : List (S37)), 2)) else (if x1 < 0 then (edit_Insert.j1 k x0 x1 x2 true) else (edit_Insert.j1 k x0 x1 x2 (decide (x1 > x0))))
def edit_Insert.j1 : Nat → Int → Int → ByteArray → Bool → Option ((List (S37)) × Int)
  | 0, _, _, _, _ => none
  | k + 1, x0, x1, x2, x15 => if x15 = true then (some (([] : List (S37)), 30)) else (if (x2.size : Int) > (wrap64 (16777216 - x0)) then (some (([] : List (S37)), 31)) else ((edit_Norm.f (([(⟨x1, (⟨#[]⟩ : ByteArray), 0⟩ : S37), (⟨0, x2, 0⟩ : S37), (⟨wrap64 (x0 - x1), (⟨#[]⟩ : ByteArray), 0⟩ : S37)] : List (S37)))).bind fun t191 => (some (t191, 0))))
end
def edit_Insert.f (k : Nat) (a0 : Int) (a1 : Int) (a2 : ByteArray) : Option ((List (S37)) × Int) := if a0 < 0 then (edit_Insert.j0 k a0 a1 a2 true) else (edit_Insert.j0 k a0 a1 a2 (decide (a0 > 16777216)))
theorem edit_Insert.mono_l : ∀ k, (∀ y0 y1 y2 y3, LeO (edit_Insert.j0 k y0 y1 y2 y3) (edit_Insert.j0 (k + 1) y0 y1 y2 y3)) ∧ (∀ y0 y1 y2 y3, LeO (edit_Insert.j1 k y0 y1 y2 y3) (edit_Insert.j1 (k + 1) y0 y1 y2 y3))
  | 0 => ⟨fun _ _ _ _ r h => by simp [edit_Insert.j0] at h, fun _ _ _ _ r h => by simp [edit_Insert.j1] at h⟩
  | k + 1 => by
    obtain ⟨ih0, ih1⟩ := edit_Insert.mono_l k
    refine ⟨?_, ?_⟩
    · intro y0 y1 y2 y3
      unfold edit_Insert.j0
      repeat' first
      | (with_reducible exact ih0 _ _ _ _)
      | (with_reducible exact ih1 _ _ _ _)
      | (with_reducible exact LeO.refl _)
      | (with_reducible exact LeO.none _)
      | (with_reducible refine LeO.ite ?_ ?_)
      | (with_reducible refine LeO.bind ?_ (fun _ => ?_))
      | exact ih0 _ _ _ _
      | exact ih1 _ _ _ _
      | exact LeO.none _
      | refine LeO.ite ?_ ?_
      | refine LeO.bind ?_ (fun _ => ?_)
    · intro y0 y1 y2 y3
      unfold edit_Insert.j1
      repeat' first
      | (with_reducible exact ih0 _ _ _ _)
      | (with_reducible exact ih1 _ _ _ _)
      | (with_reducible exact LeO.refl _)
      | (with_reducible exact LeO.none _)
      | (with_reducible refine LeO.ite ?_ ?_)
      | (with_reducible refine LeO.bind ?_ (fun _ => ?_))
      | exact ih0 _ _ _ _
      | exact ih1 _ _ _ _
      | exact LeO.none _
      | refine LeO.ite ?_ ?_
      | refine LeO.bind ?_ (fun _ => ?_)
theorem edit_Insert.mono : ∀ a0 a1 a2 k, LeO (edit_Insert.f k a0 a1 a2) (edit_Insert.f (k + 1) a0 a1 a2) := by
  intro a0 a1 a2 k
  obtain ⟨ih0, ih1⟩ := edit_Insert.mono_l k
  unfold edit_Insert.f
  repeat' first
      | (with_reducible exact ih0 _ _ _ _)
      | (with_reducible exact ih1 _ _ _ _)
      | (with_reducible exact LeO.refl _)
      | (with_reducible exact LeO.none _)
      | (with_reducible refine LeO.ite ?_ ?_)
      | (with_reducible refine LeO.bind ?_ (fun _ => ?_))
      | exact ih0 _ _ _ _
      | exact ih1 _ _ _ _
      | exact LeO.none _
      | refine LeO.ite ?_ ?_
      | refine LeO.bind ?_ (fun _ => ?_)
set_option maxHeartbeats 8000000 in
set_option maxRecDepth 100000 in
theorem edit_Insert.calls (k : Nat) (a0 : Int) (a1 : Int) (a2 : ByteArray) (r1 : List (S37)) (r2 : Int) (w : World) (h : edit_Insert.f k a0 a1 a2 = some (r1, r2)) :
    Calls Try.prog 32 #[.int .i64 a0, .int .i64 a1, .string a2] w fun e w' => ∃ v0_ : Value, e = .returned (.tuple #[v0_, .int .i64 r2]) ∧ Kd.R k37 37 w' w.heap.size (fun _ => True) v0_ r1 ∧ Below w.heap.size w w' := by
  have hu37 := Try.underlying37
  have HB := Aside0.mk (Below.refl w.heap.size w)
  have H : (if a0 < 0 then (edit_Insert.j0 k a0 a1 a2 true) else (edit_Insert.j0 k a0 a1 a2 (decide (a0 > 16777216)))) = some (r1, r2) := h
  clear h
  have HC4 := Aside0.mk H
  clear H
  go_enter Try.func32, Try.ntmps32
  go_upto_region 1 with (fail)
  go_cut [8] (fun v8 wc => ∃ (kq : Nat) (x8_3 : Bool), v8 = .bool x8_3 ∧ Aside0 (edit_Insert.j0 kq a0 a1 a2 x8_3 = some (r1, r2)) ∧ Aside0 (kq ≤ k) ∧ Aside0 (Below w.heap.size w wc))
  case first =>
    have H := HC4.out
    clear HC4
    by_cases c5 : a0 < 0
    · rw [if_pos c5] at H
      have c5b0 : decide (a0 < 0) = true := decide_eq_true c5
      clear c5
      (first | rw [c5b0] | (simp only [i64_w, i32_w]; rw [c5b0]) | skip)
      have H' := Aside0.mk H
      clear H
      go_wp2
      go_meet
      case rel => exact ⟨_, (true), (by first | rfl | (simp; done) | (simp [*]; done)), H', ⟨by first | omega | exact Nat.le_refl _⟩, ⟨by repeat (first | (with_reducible first | exact HB.out | apply below_alloc | apply pw_below_drewN | apply below_drew1) | exact HB.out)⟩⟩
    · rw [if_neg c5] at H
      have c5b0 : decide (a0 < 0) = false := decide_eq_false c5
      clear c5
      (first | rw [c5b0] | (simp only [i64_w, i32_w]; rw [c5b0]) | skip)
      have H' := Aside0.mk H
      clear H
      go_wp2
      go_meet
      case rel => exact ⟨_, (decide (a0 > 16777216)), (by first | rfl | (simp; done) | (simp [*]; done)), H', ⟨by first | omega | exact Nat.le_refl _⟩, ⟨by repeat (first | (with_reducible first | exact HB.out | apply below_alloc | apply pw_below_drewN | apply below_drew1) | exact HB.out)⟩⟩
  case rest =>
    clear HC4
    try clear p2
    try clear c3
    try clear c5
    try clear c5b0
    obtain ⟨kq, x8_3, rfl, HA, HJ3, HB⟩ := hcut
    cases kq with
    | zero => exact absurd HA.out (by simp [edit_Insert.j0])
    | succ kj3 =>
      have H := HA.out
      clear HA
      simp only [edit_Insert.j0] at H
      by_cases c6 : x8_3 = true
      · subst c6
        have H1 : (some (([] : List (S37)), 2)) = some (r1, r2) := by rw [if_pos rfl] at H; exact H
        clear H
        have H := H1
        clear H1
        simp only [Option.some.injEq, Prod.mk.injEq] at H
        obtain ⟨rfl, rfl⟩ := H
        go_wp2
        go_ret2
        exact ⟨_, by first | rfl | (simp [errW_none, errW_some] <;> rfl) | (simp [*, errW_none, errW_some] <;> rfl), by first | exact Kd.R_nil _ _ _ _ _ | exact Kd.N_nil _ _ _ _ _ | exact Kd.V_nil _ _ _ _ _ | exact Kd.Q_nil _ _ _ _ _ | exact Kd.S_nil _ _ _ _ _, by repeat (first | (with_reducible first | exact HB.out | apply below_alloc | apply pw_below_drewN | apply below_drew1) | exact HB.out)⟩
      · replace c6 := Bool.eq_false_iff.mpr c6
        subst c6
        have H1 : (if a1 < 0 then (edit_Insert.j1 kj3 a0 a1 a2 true) else (edit_Insert.j1 kj3 a0 a1 a2 (decide (a1 > a0)))) = some (r1, r2) := by rw [if_neg (show ¬ (false = true) by decide)] at H; exact H
        clear H
        have H := H1
        clear H1
        have HC7 := Aside0.mk H
        clear H
        go_upto_region 3 with (fail)
        go_cut [15] (fun v15 wc => ∃ (kq : Nat) (x15_6 : Bool), v15 = .bool x15_6 ∧ Aside0 (edit_Insert.j1 kq a0 a1 a2 x15_6 = some (r1, r2)) ∧ Aside0 (kq ≤ kj3) ∧ Aside0 (Below w.heap.size w wc))
        case first =>
          have H := HC7.out
          clear HC7
          by_cases c8 : a1 < 0
          · rw [if_pos c8] at H
            have c8b0 : decide (a1 < 0) = true := decide_eq_true c8
            clear c8
            (first | rw [c8b0] | (simp only [i64_w, i32_w]; rw [c8b0]) | skip)
            have H' := Aside0.mk H
            clear H
            go_wp2
            go_meet
            case rel => exact ⟨_, (true), (by first | rfl | (simp; done) | (simp [*]; done)), H', ⟨by have := HJ3.out; first | omega | exact Nat.le_refl _⟩, ⟨by repeat (first | (with_reducible first | exact HB.out | apply below_alloc | apply pw_below_drewN | apply below_drew1) | exact HB.out)⟩⟩
          · rw [if_neg c8] at H
            have c8b0 : decide (a1 < 0) = false := decide_eq_false c8
            clear c8
            (first | rw [c8b0] | (simp only [i64_w, i32_w]; rw [c8b0]) | skip)
            have H' := Aside0.mk H
            clear H
            go_wp2
            go_meet
            case rel => exact ⟨_, (decide (a1 > a0)), (by first | rfl | (simp; done) | (simp [*]; done)), H', ⟨by have := HJ3.out; first | omega | exact Nat.le_refl _⟩, ⟨by repeat (first | (with_reducible first | exact HB.out | apply below_alloc | apply pw_below_drewN | apply below_drew1) | exact HB.out)⟩⟩
        case rest =>
          clear HC7
          try clear p2
          try clear c3
          try clear c5
          try clear c5b0
          try clear c6
          try clear c8
          try clear c8b0
          try clear p2
          obtain ⟨kq, x15_6, rfl, HA, HJ6, HB⟩ := hcut
          cases kq with
          | zero => exact absurd HA.out (by simp [edit_Insert.j1])
          | succ kj6 =>
            have H := HA.out
            clear HA
            simp only [edit_Insert.j1] at H
            by_cases c9 : x15_6 = true
            · subst c9
              have H1 : (some (([] : List (S37)), 30)) = some (r1, r2) := by rw [if_pos rfl] at H; exact H
              clear H
              have H := H1
              clear H1
              simp only [Option.some.injEq, Prod.mk.injEq] at H
              obtain ⟨rfl, rfl⟩ := H
              go_wp2
              go_ret2
              exact ⟨_, by first | rfl | (simp [errW_none, errW_some] <;> rfl) | (simp [*, errW_none, errW_some] <;> rfl), by first | exact Kd.R_nil _ _ _ _ _ | exact Kd.N_nil _ _ _ _ _ | exact Kd.V_nil _ _ _ _ _ | exact Kd.Q_nil _ _ _ _ _ | exact Kd.S_nil _ _ _ _ _, by repeat (first | (with_reducible first | exact HB.out | apply below_alloc | apply pw_below_drewN | apply below_drew1) | exact HB.out)⟩
            · replace c9 := Bool.eq_false_iff.mpr c9
              subst c9
              have H1 : (if (a2.size : Int) > (wrap64 (16777216 - a0)) then (some (([] : List (S37)), 31)) else ((edit_Norm.f (([(⟨a1, (⟨#[]⟩ : ByteArray), 0⟩ : S37), (⟨0, a2, 0⟩ : S37), (⟨wrap64 (a0 - a1), (⟨#[]⟩ : ByteArray), 0⟩ : S37)] : List (S37)))).bind fun t191 => (some (t191, 0)))) = some (r1, r2) := by rw [if_neg (show ¬ (false = true) by decide)] at H; exact H
              clear H
              have H := H1
              clear H1
              by_cases c10 : (a2.size : Int) > (wrap64 (16777216 - a0))
              · rw [if_pos c10] at H
                have c10b0 : decide ((wrap64 (16777216 - a0)) < (a2.size : Int)) = true := decide_eq_true c10
                clear c10
                simp only [Option.some.injEq, Prod.mk.injEq] at H
                obtain ⟨rfl, rfl⟩ := H
                go_wp2
                go_ret2
                exact ⟨_, by first | rfl | (simp [errW_none, errW_some] <;> rfl) | (simp [*, errW_none, errW_some] <;> rfl), by first | exact Kd.R_nil _ _ _ _ _ | exact Kd.N_nil _ _ _ _ _ | exact Kd.V_nil _ _ _ _ _ | exact Kd.Q_nil _ _ _ _ _ | exact Kd.S_nil _ _ _ _ _, by repeat (first | (with_reducible first | exact HB.out | apply below_alloc | apply pw_below_drewN | apply below_drew1) | exact HB.out)⟩
              · rw [if_neg c10] at H
                have c10b0 : decide ((wrap64 (16777216 - a0)) < (a2.size : Int)) = false := decide_eq_false c10
                clear c10
                obtain ⟨y188, hy188⟩ : ∃ y_ : List (S37), y_ = (([(⟨a1, (⟨#[]⟩ : ByteArray), 0⟩ : S37), (⟨0, a2, 0⟩ : S37), (⟨wrap64 (a0 - a1), (⟨#[]⟩ : ByteArray), 0⟩ : S37)] : List (S37))) := ⟨_, rfl⟩
                replace H : ((edit_Norm.f y188).bind fun t191 => (some (t191, 0))) = some (r1, r2) := by first | (rw [hy188]; with_reducible exact H) | (have H2_ := (Option.bind_some _ _).symm.trans H; rw [hy188]; with_reducible exact H2_) | (have H2_ := (Option.bind_some _ _).symm.trans H; with_reducible exact H2_) | with_reducible exact H | (rw [hy188]; exact H) | exact H
                have Ny188 := Aside0.mk hy188
                clear hy188
                replace H := Option.bind_eq_some_iff.mp H
                obtain ⟨t191, A110, H⟩ := H
                replace H : (some (t191, 0)) = some (r1, r2) := H
                have A11 := Aside0.mk A110
                clear A110
                simp only [Option.some.injEq, Prod.mk.injEq] at H
                obtain ⟨rfl, rfl⟩ := H
                go_wp2_with (first | ((with_reducible refine gate_dst (N := 37) rfl ?_); refine Kd.R_lit k37 _ 37 ?hg (N := 37) ?hd (xs := ([(⟨a1, (⟨#[]⟩ : ByteArray), 0⟩ : S37), (⟨0, a2, 0⟩ : S37), (⟨wrap64 (a0 - a1), (⟨#[]⟩ : ByteArray), 0⟩ : S37)] : List (S37))) (inner := [.int .i64 a1, .string (⟨#[]⟩ : ByteArray), .int .i64 0, .int .i64 0, .string a2, .int .i64 0, .int .i64 (wrap64 (a0 - a1)), .string (⟨#[]⟩ : ByteArray), .int .i64 0]) (ok := fun _ => True) (okp := fun _ => True) ?hr ?hp (fun _ hk => hk) trivial (Below.refl _ _) (Nat.le_refl _) (by simp) ?_; (case hd => rfl); (case hg => rfl); (case hr => first | (go_simp; done) | (go_simp; rfl)); (case hp => exact (Reps.c3 (show Kd.M k37 _ _ _ (⟨a1, (⟨#[]⟩ : ByteArray), 0⟩ : S37) [.int .i64 a1, .string (⟨#[]⟩ : ByteArray), .int .i64 0] from (k37_mkM _ _ _ (⟨a1, (⟨#[]⟩ : ByteArray), 0⟩ : S37) )) (Reps.c3 (show Kd.M k37 _ _ _ (⟨0, a2, 0⟩ : S37) [.int .i64 0, .string a2, .int .i64 0] from (k37_mkM _ _ _ (⟨0, a2, 0⟩ : S37) )) (Reps.c3 (show Kd.M k37 _ _ _ (⟨wrap64 (a0 - a1), (⟨#[]⟩ : ByteArray), 0⟩ : S37) [.int .i64 (wrap64 (a0 - a1)), .string (⟨#[]⟩ : ByteArray), .int .i64 0] from (k37_mkM _ _ _ (⟨wrap64 (a0 - a1), (⟨#[]⟩ : ByteArray), 0⟩ : S37) )) (Reps.none _ _))))); intro v189 w12 ho13 hb hg_ hnew_; clear hg_ hnew_; (first | rw [← Ny188.out] at ho13 | (simp only [Int.reduceToNat] at ho13; rw [← Ny188.out] at ho13)); have n0_ := Aside0.mk (Kd.R_lower ho13 (below_size (by repeat (first | (with_reducible first | exact HB.out | apply below_alloc | apply pw_below_drewN | apply below_drew1) | exact HB.out)))); have n1_ := Aside0.mk (below_step (by repeat (first | (with_reducible first | exact HB.out | apply below_alloc | apply pw_below_drewN | apply below_drew1) | exact HB.out)) hb); clear HB; have HO190 := n0_; have HB := n1_; clear n0_ n1_; clear hb ho13; obtain ⟨Ao14, co14, eo14⟩ := Kd.R_slice HO190.out; subst eo14) | ((with_reducible refine gate_callee (f := 23) rfl ?_); refine goesL_ (some 38) rfl rfl Try.func23 (by kernel_rfl) rfl #[.slice Ao14 y188.length co14] rfl (by (try simp only [List.map_toArray, List.map_cons, List.map_nil]); first | done | rfl | (simp only [List.length_drop, List.length_take]; rfl)) ?_; (with_reducible refine (edit_Norm.calls _ _ y188 t191 _ ?side1 ?side2 A11.out).mono ?_); (case side1 => repeat (first | exact (Kd.R_reads' HO190.out).2.2 | (with_reducible refine Kd.C_alloc ?_ _) | (with_reducible refine Kd.C_drewN ?_ _) | (with_reducible refine Kd.C_drew ?_))); (case side2 => exact (Kd.R_reads' HO190.out).2.1); rintro e w15 ⟨v192, rfl, ho0, hb⟩; refine ⟨_, rfl, ?_⟩; have n0_ := Aside0.mk (Kd.R_elder' (by (with_reducible repeat (first | apply Kd.R_alloc | apply Kd.R_drewN | apply Kd.R_drew)); exact HO190.out) (Kd.R_base ho0) hb); have n1_ := Aside0.mk (Kd.R_lower (Kd.R_new' ho0 (Kd.R_lt (by (with_reducible repeat (first | apply Kd.R_alloc | apply Kd.R_drewN | apply Kd.R_drew)); exact HO190.out))) (below_size (by repeat (first | (with_reducible first | exact HB.out | apply below_alloc | apply pw_below_drewN | apply below_drew1) | exact HB.out)))); have n2_ := Aside0.mk (below_step (by repeat (first | (with_reducible first | exact HB.out | apply below_alloc | apply pw_below_drewN | apply below_drew1) | exact HB.out)) hb); clear HO190; clear HB; have HO190 := n0_; have HO193 := n1_; have HB := n2_; clear n0_ n1_ n2_; (try clear hb); (try clear hb2); (try clear hk); (try clear hi); (try clear ho0)))
                go_ret2
                exact ⟨_, by first | rfl | (simp [errW_none, errW_some] <;> rfl) | (simp [*, errW_none, errW_some] <;> rfl), by (with_reducible repeat (first | apply Kd.R_alloc | apply Kd.R_drewN | apply Kd.R_drew)); exact Kd.R_mono HO193.out (fun _ hk => trivial), by repeat (first | (with_reducible first | exact HB.out | apply below_alloc | apply pw_below_drewN | apply below_drew1) | exact HB.out)⟩

end Go.Proofs.Ythocalfgeaclgaa.P
end
-- MERGED YthocalfgeaclgaaPeditDelete
section
-- Written by wip/myprint.py of this session, over the kit's print.py: a Lean function for each Go function, and the proof that the code comes to it.
namespace Go.Proofs.Ythocalfgeaclgaa.P
open Go.RowKit Go.Proofs.YthocalfgeaclgaaW.PrintWords Go.Proofs.YthocalfgeaclgaaW.PrintLast Go.Proofs.YthocalfgeaclgaaW.PrintMore
attribute [local go_sem] max2_int min2_int max_two min_two max_three min_three max_four min_four   -- for this text's walks alone
set_option linter.unusedVariables false
set_option linter.unusedSimpArgs false

/-! ### edit_Delete: function 34 -/
def edit_Delete.j0 : Nat → Int → Int → Int → Bool → Option ((List (S37)) × Int)
  | 0, _, _, _, _ => none
  | k + 1, x0, x1, x2, x8 => if x8 = true then (some (([] : List (S37)), 2)) else (if x1 < 0 then (some (([] : List (S37)), 30)) else (if x1 > x0 then (some (([] : List (S37)), 30)) else (if x2 < 0 then (some (([] : List (S37)), 30)) else (if x2 > (wrap64 (x0 - x1)) then (some (([] : List (S37)), 30)) else ((edit_Norm.f (([(⟨x1, (⟨#[]⟩ : ByteArray), 0⟩ : S37), (⟨0, (⟨#[]⟩ : ByteArray), x2⟩ : S37), (⟨wrap64 ((wrap64 (x0 - x1)) - x2), (⟨#[]⟩ : ByteArray), 0⟩ : S37)] : List (S37)))).bind fun t320 => (some (t320, 0)))))))
def edit_Delete.f (k : Nat) (a0 : Int) (a1 : Int) (a2 : Int) : Option ((List (S37)) × Int) := if a0 < 0 then (edit_Delete.j0 k a0 a1 a2 true) else (edit_Delete.j0 k a0 a1 a2 (decide (a0 > 16777216)))
theorem edit_Delete.mono_l : ∀ k, (∀ y0 y1 y2 y3, LeO (edit_Delete.j0 k y0 y1 y2 y3) (edit_Delete.j0 (k + 1) y0 y1 y2 y3))
  | 0 => fun _ _ _ _ r h => by simp [edit_Delete.j0] at h
  | k + 1 => by
    have ih0 := edit_Delete.mono_l k
    · intro y0 y1 y2 y3
      unfold edit_Delete.j0
      repeat' first
      | (with_reducible exact ih0 _ _ _ _)
      | (with_reducible exact LeO.refl _)
      | (with_reducible exact LeO.none _)
      | (with_reducible refine LeO.ite ?_ ?_)
      | (with_reducible refine LeO.bind ?_ (fun _ => ?_))
      | exact ih0 _ _ _ _
      | exact LeO.none _
      | refine LeO.ite ?_ ?_
      | refine LeO.bind ?_ (fun _ => ?_)
theorem edit_Delete.mono : ∀ a0 a1 a2 k, LeO (edit_Delete.f k a0 a1 a2) (edit_Delete.f (k + 1) a0 a1 a2) := by
  intro a0 a1 a2 k
  have ih0 := edit_Delete.mono_l k
  unfold edit_Delete.f
  repeat' first
      | (with_reducible exact ih0 _ _ _ _)
      | (with_reducible exact LeO.refl _)
      | (with_reducible exact LeO.none _)
      | (with_reducible refine LeO.ite ?_ ?_)
      | (with_reducible refine LeO.bind ?_ (fun _ => ?_))
      | exact ih0 _ _ _ _
      | exact LeO.none _
      | refine LeO.ite ?_ ?_
      | refine LeO.bind ?_ (fun _ => ?_)
set_option maxHeartbeats 8000000 in
set_option maxRecDepth 100000 in
theorem edit_Delete.calls (k : Nat) (a0 : Int) (a1 : Int) (a2 : Int) (r1 : List (S37)) (r2 : Int) (w : World) (h : edit_Delete.f k a0 a1 a2 = some (r1, r2)) :
    Calls Try.prog 34 #[.int .i64 a0, .int .i64 a1, .int .i64 a2] w fun e w' => ∃ v0_ : Value, e = .returned (.tuple #[v0_, .int .i64 r2]) ∧ Kd.R k37 37 w' w.heap.size (fun _ => True) v0_ r1 ∧ Below w.heap.size w w' := by
  have hu37 := Try.underlying37
  have HB := Aside0.mk (Below.refl w.heap.size w)
  have H : (if a0 < 0 then (edit_Delete.j0 k a0 a1 a2 true) else (edit_Delete.j0 k a0 a1 a2 (decide (a0 > 16777216)))) = some (r1, r2) := h
  clear h
  have HC4 := Aside0.mk H
  clear H
  go_enter Try.func34, Try.ntmps34
  go_upto_region 1 with (fail)
  go_cut [8] (fun v8 wc => ∃ (kq : Nat) (x8_3 : Bool), v8 = .bool x8_3 ∧ Aside0 (edit_Delete.j0 kq a0 a1 a2 x8_3 = some (r1, r2)) ∧ Aside0 (kq ≤ k) ∧ Aside0 (Below w.heap.size w wc))
  case first =>
    have H := HC4.out
    clear HC4
    by_cases c5 : a0 < 0
    · rw [if_pos c5] at H
      have c5b0 : decide (a0 < 0) = true := decide_eq_true c5
      clear c5
      (first | rw [c5b0] | (simp only [i64_w, i32_w]; rw [c5b0]) | skip)
      have H' := Aside0.mk H
      clear H
      go_wp2
      go_meet
      case rel => exact ⟨_, (true), (by first | rfl | (simp; done) | (simp [*]; done)), H', ⟨by first | omega | exact Nat.le_refl _⟩, ⟨by repeat (first | (with_reducible first | exact HB.out | apply below_alloc | apply pw_below_drewN | apply below_drew1) | exact HB.out)⟩⟩
    · rw [if_neg c5] at H
      have c5b0 : decide (a0 < 0) = false := decide_eq_false c5
      clear c5
      (first | rw [c5b0] | (simp only [i64_w, i32_w]; rw [c5b0]) | skip)
      have H' := Aside0.mk H
      clear H
      go_wp2
      go_meet
      case rel => exact ⟨_, (decide (a0 > 16777216)), (by first | rfl | (simp; done) | (simp [*]; done)), H', ⟨by first | omega | exact Nat.le_refl _⟩, ⟨by repeat (first | (with_reducible first | exact HB.out | apply below_alloc | apply pw_below_drewN | apply below_drew1) | exact HB.out)⟩⟩
  case rest =>
    clear HC4
    try clear p2
    try clear c3
    try clear c5
    try clear c5b0
    obtain ⟨kq, x8_3, rfl, HA, HJ3, HB⟩ := hcut
    cases kq with
    | zero => exact absurd HA.out (by simp [edit_Delete.j0])
    | succ kj3 =>
      have H := HA.out
      clear HA
      simp only [edit_Delete.j0] at H
      by_cases c6 : x8_3 = true
      · subst c6
        have H1 : (some (([] : List (S37)), 2)) = some (r1, r2) := by rw [if_pos rfl] at H; exact H
        clear H
        have H := H1
        clear H1
        simp only [Option.some.injEq, Prod.mk.injEq] at H
        obtain ⟨rfl, rfl⟩ := H
        go_wp2
        go_ret2
        exact ⟨_, by first | rfl | (simp [errW_none, errW_some] <;> rfl) | (simp [*, errW_none, errW_some] <;> rfl), by first | exact Kd.R_nil _ _ _ _ _ | exact Kd.N_nil _ _ _ _ _ | exact Kd.V_nil _ _ _ _ _ | exact Kd.Q_nil _ _ _ _ _ | exact Kd.S_nil _ _ _ _ _, by repeat (first | (with_reducible first | exact HB.out | apply below_alloc | apply pw_below_drewN | apply below_drew1) | exact HB.out)⟩
      · replace c6 := Bool.eq_false_iff.mpr c6
        subst c6
        have H1 : (if a1 < 0 then (some (([] : List (S37)), 30)) else (if a1 > a0 then (some (([] : List (S37)), 30)) else (if a2 < 0 then (some (([] : List (S37)), 30)) else (if a2 > (wrap64 (a0 - a1)) then (some (([] : List (S37)), 30)) else ((edit_Norm.f (([(⟨a1, (⟨#[]⟩ : ByteArray), 0⟩ : S37), (⟨0, (⟨#[]⟩ : ByteArray), a2⟩ : S37), (⟨wrap64 ((wrap64 (a0 - a1)) - a2), (⟨#[]⟩ : ByteArray), 0⟩ : S37)] : List (S37)))).bind fun t320 => (some (t320, 0))))))) = some (r1, r2) := by rw [if_neg (show ¬ (false = true) by decide)] at H; exact H
        clear H
        have H := H1
        clear H1
        by_cases c7 : a1 < 0
        · rw [if_pos c7] at H
          have c7b0 : decide (a1 < 0) = true := decide_eq_true c7
          clear c7
          simp only [Option.some.injEq, Prod.mk.injEq] at H
          obtain ⟨rfl, rfl⟩ := H
          go_wp2
          go_ret2
          exact ⟨_, by first | rfl | (simp [errW_none, errW_some] <;> rfl) | (simp [*, errW_none, errW_some] <;> rfl), by first | exact Kd.R_nil _ _ _ _ _ | exact Kd.N_nil _ _ _ _ _ | exact Kd.V_nil _ _ _ _ _ | exact Kd.Q_nil _ _ _ _ _ | exact Kd.S_nil _ _ _ _ _, by repeat (first | (with_reducible first | exact HB.out | apply below_alloc | apply pw_below_drewN | apply below_drew1) | exact HB.out)⟩
        · rw [if_neg c7] at H
          have c7b0 : decide (a1 < 0) = false := decide_eq_false c7
          clear c7
          by_cases c8 : a1 > a0
          · rw [if_pos c8] at H
            have c8b0 : decide (a0 < a1) = true := decide_eq_true c8
            clear c8
            simp only [Option.some.injEq, Prod.mk.injEq] at H
            obtain ⟨rfl, rfl⟩ := H
            go_wp2
            go_ret2
            exact ⟨_, by first | rfl | (simp [errW_none, errW_some] <;> rfl) | (simp [*, errW_none, errW_some] <;> rfl), by first | exact Kd.R_nil _ _ _ _ _ | exact Kd.N_nil _ _ _ _ _ | exact Kd.V_nil _ _ _ _ _ | exact Kd.Q_nil _ _ _ _ _ | exact Kd.S_nil _ _ _ _ _, by repeat (first | (with_reducible first | exact HB.out | apply below_alloc | apply pw_below_drewN | apply below_drew1) | exact HB.out)⟩
          · rw [if_neg c8] at H
            have c8b0 : decide (a0 < a1) = false := decide_eq_false c8
            clear c8
            by_cases c9 : a2 < 0
            · rw [if_pos c9] at H
              have c9b0 : decide (a2 < 0) = true := decide_eq_true c9
              clear c9
              simp only [Option.some.injEq, Prod.mk.injEq] at H
              obtain ⟨rfl, rfl⟩ := H
              go_wp2
              go_ret2
              exact ⟨_, by first | rfl | (simp [errW_none, errW_some] <;> rfl) | (simp [*, errW_none, errW_some] <;> rfl), by first | exact Kd.R_nil _ _ _ _ _ | exact Kd.N_nil _ _ _ _ _ | exact Kd.V_nil _ _ _ _ _ | exact Kd.Q_nil _ _ _ _ _ | exact Kd.S_nil _ _ _ _ _, by repeat (first | (with_reducible first | exact HB.out | apply below_alloc | apply pw_below_drewN | apply below_drew1) | exact HB.out)⟩
            · rw [if_neg c9] at H
              have c9b0 : decide (a2 < 0) = false := decide_eq_false c9
              clear c9
              by_cases c10 : a2 > (wrap64 (a0 - a1))
              · rw [if_pos c10] at H
                have c10b0 : decide ((wrap64 (a0 - a1)) < a2) = true := decide_eq_true c10
                clear c10
                simp only [Option.some.injEq, Prod.mk.injEq] at H
                obtain ⟨rfl, rfl⟩ := H
                go_wp2
                go_ret2
                exact ⟨_, by first | rfl | (simp [errW_none, errW_some] <;> rfl) | (simp [*, errW_none, errW_some] <;> rfl), by first | exact Kd.R_nil _ _ _ _ _ | exact Kd.N_nil _ _ _ _ _ | exact Kd.V_nil _ _ _ _ _ | exact Kd.Q_nil _ _ _ _ _ | exact Kd.S_nil _ _ _ _ _, by repeat (first | (with_reducible first | exact HB.out | apply below_alloc | apply pw_below_drewN | apply below_drew1) | exact HB.out)⟩
              · rw [if_neg c10] at H
                have c10b0 : decide ((wrap64 (a0 - a1)) < a2) = false := decide_eq_false c10
                clear c10
                obtain ⟨y317, hy317⟩ : ∃ y_ : List (S37), y_ = (([(⟨a1, (⟨#[]⟩ : ByteArray), 0⟩ : S37), (⟨0, (⟨#[]⟩ : ByteArray), a2⟩ : S37), (⟨wrap64 ((wrap64 (a0 - a1)) - a2), (⟨#[]⟩ : ByteArray), 0⟩ : S37)] : List (S37))) := ⟨_, rfl⟩
                replace H : ((edit_Norm.f y317).bind fun t320 => (some (t320, 0))) = some (r1, r2) := by first | (rw [hy317]; with_reducible exact H) | (have H2_ := (Option.bind_some _ _).symm.trans H; rw [hy317]; with_reducible exact H2_) | (have H2_ := (Option.bind_some _ _).symm.trans H; with_reducible exact H2_) | with_reducible exact H | (rw [hy317]; exact H) | exact H
                have Ny317 := Aside0.mk hy317
                clear hy317
                replace H := Option.bind_eq_some_iff.mp H
                obtain ⟨t320, A110, H⟩ := H
                replace H : (some (t320, 0)) = some (r1, r2) := H
                have A11 := Aside0.mk A110
                clear A110
                simp only [Option.some.injEq, Prod.mk.injEq] at H
                obtain ⟨rfl, rfl⟩ := H
                go_wp2_with (first | ((with_reducible refine gate_dst (N := 44) rfl ?_); refine Kd.R_lit k37 _ 37 ?hg (N := 44) ?hd (xs := ([(⟨a1, (⟨#[]⟩ : ByteArray), 0⟩ : S37), (⟨0, (⟨#[]⟩ : ByteArray), a2⟩ : S37), (⟨wrap64 ((wrap64 (a0 - a1)) - a2), (⟨#[]⟩ : ByteArray), 0⟩ : S37)] : List (S37))) (inner := [.int .i64 a1, .string (⟨#[]⟩ : ByteArray), .int .i64 0, .int .i64 0, .string (⟨#[]⟩ : ByteArray), .int .i64 a2, .int .i64 (wrap64 ((wrap64 (a0 - a1)) - a2)), .string (⟨#[]⟩ : ByteArray), .int .i64 0]) (ok := fun _ => True) (okp := fun _ => True) ?hr ?hp (fun _ hk => hk) trivial (Below.refl _ _) (Nat.le_refl _) (by simp) ?_; (case hd => rfl); (case hg => rfl); (case hr => first | (go_simp; done) | (go_simp; rfl)); (case hp => exact (Reps.c3 (show Kd.M k37 _ _ _ (⟨a1, (⟨#[]⟩ : ByteArray), 0⟩ : S37) [.int .i64 a1, .string (⟨#[]⟩ : ByteArray), .int .i64 0] from (k37_mkM _ _ _ (⟨a1, (⟨#[]⟩ : ByteArray), 0⟩ : S37) )) (Reps.c3 (show Kd.M k37 _ _ _ (⟨0, (⟨#[]⟩ : ByteArray), a2⟩ : S37) [.int .i64 0, .string (⟨#[]⟩ : ByteArray), .int .i64 a2] from (k37_mkM _ _ _ (⟨0, (⟨#[]⟩ : ByteArray), a2⟩ : S37) )) (Reps.c3 (show Kd.M k37 _ _ _ (⟨wrap64 ((wrap64 (a0 - a1)) - a2), (⟨#[]⟩ : ByteArray), 0⟩ : S37) [.int .i64 (wrap64 ((wrap64 (a0 - a1)) - a2)), .string (⟨#[]⟩ : ByteArray), .int .i64 0] from (k37_mkM _ _ _ (⟨wrap64 ((wrap64 (a0 - a1)) - a2), (⟨#[]⟩ : ByteArray), 0⟩ : S37) )) (Reps.none _ _))))); intro v318 w12 ho13 hb hg_ hnew_; clear hg_ hnew_; (first | rw [← Ny317.out] at ho13 | (simp only [Int.reduceToNat] at ho13; rw [← Ny317.out] at ho13)); have n0_ := Aside0.mk (Kd.R_lower ho13 (below_size (by repeat (first | (with_reducible first | exact HB.out | apply below_alloc | apply pw_below_drewN | apply below_drew1) | exact HB.out)))); have n1_ := Aside0.mk (below_step (by repeat (first | (with_reducible first | exact HB.out | apply below_alloc | apply pw_below_drewN | apply below_drew1) | exact HB.out)) hb); clear HB; have HO319 := n0_; have HB := n1_; clear n0_ n1_; clear hb ho13; obtain ⟨Ao14, co14, eo14⟩ := Kd.R_slice HO319.out; subst eo14) | ((with_reducible refine gate_callee (f := 23) rfl ?_); refine goesL_ (some 45) rfl rfl Try.func23 (by kernel_rfl) rfl #[.slice Ao14 y317.length co14] rfl (by (try simp only [List.map_toArray, List.map_cons, List.map_nil]); first | done | rfl | (simp only [List.length_drop, List.length_take]; rfl)) ?_; (with_reducible refine (edit_Norm.calls _ _ y317 t320 _ ?side1 ?side2 A11.out).mono ?_); (case side1 => repeat (first | exact (Kd.R_reads' HO319.out).2.2 | (with_reducible refine Kd.C_alloc ?_ _) | (with_reducible refine Kd.C_drewN ?_ _) | (with_reducible refine Kd.C_drew ?_))); (case side2 => exact (Kd.R_reads' HO319.out).2.1); rintro e w15 ⟨v321, rfl, ho0, hb⟩; refine ⟨_, rfl, ?_⟩; have n0_ := Aside0.mk (Kd.R_elder' (by (with_reducible repeat (first | apply Kd.R_alloc | apply Kd.R_drewN | apply Kd.R_drew)); exact HO319.out) (Kd.R_base ho0) hb); have n1_ := Aside0.mk (Kd.R_lower (Kd.R_new' ho0 (Kd.R_lt (by (with_reducible repeat (first | apply Kd.R_alloc | apply Kd.R_drewN | apply Kd.R_drew)); exact HO319.out))) (below_size (by repeat (first | (with_reducible first | exact HB.out | apply below_alloc | apply pw_below_drewN | apply below_drew1) | exact HB.out)))); have n2_ := Aside0.mk (below_step (by repeat (first | (with_reducible first | exact HB.out | apply below_alloc | apply pw_below_drewN | apply below_drew1) | exact HB.out)) hb); clear HO319; clear HB; have HO319 := n0_; have HO322 := n1_; have HB := n2_; clear n0_ n1_ n2_; (try clear hb); (try clear hb2); (try clear hk); (try clear hi); (try clear ho0)))
                go_ret2
                exact ⟨_, by first | rfl | (simp [errW_none, errW_some] <;> rfl) | (simp [*, errW_none, errW_some] <;> rfl), by (with_reducible repeat (first | apply Kd.R_alloc | apply Kd.R_drewN | apply Kd.R_drew)); exact Kd.R_mono HO322.out (fun _ hk => trivial), by repeat (first | (with_reducible first | exact HB.out | apply below_alloc | apply pw_below_drewN | apply below_drew1) | exact HB.out)⟩

end Go.Proofs.Ythocalfgeaclgaa.P
end
-- MERGED YthocalfgeaclgaaPeditNothing
section
-- Written by wip/myprint.py of this session, over the kit's print.py: a Lean function for each Go function, and the proof that the code comes to it.
namespace Go.Proofs.Ythocalfgeaclgaa.P
open Go.RowKit Go.Proofs.YthocalfgeaclgaaW.PrintWords Go.Proofs.YthocalfgeaclgaaW.PrintLast Go.Proofs.YthocalfgeaclgaaW.PrintMore
attribute [local go_sem] max2_int min2_int max_two min_two max_three min_three max_four min_four   -- for this text's walks alone
set_option linter.unusedVariables false
set_option linter.unusedSimpArgs false

/-! ### edit_Nothing: function 36 -/
def edit_Nothing.f (a0 : Int) : Option ((List (S37))) := if a0 < 1 then (some ([] : List (S37))) else (if a0 > 16777216 then (some ([] : List (S37))) else (some (([(⟨a0, (⟨#[]⟩ : ByteArray), 0⟩ : S37)] : List (S37)))))
set_option maxHeartbeats 8000000 in
set_option maxRecDepth 100000 in
theorem edit_Nothing.calls (a0 : Int) (r : List (S37)) (w : World) (h : edit_Nothing.f a0 = some r) :
    Calls Try.prog 36 #[.int .i64 a0] w fun e w' => ∃ v0_ : Value, e = .returned (v0_) ∧ Kd.R k37 37 w' w.heap.size (fun _ => True) v0_ r ∧ Below w.heap.size w w' := by
  have hu37 := Try.underlying37
  have HB := Aside0.mk (Below.refl w.heap.size w)
  have H : (if a0 < 1 then (some ([] : List (S37))) else (if a0 > 16777216 then (some ([] : List (S37))) else (some (([(⟨a0, (⟨#[]⟩ : ByteArray), 0⟩ : S37)] : List (S37)))))) = some r := h
  clear h
  by_cases c2 : a0 < 1
  · rw [if_pos c2] at H
    have c2b0 : decide (a0 < 1) = true := decide_eq_true c2
    clear c2
    obtain rfl := Option.some.inj H
    go_enter Try.func36, Try.ntmps36
    go_wp2
    go_ret
    exact ⟨_, by first | rfl | (simp [errW_none, errW_some] <;> rfl) | (simp [*, errW_none, errW_some] <;> rfl), by first | exact Kd.R_nil _ _ _ _ _ | exact Kd.N_nil _ _ _ _ _ | exact Kd.V_nil _ _ _ _ _ | exact Kd.Q_nil _ _ _ _ _ | exact Kd.S_nil _ _ _ _ _, by repeat (first | (with_reducible first | exact HB.out | apply below_alloc | apply pw_below_drewN | apply below_drew1) | exact HB.out)⟩
  · rw [if_neg c2] at H
    have c2b0 : decide (a0 < 1) = false := decide_eq_false c2
    clear c2
    by_cases c3 : a0 > 16777216
    · rw [if_pos c3] at H
      have c3b0 : decide (16777216 < a0) = true := decide_eq_true c3
      clear c3
      obtain rfl := Option.some.inj H
      go_enter Try.func36, Try.ntmps36
      go_wp2
      go_ret
      exact ⟨_, by first | rfl | (simp [errW_none, errW_some] <;> rfl) | (simp [*, errW_none, errW_some] <;> rfl), by first | exact Kd.R_nil _ _ _ _ _ | exact Kd.N_nil _ _ _ _ _ | exact Kd.V_nil _ _ _ _ _ | exact Kd.Q_nil _ _ _ _ _ | exact Kd.S_nil _ _ _ _ _, by repeat (first | (with_reducible first | exact HB.out | apply below_alloc | apply pw_below_drewN | apply below_drew1) | exact HB.out)⟩
    · rw [if_neg c3] at H
      have c3b0 : decide (16777216 < a0) = false := decide_eq_false c3
      clear c3
      obtain ⟨y329, hy329⟩ : ∃ y_ : List (S37), y_ = (([(⟨a0, (⟨#[]⟩ : ByteArray), 0⟩ : S37)] : List (S37))) := ⟨_, rfl⟩
      replace H : (some y329) = some r := by first | (rw [hy329]; with_reducible exact H) | (have H2_ := (Option.bind_some _ _).symm.trans H; rw [hy329]; with_reducible exact H2_) | (have H2_ := (Option.bind_some _ _).symm.trans H; with_reducible exact H2_) | with_reducible exact H | (rw [hy329]; exact H) | exact H
      have Ny329 := Aside0.mk hy329
      clear hy329
      obtain rfl := Option.some.inj H
      go_enter Try.func36, Try.ntmps36
      go_wp2_with (first | ((with_reducible refine gate_dst (N := 11) rfl ?_); refine Kd.R_lit k37 _ 37 ?hg (N := 11) ?hd (xs := ([(⟨a0, (⟨#[]⟩ : ByteArray), 0⟩ : S37)] : List (S37))) (inner := [.int .i64 a0, .string (⟨#[]⟩ : ByteArray), .int .i64 0]) (ok := fun _ => True) (okp := fun _ => True) ?hr ?hp (fun _ hk => hk) trivial (Below.refl _ _) (Nat.le_refl _) (by simp) ?_; (case hd => rfl); (case hg => rfl); (case hr => first | (go_simp; done) | (go_simp; rfl)); (case hp => exact (Reps.c3 (show Kd.M k37 _ _ _ (⟨a0, (⟨#[]⟩ : ByteArray), 0⟩ : S37) [.int .i64 a0, .string (⟨#[]⟩ : ByteArray), .int .i64 0] from (k37_mkM _ _ _ (⟨a0, (⟨#[]⟩ : ByteArray), 0⟩ : S37) )) (Reps.none _ _))); intro v330 w4 ho5 hb hg_ hnew_; clear hg_ hnew_; (first | rw [← Ny329.out] at ho5 | (simp only [Int.reduceToNat] at ho5; rw [← Ny329.out] at ho5)); have n0_ := Aside0.mk (Kd.R_lower ho5 (below_size (by repeat (first | (with_reducible first | exact HB.out | apply below_alloc | apply pw_below_drewN | apply below_drew1) | exact HB.out)))); have n1_ := Aside0.mk (below_step (by repeat (first | (with_reducible first | exact HB.out | apply below_alloc | apply pw_below_drewN | apply below_drew1) | exact HB.out)) hb); clear HB; have HO331 := n0_; have HB := n1_; clear n0_ n1_; clear hb ho5))
      go_ret
      exact ⟨_, by first | rfl | (simp [errW_none, errW_some] <;> rfl) | (simp [*, errW_none, errW_some] <;> rfl), by (with_reducible repeat (first | apply Kd.R_alloc | apply Kd.R_drewN | apply Kd.R_drew)); exact HO331.out, by repeat (first | (with_reducible first | exact HB.out | apply below_alloc | apply pw_below_drewN | apply below_drew1) | exact HB.out)⟩

end Go.Proofs.Ythocalfgeaclgaa.P
end
-- MERGED YthocalfgeaclgaaPvariorumref06Nothing
section
-- Written by wip/myprint.py of this session, over the kit's print.py: a Lean function for each Go function, and the proof that the code comes to it.
namespace Go.Proofs.Ythocalfgeaclgaa.P
open Go.RowKit Go.Proofs.YthocalfgeaclgaaW.PrintWords Go.Proofs.YthocalfgeaclgaaW.PrintLast Go.Proofs.YthocalfgeaclgaaW.PrintMore
attribute [local go_sem] max2_int min2_int max_two min_two max_three min_three max_four min_four   -- for this text's walks alone
set_option linter.unusedVariables false
set_option linter.unusedSimpArgs false

/-! ### variorumref06_Nothing: function 37 -/
def variorumref06_Nothing.f (a0 : Int) : Option ((List (S37))) := if a0 < 1 then (some ([] : List (S37))) else (if a0 > 16777216 then (some ([] : List (S37))) else (some (([(⟨a0, (⟨#[]⟩ : ByteArray), 0⟩ : S37)] : List (S37)))))
set_option maxHeartbeats 8000000 in
set_option maxRecDepth 100000 in
theorem variorumref06_Nothing.calls (a0 : Int) (r : List (S37)) (w : World) (h : variorumref06_Nothing.f a0 = some r) :
    Calls Try.prog 37 #[.int .i64 a0] w fun e w' => ∃ v0_ : Value, e = .returned (v0_) ∧ Kd.R k37 37 w' w.heap.size (fun _ => True) v0_ r ∧ Below w.heap.size w w' := by
  have hu37 := Try.underlying37
  have HB := Aside0.mk (Below.refl w.heap.size w)
  have H : (if a0 < 1 then (some ([] : List (S37))) else (if a0 > 16777216 then (some ([] : List (S37))) else (some (([(⟨a0, (⟨#[]⟩ : ByteArray), 0⟩ : S37)] : List (S37)))))) = some r := h
  clear h
  by_cases c2 : a0 < 1
  · rw [if_pos c2] at H
    have c2b0 : decide (a0 < 1) = true := decide_eq_true c2
    clear c2
    obtain rfl := Option.some.inj H
    go_enter Try.func37, Try.ntmps37
    go_wp2
    go_ret
    exact ⟨_, by first | rfl | (simp [errW_none, errW_some] <;> rfl) | (simp [*, errW_none, errW_some] <;> rfl), by first | exact Kd.R_nil _ _ _ _ _ | exact Kd.N_nil _ _ _ _ _ | exact Kd.V_nil _ _ _ _ _ | exact Kd.Q_nil _ _ _ _ _ | exact Kd.S_nil _ _ _ _ _, by repeat (first | (with_reducible first | exact HB.out | apply below_alloc | apply pw_below_drewN | apply below_drew1) | exact HB.out)⟩
  · rw [if_neg c2] at H
    have c2b0 : decide (a0 < 1) = false := decide_eq_false c2
    clear c2
    by_cases c3 : a0 > 16777216
    · rw [if_pos c3] at H
      have c3b0 : decide (16777216 < a0) = true := decide_eq_true c3
      clear c3
      obtain rfl := Option.some.inj H
      go_enter Try.func37, Try.ntmps37
      go_wp2
      go_ret
      exact ⟨_, by first | rfl | (simp [errW_none, errW_some] <;> rfl) | (simp [*, errW_none, errW_some] <;> rfl), by first | exact Kd.R_nil _ _ _ _ _ | exact Kd.N_nil _ _ _ _ _ | exact Kd.V_nil _ _ _ _ _ | exact Kd.Q_nil _ _ _ _ _ | exact Kd.S_nil _ _ _ _ _, by repeat (first | (with_reducible first | exact HB.out | apply below_alloc | apply pw_below_drewN | apply below_drew1) | exact HB.out)⟩
    · rw [if_neg c3] at H
      have c3b0 : decide (16777216 < a0) = false := decide_eq_false c3
      clear c3
      obtain ⟨y332, hy332⟩ : ∃ y_ : List (S37), y_ = (([(⟨a0, (⟨#[]⟩ : ByteArray), 0⟩ : S37)] : List (S37))) := ⟨_, rfl⟩
      replace H : (some y332) = some r := by first | (rw [hy332]; with_reducible exact H) | (have H2_ := (Option.bind_some _ _).symm.trans H; rw [hy332]; with_reducible exact H2_) | (have H2_ := (Option.bind_some _ _).symm.trans H; with_reducible exact H2_) | with_reducible exact H | (rw [hy332]; exact H) | exact H
      have Ny332 := Aside0.mk hy332
      clear hy332
      obtain rfl := Option.some.inj H
      go_enter Try.func37, Try.ntmps37
      go_wp2_with (first | ((with_reducible refine gate_dst (N := 11) rfl ?_); refine Kd.R_lit k37 _ 37 ?hg (N := 11) ?hd (xs := ([(⟨a0, (⟨#[]⟩ : ByteArray), 0⟩ : S37)] : List (S37))) (inner := [.int .i64 a0, .string (⟨#[]⟩ : ByteArray), .int .i64 0]) (ok := fun _ => True) (okp := fun _ => True) ?hr ?hp (fun _ hk => hk) trivial (Below.refl _ _) (Nat.le_refl _) (by simp) ?_; (case hd => rfl); (case hg => rfl); (case hr => first | (go_simp; done) | (go_simp; rfl)); (case hp => exact (Reps.c3 (show Kd.M k37 _ _ _ (⟨a0, (⟨#[]⟩ : ByteArray), 0⟩ : S37) [.int .i64 a0, .string (⟨#[]⟩ : ByteArray), .int .i64 0] from (k37_mkM _ _ _ (⟨a0, (⟨#[]⟩ : ByteArray), 0⟩ : S37) )) (Reps.none _ _))); intro v333 w4 ho5 hb hg_ hnew_; clear hg_ hnew_; (first | rw [← Ny332.out] at ho5 | (simp only [Int.reduceToNat] at ho5; rw [← Ny332.out] at ho5)); have n0_ := Aside0.mk (Kd.R_lower ho5 (below_size (by repeat (first | (with_reducible first | exact HB.out | apply below_alloc | apply pw_below_drewN | apply below_drew1) | exact HB.out)))); have n1_ := Aside0.mk (below_step (by repeat (first | (with_reducible first | exact HB.out | apply below_alloc | apply pw_below_drewN | apply below_drew1) | exact HB.out)) hb); clear HB; have HO334 := n0_; have HB := n1_; clear n0_ n1_; clear hb ho5))
      go_ret
      exact ⟨_, by first | rfl | (simp [errW_none, errW_some] <;> rfl) | (simp [*, errW_none, errW_some] <;> rfl), by (with_reducible repeat (first | apply Kd.R_alloc | apply Kd.R_drewN | apply Kd.R_drew)); exact HO334.out, by repeat (first | (with_reducible first | exact HB.out | apply below_alloc | apply pw_below_drewN | apply below_drew1) | exact HB.out)⟩

end Go.Proofs.Ythocalfgeaclgaa.P
end
-- MERGED YthocalfgeaclgaaEditH
section
/- What the reference's Norm, Insert and Delete of edits come to (their printed forms), and whether two edits are the same. -/
namespace Go.Proofs.Ythocalfgeaclgaa.EditH
open Go.RowKit Go.Proofs.Ythocalfgeaclgaa.P Go.Proofs.YthocalfgeaclgaaW.PrintWords Go.Proofs.YthocalfgeaclgaaW.PrintLast Go.Proofs.YthocalfgeaclgaaW.PrintMore Go.Proofs.Ythocalfgeaclgaa.EditL Go.Proofs.Ythocalfgeaclgaa.EditK Go.Proofs.Ythocalfgeaclgaa.EditF Go.Proofs.Ythocalfgeaclgaa.EditG
set_option linter.unusedSimpArgs false
set_option linter.unusedVariables false

theorem rgood_f {l : List Rn} (hb : l.length ≤ 140737488351232) : variorumref06_Good.f l = some (good l) := by unfold variorumref06_Good.f; rw [if_pos hb]
theorem rin_f {l : List Rn} (hb : l.length ≤ 140737488351232) (k : Nat) (hk : l.length < k) : variorumref06_In.f k l = some (if good l then inL l else 0) := by
  unfold variorumref06_In.f
  rw [rgood_f hb, Option.bind_some]
  cases h : good l with
  | false => rfl
  | true =>
    obtain ⟨_, _, h2, h3⟩ := good_ok h
    rw [if_pos rfl, rsums_f hb h3 k hk, Option.bind_some, h2]; rfl
theorem rout_f {l : List Rn} (hb : l.length ≤ 140737488351232) (k : Nat) (hk : l.length < k) : variorumref06_Out.f k l = some (if good l then outL l else 0) := by
  unfold variorumref06_Out.f
  rw [rgood_f hb, Option.bind_some]
  cases h : good l with
  | false => rfl
  | true =>
    obtain ⟨_, _, h2, h3⟩ := good_ok h
    rw [if_pos rfl, rsums_f hb h3 k hk, Option.bind_some, h2]; rfl
theorem rkind_k (r : Rn) {k : Nat} (hk : 2 ≤ k) : variorumref06_Kind.f k r.f0 r.f1 r.f2 = some (knd r) := by
  obtain ⟨k, rfl⟩ : ∃ m, k = m + 2 := ⟨k - 2, by omega⟩
  exact rkind_f r k
def fin (o : List Rn) : List Rn := if good o then o else []
theorem fin_bind (o : List Rn) (ho : o.length ≤ 140737488351232) : ((variorumref06_Good.f o).bind fun t => if t = true then some o else some []) = some (fin o) := by
  rw [rgood_f ho, Option.bind_some]
  unfold fin
  split <;> rfl
theorem j3_f (k : Nat) (o : List Rn) (d : Int) (hk : 1 ≤ k) (ho : o.length ≤ 4000000000000) : variorumref06_Norm.j3 k o d = some (fin (o ++ (if 0 < d then [⟨0, E, d⟩] else []))) := by
  obtain ⟨k, rfl⟩ : ∃ m, k = m + 1 := ⟨k - 1, by omega⟩
  simp only [variorumref06_Norm.j3]
  by_cases h : d > 0
  · rw [if_pos h, if_pos (show 0 < d from h), if_pos (by omega), Option.bind_some]
    exact fin_bind _ (by simp; omega)
  · rw [if_neg h, if_neg (show ¬ 0 < d from h), List.append_nil]
    exact fin_bind _ (by omega)
theorem l1_end (f : List Rn) (hf : f.length ≤ 4000000) (k : Nat) (o : List Rn) (a : ByteArray) (d : Int) (hk : 2 ≤ k) (ho : o.length ≤ 3000000000000) :
    variorumref06_Norm.l1 k f o a d 0 ((f.length : Int) + 1) = some (fin (o ++ fl 0 a d)) := by
  obtain ⟨k, rfl⟩ : ∃ m, k = m + 1 := ⟨k - 1, by omega⟩
  simp only [variorumref06_Norm.l1]
  rw [if_neg (by omega)]
  by_cases h : a.size = 0
  · rw [if_pos (tl_nil.2 h), j3_f k o d (by omega) (by omega)]
    unfold fl
    rw [if_neg (show ¬ (0 : Int) < 0 by decide), if_neg (show ¬ a.size ≠ 0 from fun h2 => h2 h)]
    rfl
  · rw [if_neg (fun h2 => h (tl_nil.1 h2)), if_pos (by omega), j3_f k _ d (by omega) (by simp; omega)]
    unfold fl
    rw [if_neg (show ¬ (0 : Int) < 0 by decide), if_pos h, List.append_assoc]
    rfl
theorem jn_keep (l : List Rn) (h : ∀ r ∈ l, knd r ≠ 0) : ∀ (k : Int) (a : ByteArray) (d : Int), 0 ≤ k → 0 ≤ d → (a.size ≠ 0 ∨ 0 < d) → jn l k a d = (if 0 < k then [⟨k, E, 0⟩] else []) ++ jn l 0 a d := by
  have hfl : ∀ (k : Int) (a : ByteArray) (d : Int), fl k a d = (if 0 < k then [⟨k, E, 0⟩] else []) ++ fl 0 a d := fun k a d => by
    show _ = _ ++ ((if (0 : Int) < 0 then _ else _) ++ _)
    rw [if_neg (show ¬ (0 : Int) < 0 by decide)]; rfl
  induction l with
  | nil => intro k a d _ _ _; exact hfl k a d
  | cons r l ih =>
    intro k a d hk hd hp
    have h2 : ∀ x ∈ l, knd x ≠ 0 := fun x hx => h x (List.mem_cons_of_mem _ hx)
    have hpos := knd_pos (h r List.mem_cons_self)
    by_cases c : knd r = 1
    · rw [jn_flush c hp, jn_flush c hp, hfl k a d, List.append_assoc]
    · have h0 : r.f0 = 0 := by
        rcases knd_three (h r List.mem_cons_self) with c2 | c2 | c2
        · exact absurd c2 c
        · exact (run_eq2 c2).2.1
        · exact (run_eq3 c2).2.1
      rw [jn_on (fun h => c h.1), jn_on (fun h => c h.1), h0, Int.add_zero, Int.add_zero]
      refine ih h2 k _ _ hk (by omega) ?_
      rw [size_add]
      omega
set_option maxHeartbeats 4000000 in
theorem l1_f (f : List Rn) (hf : ∀ r ∈ f, knd r ≠ 0) (hl : f.length ≤ 4000000) : ∀ (suf pre : List Rn) (k : Nat) (o : List Rn) (a : ByteArray) (d kp : Int), f = pre ++ suf → 2 * suf.length + 8 ≤ k → (kp = 0 ∨ (a.size = 0 ∧ d = 0)) → 0 ≤ kp → 0 ≤ d →
    kp + d + inL suf ≤ 16777216 → kp + (a.size : Int) + outL suf ≤ 16777216 → o.length + 3 * suf.length ≤ 2000000000000 → variorumref06_Norm.l1 k f o a d kp (pre.length : Int) = some (fin (o ++ jn suf kp a d)) := by
  intro suf
  induction suf with
  | nil =>
    intro pre k o a d kp hfe hk hst hkp hd hi ho hol
    have hpl : f.length = pre.length := by rw [hfe]; simp
    obtain ⟨k, rfl⟩ : ∃ m, k = m + 2 := ⟨k - 2, by simp at hk; omega⟩
    have hend := fun (o' : List Rn) (h : o'.length ≤ 3000000000000) => l1_end f hl k o' a d (by simp at hk; omega) h
    simp only [variorumref06_Norm.l1]
    rw [if_pos (by omega), if_neg (by omega)]
    simp only [variorumref06_Norm.j2]
    rw [if_neg (by simp)]
    rw [w64 (x := (pre.length : Int) + 1) (by omega) (by omega), show (pre.length : Int) + 1 = (f.length : Int) + 1 by omega]
    by_cases h : kp > 0
    · rw [if_pos h, if_pos (by simp at hol; omega), Option.bind_some, if_neg (by omega), hend _ (by simp at hol ⊢; omega)]
      show _ = some (fin (o ++ fl kp a d))
      rw [List.append_assoc]
      unfold fl
      rw [if_pos (show 0 < kp from h), if_neg (show ¬ (0 : Int) < 0 by decide)]
      rfl
    · obtain rfl : kp = 0 := by omega
      rw [if_neg h, if_neg (by omega), hend _ (by simp at hol; omega)]
      rfl
  | cons r suf ih =>
    intro pre k o a d kp hfe hk hst hkp hd hi ho hol
    obtain ⟨k, rfl⟩ : ∃ m, k = m + 2 := ⟨k - 2, by simp at hk; omega⟩
    obtain ⟨hl2, hn, hlt⟩ := snoc hfe
    have hne := hf r (by rw [hfe]; simp)
    have hsuf : ∀ x ∈ suf, knd x ≠ 0 := fun x hx => hf x (by rw [hfe]; simp [hx])
    have hp := knd_pos hne
    have hs := inL_nonneg hsuf
    have hz := rd_at hfe
    simp only [inL, outL] at hi ho
    have next := fun o' a' d' kp' => ih (pre ++ [r]) k o' a' d' kp' hl2 (by simp at hk; omega)
    rw [hn] at next
    simp only [List.length_cons] at hol hk
    simp only [variorumref06_Norm.l1]
    rw [if_pos (by omega), if_pos hlt, if_pos (by omega), hz, rkind_k r (by omega), Option.bind_some]
    simp only [variorumref06_Norm.j2]
    rw [hz, w64 (x := (pre.length : Int) + 1) (by omega) (by omega)]
    rcases knd_three hne with c | c | c
    · obtain ⟨e, e0, e1, e2⟩ := run_eq c
      rw [c, if_pos (show ((1 : Int) == 1) = true from rfl)]
      have hE : r.f1 = (⟨#[]⟩ : ByteArray) := e1
      have hr1 : (r.f1.size : Int) = 0 := by rw [e1]; rfl
      by_cases ha : a.size = 0
      · obtain rfl : a = E := eq_E ha
        rw [if_pos (tl_nil.2 ha)]
        by_cases hdp : d > 0
        · rw [if_pos hdp, if_pos (by omega), if_pos (by omega), if_pos hlt]
          have hk0 : kp = 0 := by omega
          subst hk0
          rw [w64 (x := 0 + r.f0) (by omega) (by omega), Int.zero_add, next _ _ _ _ (.inr ⟨rfl, rfl⟩) (by omega) (by omega) (by omega) (by show _ + ((E.size : Nat) : Int) + _ ≤ _; rw [E_size]; omega) (by simp; omega), jn_flush c (.inr hdp), e1, e2, List.append_assoc]
          unfold fl
          rw [if_neg (show ¬ (0 : Int) < 0 by decide), if_neg (show ¬ E.size ≠ 0 by decide), if_pos (show 0 < d from hdp)]
          rfl
        · obtain rfl : d = 0 := by omega
          rw [if_neg hdp, if_pos (by omega), if_pos hlt, w64 (x := kp + r.f0) (by omega) (by omega), next _ _ _ _ (.inr ⟨rfl, rfl⟩) (by omega) (by omega) (by omega) (by show _ + ((E.size : Nat) : Int) + _ ≤ _; rw [E_size]; rw [E_size] at ho; omega) (by omega),
            jn_on (fun h => h.2.elim (fun h => h rfl) (fun h => absurd h (by decide))), e1, e2, E_add]
          rfl
      · have hk0 : kp = 0 := by omega
        subst hk0
        rw [if_neg (fun h2 => ha (tl_nil.1 h2)), if_pos (by omega), Option.bind_some, w64 (x := 0 + r.f0) (by omega) (by omega), Int.zero_add, jn_flush c (.inl ha), e1, e2]
        by_cases hdp : d > 0
        · rw [if_pos hdp, if_pos (by simp; omega), if_pos (by omega), if_pos hlt, next _ _ _ _ (.inr ⟨rfl, rfl⟩) (by omega) (by omega) (by omega) (by show _ + ((E.size : Nat) : Int) + _ ≤ _; rw [E_size]; omega) (by simp; omega)]
          unfold fl
          rw [if_neg (show ¬ (0 : Int) < 0 by decide), if_pos ha, if_pos (show 0 < d from hdp)]
          simp [E]
        · obtain rfl : d = 0 := by omega
          rw [if_neg hdp, if_pos (by omega), if_pos hlt, next _ _ _ _ (.inr ⟨rfl, rfl⟩) (by omega) (by omega) (by omega) (by show _ + ((E.size : Nat) : Int) + _ ≤ _; rw [E_size]; omega) (by simp; omega)]
          unfold fl
          rw [if_neg (show ¬ (0 : Int) < 0 by decide), if_pos ha]
          simp [E]
    all_goals
      have c1 : ((knd r == 1) = true) = False := by rw [c]; simp
      have hr0 : r.f0 = 0 := by first | exact (run_eq2 c).2.1 | exact (run_eq3 c).2.1
      have hr2 : (r.f1.size : Int) + r.f2 > 0 := by
        first
        | (have := (run_eq2 c).2.2.1; have := (run_eq2 c).2.2.2; omega)
        | (have := (run_eq3 c).2.2.2; have h9 := (run_eq3 c).2.2.1; rw [h9, E_size]; omega)
      rw [if_neg (by rw [c1]; exact id)]
      have hnew : (a ++ r.f1).size ≠ 0 ∨ 0 < d + r.f2 := by rw [size_add]; omega
      have hon : jn (r :: suf) kp a d = (if 0 < kp then [⟨kp, E, 0⟩] else []) ++ jn suf 0 (a ++ r.f1) (d + r.f2) := by
        rw [jn_on (fun h => by rw [c] at h; exact absurd h.1 (by decide)), hr0, Int.add_zero]
        exact jn_keep suf hsuf kp _ _ hkp (by omega) hnew
      have hgo := fun o' h => next o' (a ++ r.f1) (d + r.f2) 0 (.inl rfl) (by decide) (by omega) (by omega) (by rw [size_add]; omega) h
      rw [hon, w64 (x := d + r.f2) (by omega) (by omega)]
      by_cases h : kp > 0
      · rw [if_pos h, if_pos (by omega), Option.bind_some, if_pos hlt, if_pos (by omega), if_pos (by omega), hgo _ (by simp; omega), if_pos (show 0 < kp from h), List.append_assoc]
        rfl
      · rw [if_neg h, if_pos hlt, if_pos (by omega), if_pos (by omega), hgo _ (by omega), if_neg (show ¬ 0 < kp from h)]
        rfl
theorem l0_f (l : List Rn) (hl : l.length ≤ 4000000) : ∀ (suf pre : List Rn) (k : Nat), l = pre ++ suf → suf.length + 2 * l.length + 12 ≤ k → variorumref06_Norm.l0 k l (fine pre) (pre.length : Int) = some (norm l) := by
  intro suf
  induction suf with
  | nil =>
    intro pre k hfe hk
    obtain rfl : l = pre := by rw [hfe]; simp
    obtain ⟨k, rfl⟩ : ∃ m, k = m + 1 := ⟨k - 1, by simp at hk; omega⟩
    have hfl := fine_len l
    simp only [List.length_nil] at hk
    simp only [variorumref06_Norm.l0]
    rw [if_neg (by omega), rsums_f (by omega) (fine_ok l) k (by omega), Option.bind_some]
    unfold norm
    cases h : fits (fine l) 0 0 with
    | false => rfl
    | true =>
      have hs := (fits_iff (fine_ok l) 0 0 (by decide) (by decide)).1 h
      have := l1_f (fine l) (fine_ok l) (by omega) (fine l) [] k [] E 0 0 rfl (by omega) (.inl rfl) (by decide) (by decide) (by omega) (by rw [E_size]; omega) (by simp; omega)
      rw [show ((([] : List Rn).length : Nat) : Int) = 0 from rfl] at this
      simp only [cond_true, if_true]
      exact this
  | cons r suf ih =>
    intro pre k hfe hk
    obtain ⟨k, rfl⟩ : ∃ m, k = m + 1 := ⟨k - 1, by simp at hk; omega⟩
    obtain ⟨hl2, hn, hlt⟩ := snoc hfe
    simp only [List.length_cons] at hk
    have next := ih (pre ++ [r]) k hl2 (by omega)
    rw [hn, fine_append] at next
    have hpl := fine_len pre
    simp only [variorumref06_Norm.l0]
    rw [if_pos hlt, if_pos (by omega), rd_at hfe, rkind_k r (by omega), Option.bind_some, w64 (x := (pre.length : Int) + 1) (by omega) (by omega)]
    by_cases c : knd r = 0
    · have hfr : fine [r] = [] := by rw [fine_cons, if_neg (fun h => h c)]; rfl
      rw [hfr, List.append_nil] at next
      rw [c, if_neg (by decide), next]
    · have hfr : fine [r] = [r] := by rw [fine_cons, if_pos c]; rfl
      rw [hfr] at next
      rw [if_pos (by rcases knd_three c with h | h | h <;> omega), if_pos (by omega)]
      exact next
theorem rnorm_f {l : List Rn} (hl : l.length ≤ 4000000) (k : Nat) (hk : 3 * l.length + 12 ≤ k) : variorumref06_Norm.f k l = some (norm l) := by
  unfold variorumref06_Norm.f
  exact l0_f l hl l [] k rfl (by omega)
theorem norm_f {l : List Rn} (hl : l.length ≤ 4000000) : edit_Norm.f l = some (norm l) := by unfold edit_Norm.f; rw [if_pos hl]
/-- Whether two edits are the same. -/
theorem tl_inj {a b : ByteArray} (h : a.toList = b.toList) : a = b := by
  rw [ByteArray.toList_eq, ByteArray.toList_eq] at h
  obtain ⟨⟨x⟩⟩ := a
  obtain ⟨⟨y⟩⟩ := b
  have : x = y := h
  rw [this]
theorem run_ne {x y : Rn} : (!(x.f0 == y.f0) || (!(x.f1.toList == y.f1.toList) || (!(x.f2 == y.f2)))) = true ↔ x ≠ y := by
  rw [Bool.or_eq_true, Bool.or_eq_true, Bool.not_eq_true', Bool.not_eq_true', Bool.not_eq_true', beq_eq_false_iff_ne, beq_eq_false_iff_ne, beq_eq_false_iff_ne]
  obtain ⟨a, b, c⟩ := x
  obtain ⟨a', b', c'⟩ := y
  simp only
  constructor
  · rintro h e
    injection e with e1 e2 e3
    subst e1; subst e2; subst e3
    rcases h with h | h | h <;> exact h rfl
  · intro h
    by_cases h1 : a = a'
    · by_cases h3 : c = c'
      · refine .inr (.inl fun e => h ?_)
        rw [h1, h3, tl_inj e]
      · exact .inr (.inr h3)
    · exact .inl h1
theorem same_l (x y : List Rn) (hx : x.length ≤ 140737488351232) : ∀ (s t pre pre' : List Rn) (k : Nat), x = pre ++ s → y = pre' ++ t → pre.length = pre'.length → s.length = t.length → s.length < k →
    ∃ b, variorumref06_Same.l0 k x y (pre.length : Int) = some b ∧ (b = true ↔ s = t) := by
  intro s
  induction s with
  | nil =>
    intro t pre pre' k hxe hye hpp hst hk
    obtain ⟨k, rfl⟩ : ∃ m, k = m + 1 := ⟨k - 1, by omega⟩
    obtain rfl : t = [] := List.eq_nil_of_length_eq_zero hst.symm
    have : x.length = pre.length := by rw [hxe]; simp
    simp only [variorumref06_Same.l0]
    rw [if_neg (by omega)]
    exact ⟨true, rfl, by simp⟩
  | cons r s ih =>
    intro t pre pre' k hxe hye hpp hst hk
    obtain ⟨k, rfl⟩ : ∃ m, k = m + 1 := ⟨k - 1, by omega⟩
    cases t with
    | nil => simp at hst
    | cons q t =>
      obtain ⟨hl2, hn, hlt⟩ := snoc hxe
      obtain ⟨hl2', hn', hlt'⟩ := snoc hye
      obtain ⟨b, hb, hb2⟩ := ih t (pre ++ [r]) (pre' ++ [q]) k hl2 hl2' (by simp [hpp]) (by simpa using hst) (by simp at hk; omega)
      rw [hn] at hb
      simp only [variorumref06_Same.l0]
      rw [if_pos hlt, if_pos (by omega), if_pos (by omega), rd_at hxe, w64 (x := (pre.length : Int) + 1) (by omega) (by omega), hb]
      have e2 : rd_T37 y (pre.length : Int) = q := by rw [hpp]; exact rd_at hye
      rw [e2]
      by_cases h : r = q
      · rw [if_neg (fun h2 => run_ne.1 h2 h)]
        exact ⟨b, rfl, by rw [hb2]; simp [h]⟩
      · rw [if_pos (run_ne.2 h)]
        exact ⟨false, rfl, by simp [h]⟩
theorem same_f {x y : List Rn} (hx : x.length ≤ 140737488351232) (k : Nat) (hk : x.length < k) : ∃ b, variorumref06_Same.f k x y = some b ∧ (b = true ↔ x = y) := by
  unfold variorumref06_Same.f
  by_cases h : x.length = y.length
  · rw [if_pos (by omega)]
    exact same_l x y hx x y [] [] k rfl rfl rfl h hk
  · rw [if_neg (by omega)]
    exact ⟨false, rfl, by simp; intro e; exact h (by rw [e])⟩
theorem same_eq (x : List Rn) (hx : x.length ≤ 140737488351232) (k : Nat) (hk : x.length < k) : variorumref06_Same.f k x x = some true := by
  obtain ⟨b, h1, h2⟩ := same_f (y := x) hx k hk
  rw [h1, h2.2 rfl]
end Go.Proofs.Ythocalfgeaclgaa.EditH
end
-- MERGED YthocalfgeaclgaaPvariorumlaw06lives
section
-- Written by wip/myprint.py of this session, over the kit's print.py: a Lean function for each Go function, and the proof that the code comes to it.
namespace Go.Proofs.Ythocalfgeaclgaa.P
open Go.RowKit Go.Proofs.YthocalfgeaclgaaW.PrintWords Go.Proofs.YthocalfgeaclgaaW.PrintLast Go.Proofs.YthocalfgeaclgaaW.PrintMore
attribute [local go_sem] max2_int min2_int max_two min_two max_three min_three max_four min_four   -- for this text's walks alone
set_option linter.unusedVariables false
set_option linter.unusedSimpArgs false

/-! ### variorumlaw06_lives: function 22 -/
def variorumlaw06_lives.f (k : Nat)  : Option (Bool) := (edit_Insert.f k 2 1 (⟨#[120]⟩ : ByteArray)).bind fun bt194 => (if bt194.2 = 0 then ((variorumref06_Same.f k bt194.1 (([(⟨1, (⟨#[]⟩ : ByteArray), 0⟩ : S37), (⟨0, (⟨#[120]⟩ : ByteArray), 0⟩ : S37), (⟨1, (⟨#[]⟩ : ByteArray), 0⟩ : S37)] : List (S37)))).bind fun t201 => (if t201 = true then ((edit_Norm.f (([(⟨0, (⟨#[]⟩ : ByteArray), 1⟩ : S37), (⟨0, (⟨#[120]⟩ : ByteArray), 0⟩ : S37), (⟨0, (⟨#[]⟩ : ByteArray), 2⟩ : S37)] : List (S37)))).bind fun t205 => ((variorumref06_Same.f k t205 (([(⟨0, (⟨#[120]⟩ : ByteArray), 0⟩ : S37), (⟨0, (⟨#[]⟩ : ByteArray), 3⟩ : S37)] : List (S37)))).bind fun t211 => (some t211))) else (some false))) else (some false))
theorem variorumlaw06_lives.mono : ∀ k, LeO (variorumlaw06_lives.f k ) (variorumlaw06_lives.f (k + 1) ) := by
  intro  k
  unfold variorumlaw06_lives.f
  repeat' first
      | (with_reducible exact edit_Insert.mono _ _ _ _)
      | (with_reducible exact variorumref06_Same.mono _ _ _)
      | (with_reducible exact LeO.refl _)
      | (with_reducible exact LeO.none _)
      | (with_reducible refine LeO.ite ?_ ?_)
      | (with_reducible refine LeO.bind ?_ (fun _ => ?_))
      | exact edit_Insert.mono _ _ _ _
      | exact variorumref06_Same.mono _ _ _
      | exact LeO.none _
      | refine LeO.ite ?_ ?_
      | refine LeO.bind ?_ (fun _ => ?_)
set_option maxHeartbeats 8000000 in
set_option maxRecDepth 100000 in
theorem variorumlaw06_lives.calls (k : Nat)  (r : Bool) (w : World) (h : variorumlaw06_lives.f k  = some r) :
    Calls Try.prog 22 #[] w fun e w' => e = .returned (.bool r) ∧ Below w.heap.size w w' := by
  have hu37 := Try.underlying37
  have HB := Aside0.mk (Below.refl w.heap.size w)
  have H : ((edit_Insert.f k 2 1 (⟨#[120]⟩ : ByteArray)).bind fun bt194 => (if bt194.2 = 0 then ((variorumref06_Same.f k bt194.1 (([(⟨1, (⟨#[]⟩ : ByteArray), 0⟩ : S37), (⟨0, (⟨#[120]⟩ : ByteArray), 0⟩ : S37), (⟨1, (⟨#[]⟩ : ByteArray), 0⟩ : S37)] : List (S37)))).bind fun t201 => (if t201 = true then ((edit_Norm.f (([(⟨0, (⟨#[]⟩ : ByteArray), 1⟩ : S37), (⟨0, (⟨#[120]⟩ : ByteArray), 0⟩ : S37), (⟨0, (⟨#[]⟩ : ByteArray), 2⟩ : S37)] : List (S37)))).bind fun t205 => ((variorumref06_Same.f k t205 (([(⟨0, (⟨#[120]⟩ : ByteArray), 0⟩ : S37), (⟨0, (⟨#[]⟩ : ByteArray), 3⟩ : S37)] : List (S37)))).bind fun t211 => (some t211))) else (some false))) else (some false))) = some r := h
  clear h
  replace H := Option.bind_eq_some_iff.mp H
  obtain ⟨⟨t194, t195⟩, A10, H⟩ := H
  replace H : (if t195 = 0 then ((variorumref06_Same.f k t194 (([(⟨1, (⟨#[]⟩ : ByteArray), 0⟩ : S37), (⟨0, (⟨#[120]⟩ : ByteArray), 0⟩ : S37), (⟨1, (⟨#[]⟩ : ByteArray), 0⟩ : S37)] : List (S37)))).bind fun t201 => (if t201 = true then ((edit_Norm.f (([(⟨0, (⟨#[]⟩ : ByteArray), 1⟩ : S37), (⟨0, (⟨#[120]⟩ : ByteArray), 0⟩ : S37), (⟨0, (⟨#[]⟩ : ByteArray), 2⟩ : S37)] : List (S37)))).bind fun t205 => ((variorumref06_Same.f k t205 (([(⟨0, (⟨#[120]⟩ : ByteArray), 0⟩ : S37), (⟨0, (⟨#[]⟩ : ByteArray), 3⟩ : S37)] : List (S37)))).bind fun t211 => (some t211))) else (some false))) else (some false)) = some r := H
  have A1 := Aside0.mk A10
  clear A10
  by_cases c2 : t195 = 0
  · rw [if_pos c2] at H
    have c2b0 : (t195 == 0) = true := beq_iff_eq.mpr c2
    have c2b1 : (t195 != 0) = false := bne_eq_false_iff_eq.mpr c2
    clear c2
    obtain ⟨y198, hy198⟩ : ∃ y_ : List (S37), y_ = (([(⟨1, (⟨#[]⟩ : ByteArray), 0⟩ : S37), (⟨0, (⟨#[120]⟩ : ByteArray), 0⟩ : S37), (⟨1, (⟨#[]⟩ : ByteArray), 0⟩ : S37)] : List (S37))) := ⟨_, rfl⟩
    replace H : ((variorumref06_Same.f k t194 y198).bind fun t201 => (if t201 = true then ((edit_Norm.f (([(⟨0, (⟨#[]⟩ : ByteArray), 1⟩ : S37), (⟨0, (⟨#[120]⟩ : ByteArray), 0⟩ : S37), (⟨0, (⟨#[]⟩ : ByteArray), 2⟩ : S37)] : List (S37)))).bind fun t205 => ((variorumref06_Same.f k t205 (([(⟨0, (⟨#[120]⟩ : ByteArray), 0⟩ : S37), (⟨0, (⟨#[]⟩ : ByteArray), 3⟩ : S37)] : List (S37)))).bind fun t211 => (some t211))) else (some false))) = some r := by first | (rw [hy198]; with_reducible exact H) | (have H2_ := (Option.bind_some _ _).symm.trans H; rw [hy198]; with_reducible exact H2_) | (have H2_ := (Option.bind_some _ _).symm.trans H; with_reducible exact H2_) | with_reducible exact H | (rw [hy198]; exact H) | exact H
    have Ny198 := Aside0.mk hy198
    clear hy198
    replace H := Option.bind_eq_some_iff.mp H
    obtain ⟨t201, A30, H⟩ := H
    replace H : (if t201 = true then ((edit_Norm.f (([(⟨0, (⟨#[]⟩ : ByteArray), 1⟩ : S37), (⟨0, (⟨#[120]⟩ : ByteArray), 0⟩ : S37), (⟨0, (⟨#[]⟩ : ByteArray), 2⟩ : S37)] : List (S37)))).bind fun t205 => ((variorumref06_Same.f k t205 (([(⟨0, (⟨#[120]⟩ : ByteArray), 0⟩ : S37), (⟨0, (⟨#[]⟩ : ByteArray), 3⟩ : S37)] : List (S37)))).bind fun t211 => (some t211))) else (some false)) = some r := H
    have A3 := Aside0.mk A30
    clear A30
    by_cases c4 : t201 = true
    · subst c4
      have H1 : ((edit_Norm.f (([(⟨0, (⟨#[]⟩ : ByteArray), 1⟩ : S37), (⟨0, (⟨#[120]⟩ : ByteArray), 0⟩ : S37), (⟨0, (⟨#[]⟩ : ByteArray), 2⟩ : S37)] : List (S37)))).bind fun t205 => ((variorumref06_Same.f k t205 (([(⟨0, (⟨#[120]⟩ : ByteArray), 0⟩ : S37), (⟨0, (⟨#[]⟩ : ByteArray), 3⟩ : S37)] : List (S37)))).bind fun t211 => (some t211))) = some r := by rw [if_pos rfl] at H; exact H
      clear H
      have H := H1
      clear H1
      obtain ⟨y202, hy202⟩ : ∃ y_ : List (S37), y_ = (([(⟨0, (⟨#[]⟩ : ByteArray), 1⟩ : S37), (⟨0, (⟨#[120]⟩ : ByteArray), 0⟩ : S37), (⟨0, (⟨#[]⟩ : ByteArray), 2⟩ : S37)] : List (S37))) := ⟨_, rfl⟩
      replace H : ((edit_Norm.f y202).bind fun t205 => ((variorumref06_Same.f k t205 (([(⟨0, (⟨#[120]⟩ : ByteArray), 0⟩ : S37), (⟨0, (⟨#[]⟩ : ByteArray), 3⟩ : S37)] : List (S37)))).bind fun t211 => (some t211))) = some r := by first | (rw [hy202]; with_reducible exact H) | (have H2_ := (Option.bind_some _ _).symm.trans H; rw [hy202]; with_reducible exact H2_) | (have H2_ := (Option.bind_some _ _).symm.trans H; with_reducible exact H2_) | with_reducible exact H | (rw [hy202]; exact H) | exact H
      have Ny202 := Aside0.mk hy202
      clear hy202
      replace H := Option.bind_eq_some_iff.mp H
      obtain ⟨t205, A50, H⟩ := H
      replace H : ((variorumref06_Same.f k t205 (([(⟨0, (⟨#[120]⟩ : ByteArray), 0⟩ : S37), (⟨0, (⟨#[]⟩ : ByteArray), 3⟩ : S37)] : List (S37)))).bind fun t211 => (some t211)) = some r := H
      have A5 := Aside0.mk A50
      clear A50
      obtain ⟨y208, hy208⟩ : ∃ y_ : List (S37), y_ = (([(⟨0, (⟨#[120]⟩ : ByteArray), 0⟩ : S37), (⟨0, (⟨#[]⟩ : ByteArray), 3⟩ : S37)] : List (S37))) := ⟨_, rfl⟩
      replace H : ((variorumref06_Same.f k t205 y208).bind fun t211 => (some t211)) = some r := by first | (rw [hy208]; with_reducible exact H) | (have H2_ := (Option.bind_some _ _).symm.trans H; rw [hy208]; with_reducible exact H2_) | (have H2_ := (Option.bind_some _ _).symm.trans H; with_reducible exact H2_) | with_reducible exact H | (rw [hy208]; exact H) | exact H
      have Ny208 := Aside0.mk hy208
      clear hy208
      replace H := Option.bind_eq_some_iff.mp H
      obtain ⟨t211, A60, H⟩ := H
      replace H : (some t211) = some r := H
      have A6 := Aside0.mk A60
      clear A60
      obtain rfl := Option.some.inj H
      go_enter Try.func22, Try.ntmps22
      go_wp2_with (first | ((with_reducible refine gate_callee (f := 32) rfl ?_); refine goesL_ (some 4) rfl rfl Try.func32 (by kernel_rfl) rfl #[.int .i64 2, .int .i64 1, .string (⟨#[120]⟩ : ByteArray)] rfl (by (try simp only [List.map_toArray, List.map_cons, List.map_nil]); first | done | rfl | (simp only [List.length_drop, List.length_take]; rfl)) ?_; (with_reducible refine (edit_Insert.calls k 2 1 (⟨#[120]⟩ : ByteArray) t194 t195 _ A1.out).mono ?_); rintro e w7 ⟨v196, rfl, ho0, hb⟩; refine ⟨_, rfl, ?_⟩; have n0_ := Aside0.mk (Kd.R_lower ho0 (below_size (by repeat (first | (with_reducible first | exact HB.out | apply below_alloc | apply pw_below_drewN | apply below_drew1) | exact HB.out)))); have n1_ := Aside0.mk (below_step (by repeat (first | (with_reducible first | exact HB.out | apply below_alloc | apply pw_below_drewN | apply below_drew1) | exact HB.out)) hb); clear HB; have HO197 := n0_; have HB := n1_; clear n0_ n1_; (try clear hb); (try clear hb2); (try clear hk); (try clear hi); (try clear ho0)) | ((with_reducible refine gate_dst (N := 14) rfl ?_); (try (refine gate_guard (by rfl) ?_; dsimp only)); refine Kd.R_lit k37 _ 37 ?hg (N := 14) ?hd (xs := ([(⟨1, (⟨#[]⟩ : ByteArray), 0⟩ : S37), (⟨0, (⟨#[120]⟩ : ByteArray), 0⟩ : S37), (⟨1, (⟨#[]⟩ : ByteArray), 0⟩ : S37)] : List (S37))) (inner := [.int .i64 1, .string (⟨#[]⟩ : ByteArray), .int .i64 0, .int .i64 0, .string (⟨#[120]⟩ : ByteArray), .int .i64 0, .int .i64 1, .string (⟨#[]⟩ : ByteArray), .int .i64 0]) (ok := fun _ => True) (okp := fun _ => True) ?hr ?hp (fun _ hk => hk) trivial (Below.refl _ _) (Nat.le_refl _) (by simp) ?_; (case hd => rfl); (case hg => rfl); (case hr => first | (go_simp; done) | (go_simp; rfl)); (case hp => exact (Reps.c3 (show Kd.M k37 _ _ _ (⟨1, (⟨#[]⟩ : ByteArray), 0⟩ : S37) [.int .i64 1, .string (⟨#[]⟩ : ByteArray), .int .i64 0] from (k37_mkM _ _ _ (⟨1, (⟨#[]⟩ : ByteArray), 0⟩ : S37) )) (Reps.c3 (show Kd.M k37 _ _ _ (⟨0, (⟨#[120]⟩ : ByteArray), 0⟩ : S37) [.int .i64 0, .string (⟨#[120]⟩ : ByteArray), .int .i64 0] from (k37_mkM _ _ _ (⟨0, (⟨#[120]⟩ : ByteArray), 0⟩ : S37) )) (Reps.c3 (show Kd.M k37 _ _ _ (⟨1, (⟨#[]⟩ : ByteArray), 0⟩ : S37) [.int .i64 1, .string (⟨#[]⟩ : ByteArray), .int .i64 0] from (k37_mkM _ _ _ (⟨1, (⟨#[]⟩ : ByteArray), 0⟩ : S37) )) (Reps.none _ _))))); intro v199 w8 ho9 hb hg_ hnew_; clear hg_ hnew_; (first | rw [← Ny198.out] at ho9 | (simp only [Int.reduceToNat] at ho9; rw [← Ny198.out] at ho9)); have n0_ := Aside0.mk (Kd.R_elder' (by (with_reducible repeat (first | apply Kd.R_alloc | apply Kd.R_drewN | apply Kd.R_drew)); exact HO197.out) (Kd.R_base ho9) hb); have n1_ := Aside0.mk (Kd.R_lower (Kd.R_new' ho9 (Kd.R_lt (by (with_reducible repeat (first | apply Kd.R_alloc | apply Kd.R_drewN | apply Kd.R_drew)); exact HO197.out))) (below_size (by repeat (first | (with_reducible first | exact HB.out | apply below_alloc | apply pw_below_drewN | apply below_drew1) | exact HB.out)))); have n2_ := Aside0.mk (below_step (by repeat (first | (with_reducible first | exact HB.out | apply below_alloc | apply pw_below_drewN | apply below_drew1) | exact HB.out)) hb); clear HO197; clear HB; have HO197 := n0_; have HO200 := n1_; have HB := n2_; clear n0_ n1_ n2_; clear hb ho9; obtain ⟨Ao10, co10, eo10⟩ := Kd.R_slice HO197.out; subst eo10; obtain ⟨Ao11, co11, eo11⟩ := Kd.R_slice HO200.out; subst eo11) | (go_at_call 25; (with_reducible refine (variorumref06_Same.calls k _ _ t194 _ _ y198 true _ ?side1 ?side2 ?side3 ?side4 A3.out).mono ?_); (case side1 => repeat (first | exact (Kd.R_reads' HO197.out).2.2 | (with_reducible refine Kd.C_alloc ?_ _) | (with_reducible refine Kd.C_drewN ?_ _) | (with_reducible refine Kd.C_drew ?_))); (case side2 => exact (Kd.R_reads' HO197.out).2.1); (case side3 => repeat (first | exact (Kd.R_reads' HO200.out).2.2 | (with_reducible refine Kd.C_alloc ?_ _) | (with_reducible refine Kd.C_drewN ?_ _) | (with_reducible refine Kd.C_drew ?_))); (case side4 => exact (Kd.R_reads' HO200.out).2.1); rintro e w' ⟨rfl, ⟨nd, rfl⟩⟩) | ((with_reducible refine gate_dst (N := 21) rfl ?_); (try (refine gate_guard (by rfl) ?_; dsimp only)); refine Kd.R_lit k37 _ 37 ?hg (N := 21) ?hd (xs := ([(⟨0, (⟨#[]⟩ : ByteArray), 1⟩ : S37), (⟨0, (⟨#[120]⟩ : ByteArray), 0⟩ : S37), (⟨0, (⟨#[]⟩ : ByteArray), 2⟩ : S37)] : List (S37))) (inner := [.int .i64 0, .string (⟨#[]⟩ : ByteArray), .int .i64 1, .int .i64 0, .string (⟨#[120]⟩ : ByteArray), .int .i64 0, .int .i64 0, .string (⟨#[]⟩ : ByteArray), .int .i64 2]) (ok := fun _ => True) (okp := fun _ => True) ?hr ?hp (fun _ hk => hk) trivial (Below.refl _ _) (Nat.le_refl _) (by simp) ?_; (case hd => rfl); (case hg => rfl); (case hr => first | (go_simp; done) | (go_simp; rfl)); (case hp => exact (Reps.c3 (show Kd.M k37 _ _ _ (⟨0, (⟨#[]⟩ : ByteArray), 1⟩ : S37) [.int .i64 0, .string (⟨#[]⟩ : ByteArray), .int .i64 1] from (k37_mkM _ _ _ (⟨0, (⟨#[]⟩ : ByteArray), 1⟩ : S37) )) (Reps.c3 (show Kd.M k37 _ _ _ (⟨0, (⟨#[120]⟩ : ByteArray), 0⟩ : S37) [.int .i64 0, .string (⟨#[120]⟩ : ByteArray), .int .i64 0] from (k37_mkM _ _ _ (⟨0, (⟨#[120]⟩ : ByteArray), 0⟩ : S37) )) (Reps.c3 (show Kd.M k37 _ _ _ (⟨0, (⟨#[]⟩ : ByteArray), 2⟩ : S37) [.int .i64 0, .string (⟨#[]⟩ : ByteArray), .int .i64 2] from (k37_mkM _ _ _ (⟨0, (⟨#[]⟩ : ByteArray), 2⟩ : S37) )) (Reps.none _ _))))); intro v203 w12 ho13 hb hg_ hnew_; clear hg_ hnew_; (first | rw [← Ny202.out] at ho13 | (simp only [Int.reduceToNat] at ho13; rw [← Ny202.out] at ho13)); have n0_ := Aside0.mk (Kd.R_elder' (by (with_reducible repeat (first | apply Kd.R_alloc | apply Kd.R_drewN | apply Kd.R_drew)); exact HO197.out) (Kd.R_base ho13) hb); have n1_ := Aside0.mk (Kd.R_elder' (by (with_reducible repeat (first | apply Kd.R_alloc | apply Kd.R_drewN | apply Kd.R_drew)); exact HO200.out) (Kd.R_base ho13) hb); have n2_ := Aside0.mk (Kd.R_lower (Kd.R_new' (Kd.R_new' ho13 (Kd.R_lt (by (with_reducible repeat (first | apply Kd.R_alloc | apply Kd.R_drewN | apply Kd.R_drew)); exact HO197.out))) (Kd.R_lt (by (with_reducible repeat (first | apply Kd.R_alloc | apply Kd.R_drewN | apply Kd.R_drew)); exact HO200.out))) (below_size (by repeat (first | (with_reducible first | exact HB.out | apply below_alloc | apply pw_below_drewN | apply below_drew1) | exact HB.out)))); have n3_ := Aside0.mk (below_step (by repeat (first | (with_reducible first | exact HB.out | apply below_alloc | apply pw_below_drewN | apply below_drew1) | exact HB.out)) hb); clear HO197; clear HO200; clear HB; have HO197 := n0_; have HO200 := n1_; have HO204 := n2_; have HB := n3_; clear n0_ n1_ n2_ n3_; clear hb ho13; obtain ⟨Ao14, co14, eo14⟩ := Kd.R_slice HO204.out; subst eo14) | (go_at_call 23; (with_reducible refine (edit_Norm.calls _ _ y202 t205 _ ?side1 ?side2 A5.out).mono ?_); (case side1 => repeat (first | exact (Kd.R_reads' HO204.out).2.2 | (with_reducible refine Kd.C_alloc ?_ _) | (with_reducible refine Kd.C_drewN ?_ _) | (with_reducible refine Kd.C_drew ?_))); (case side2 => exact (Kd.R_reads' HO204.out).2.1); rintro e w15 ⟨v206, rfl, ho0, hb⟩; have n0_ := Aside0.mk (Kd.R_elder' (by (with_reducible repeat (first | apply Kd.R_alloc | apply Kd.R_drewN | apply Kd.R_drew)); exact HO197.out) (Kd.R_base ho0) hb); have n1_ := Aside0.mk (Kd.R_elder' (by (with_reducible repeat (first | apply Kd.R_alloc | apply Kd.R_drewN | apply Kd.R_drew)); exact HO200.out) (Kd.R_base ho0) hb); have n2_ := Aside0.mk (Kd.R_elder' (by (with_reducible repeat (first | apply Kd.R_alloc | apply Kd.R_drewN | apply Kd.R_drew)); exact HO204.out) (Kd.R_base ho0) hb); have n3_ := Aside0.mk (Kd.R_lower (Kd.R_new' (Kd.R_new' (Kd.R_new' ho0 (Kd.R_lt (by (with_reducible repeat (first | apply Kd.R_alloc | apply Kd.R_drewN | apply Kd.R_drew)); exact HO197.out))) (Kd.R_lt (by (with_reducible repeat (first | apply Kd.R_alloc | apply Kd.R_drewN | apply Kd.R_drew)); exact HO200.out))) (Kd.R_lt (by (with_reducible repeat (first | apply Kd.R_alloc | apply Kd.R_drewN | apply Kd.R_drew)); exact HO204.out))) (below_size (by repeat (first | (with_reducible first | exact HB.out | apply below_alloc | apply pw_below_drewN | apply below_drew1) | exact HB.out)))); have n4_ := Aside0.mk (below_step (by repeat (first | (with_reducible first | exact HB.out | apply below_alloc | apply pw_below_drewN | apply below_drew1) | exact HB.out)) hb); clear HO197; clear HO200; clear HO204; clear HB; have HO197 := n0_; have HO200 := n1_; have HO204 := n2_; have HO207 := n3_; have HB := n4_; clear n0_ n1_ n2_ n3_ n4_; (try clear hb); (try clear hb2); (try clear hk); (try clear hi); (try clear ho0)) | ((with_reducible refine gate_dst (N := 25) rfl ?_); (try (refine gate_guard (by rfl) ?_; dsimp only)); refine Kd.R_lit k37 _ 37 ?hg (N := 25) ?hd (xs := ([(⟨0, (⟨#[120]⟩ : ByteArray), 0⟩ : S37), (⟨0, (⟨#[]⟩ : ByteArray), 3⟩ : S37)] : List (S37))) (inner := [.int .i64 0, .string (⟨#[120]⟩ : ByteArray), .int .i64 0, .int .i64 0, .string (⟨#[]⟩ : ByteArray), .int .i64 3]) (ok := fun _ => True) (okp := fun _ => True) ?hr ?hp (fun _ hk => hk) trivial (Below.refl _ _) (Nat.le_refl _) (by simp) ?_; (case hd => rfl); (case hg => rfl); (case hr => first | (go_simp; done) | (go_simp; rfl)); (case hp => exact (Reps.c3 (show Kd.M k37 _ _ _ (⟨0, (⟨#[120]⟩ : ByteArray), 0⟩ : S37) [.int .i64 0, .string (⟨#[120]⟩ : ByteArray), .int .i64 0] from (k37_mkM _ _ _ (⟨0, (⟨#[120]⟩ : ByteArray), 0⟩ : S37) )) (Reps.c3 (show Kd.M k37 _ _ _ (⟨0, (⟨#[]⟩ : ByteArray), 3⟩ : S37) [.int .i64 0, .string (⟨#[]⟩ : ByteArray), .int .i64 3] from (k37_mkM _ _ _ (⟨0, (⟨#[]⟩ : ByteArray), 3⟩ : S37) )) (Reps.none _ _)))); intro v209 w16 ho17 hb hg_ hnew_; clear hg_ hnew_; (first | rw [← Ny208.out] at ho17 | (simp only [Int.reduceToNat] at ho17; rw [← Ny208.out] at ho17)); have n0_ := Aside0.mk (Kd.R_elder' (by (with_reducible repeat (first | apply Kd.R_alloc | apply Kd.R_drewN | apply Kd.R_drew)); exact HO197.out) (Kd.R_base ho17) hb); have n1_ := Aside0.mk (Kd.R_elder' (by (with_reducible repeat (first | apply Kd.R_alloc | apply Kd.R_drewN | apply Kd.R_drew)); exact HO200.out) (Kd.R_base ho17) hb); have n2_ := Aside0.mk (Kd.R_elder' (by (with_reducible repeat (first | apply Kd.R_alloc | apply Kd.R_drewN | apply Kd.R_drew)); exact HO204.out) (Kd.R_base ho17) hb); have n3_ := Aside0.mk (Kd.R_elder' (by (with_reducible repeat (first | apply Kd.R_alloc | apply Kd.R_drewN | apply Kd.R_drew)); exact HO207.out) (Kd.R_base ho17) hb); have n4_ := Aside0.mk (Kd.R_lower (Kd.R_new' (Kd.R_new' (Kd.R_new' (Kd.R_new' ho17 (Kd.R_lt (by (with_reducible repeat (first | apply Kd.R_alloc | apply Kd.R_drewN | apply Kd.R_drew)); exact HO197.out))) (Kd.R_lt (by (with_reducible repeat (first | apply Kd.R_alloc | apply Kd.R_drewN | apply Kd.R_drew)); exact HO200.out))) (Kd.R_lt (by (with_reducible repeat (first | apply Kd.R_alloc | apply Kd.R_drewN | apply Kd.R_drew)); exact HO204.out))) (Kd.R_lt (by (with_reducible repeat (first | apply Kd.R_alloc | apply Kd.R_drewN | apply Kd.R_drew)); exact HO207.out))) (below_size (by repeat (first | (with_reducible first | exact HB.out | apply below_alloc | apply pw_below_drewN | apply below_drew1) | exact HB.out)))); have n5_ := Aside0.mk (below_step (by repeat (first | (with_reducible first | exact HB.out | apply below_alloc | apply pw_below_drewN | apply below_drew1) | exact HB.out)) hb); clear HO197; clear HO200; clear HO204; clear HO207; clear HB; have HO197 := n0_; have HO200 := n1_; have HO204 := n2_; have HO207 := n3_; have HO210 := n4_; have HB := n5_; clear n0_ n1_ n2_ n3_ n4_ n5_; clear hb ho17; obtain ⟨Ao18, co18, eo18⟩ := Kd.R_slice HO207.out; subst eo18; obtain ⟨Ao19, co19, eo19⟩ := Kd.R_slice HO210.out; subst eo19) | (go_at_call 25; (with_reducible refine (variorumref06_Same.calls k _ _ t205 _ _ y208 t211 _ ?side1 ?side2 ?side3 ?side4 A6.out).mono ?_); (case side1 => repeat (first | exact (Kd.R_reads' HO207.out).2.2 | (with_reducible refine Kd.C_alloc ?_ _) | (with_reducible refine Kd.C_drewN ?_ _) | (with_reducible refine Kd.C_drew ?_))); (case side2 => exact (Kd.R_reads' HO207.out).2.1); (case side3 => repeat (first | exact (Kd.R_reads' HO210.out).2.2 | (with_reducible refine Kd.C_alloc ?_ _) | (with_reducible refine Kd.C_drewN ?_ _) | (with_reducible refine Kd.C_drew ?_))); (case side4 => exact (Kd.R_reads' HO210.out).2.1); rintro e w' ⟨rfl, ⟨nd, rfl⟩⟩))
      go_ret
      exact ⟨by first | rfl | (simp [errW_none, errW_some] <;> rfl) | (simp [*, errW_none, errW_some] <;> rfl), by repeat (first | (with_reducible first | exact HB.out | apply below_alloc | apply pw_below_drewN | apply below_drew1) | exact HB.out)⟩
    · replace c4 := Bool.eq_false_iff.mpr c4
      subst c4
      have H1 : (some false) = some r := by rw [if_neg (show ¬ (false = true) by decide)] at H; exact H
      clear H
      have H := H1
      clear H1
      obtain rfl := Option.some.inj H
      go_enter Try.func22, Try.ntmps22
      go_wp2_with (first | ((with_reducible refine gate_callee (f := 32) rfl ?_); refine goesL_ (some 4) rfl rfl Try.func32 (by kernel_rfl) rfl #[.int .i64 2, .int .i64 1, .string (⟨#[120]⟩ : ByteArray)] rfl (by (try simp only [List.map_toArray, List.map_cons, List.map_nil]); first | done | rfl | (simp only [List.length_drop, List.length_take]; rfl)) ?_; (with_reducible refine (edit_Insert.calls k 2 1 (⟨#[120]⟩ : ByteArray) t194 t195 _ A1.out).mono ?_); rintro e w20 ⟨v196, rfl, ho0, hb⟩; refine ⟨_, rfl, ?_⟩; have n0_ := Aside0.mk (Kd.R_lower ho0 (below_size (by repeat (first | (with_reducible first | exact HB.out | apply below_alloc | apply pw_below_drewN | apply below_drew1) | exact HB.out)))); have n1_ := Aside0.mk (below_step (by repeat (first | (with_reducible first | exact HB.out | apply below_alloc | apply pw_below_drewN | apply below_drew1) | exact HB.out)) hb); clear HB; have HO197 := n0_; have HB := n1_; clear n0_ n1_; (try clear hb); (try clear hb2); (try clear hk); (try clear hi); (try clear ho0)) | ((with_reducible refine gate_dst (N := 14) rfl ?_); (try (refine gate_guard (by rfl) ?_; dsimp only)); refine Kd.R_lit k37 _ 37 ?hg (N := 14) ?hd (xs := ([(⟨1, (⟨#[]⟩ : ByteArray), 0⟩ : S37), (⟨0, (⟨#[120]⟩ : ByteArray), 0⟩ : S37), (⟨1, (⟨#[]⟩ : ByteArray), 0⟩ : S37)] : List (S37))) (inner := [.int .i64 1, .string (⟨#[]⟩ : ByteArray), .int .i64 0, .int .i64 0, .string (⟨#[120]⟩ : ByteArray), .int .i64 0, .int .i64 1, .string (⟨#[]⟩ : ByteArray), .int .i64 0]) (ok := fun _ => True) (okp := fun _ => True) ?hr ?hp (fun _ hk => hk) trivial (Below.refl _ _) (Nat.le_refl _) (by simp) ?_; (case hd => rfl); (case hg => rfl); (case hr => first | (go_simp; done) | (go_simp; rfl)); (case hp => exact (Reps.c3 (show Kd.M k37 _ _ _ (⟨1, (⟨#[]⟩ : ByteArray), 0⟩ : S37) [.int .i64 1, .string (⟨#[]⟩ : ByteArray), .int .i64 0] from (k37_mkM _ _ _ (⟨1, (⟨#[]⟩ : ByteArray), 0⟩ : S37) )) (Reps.c3 (show Kd.M k37 _ _ _ (⟨0, (⟨#[120]⟩ : ByteArray), 0⟩ : S37) [.int .i64 0, .string (⟨#[120]⟩ : ByteArray), .int .i64 0] from (k37_mkM _ _ _ (⟨0, (⟨#[120]⟩ : ByteArray), 0⟩ : S37) )) (Reps.c3 (show Kd.M k37 _ _ _ (⟨1, (⟨#[]⟩ : ByteArray), 0⟩ : S37) [.int .i64 1, .string (⟨#[]⟩ : ByteArray), .int .i64 0] from (k37_mkM _ _ _ (⟨1, (⟨#[]⟩ : ByteArray), 0⟩ : S37) )) (Reps.none _ _))))); intro v199 w21 ho22 hb hg_ hnew_; clear hg_ hnew_; (first | rw [← Ny198.out] at ho22 | (simp only [Int.reduceToNat] at ho22; rw [← Ny198.out] at ho22)); have n0_ := Aside0.mk (Kd.R_elder' (by (with_reducible repeat (first | apply Kd.R_alloc | apply Kd.R_drewN | apply Kd.R_drew)); exact HO197.out) (Kd.R_base ho22) hb); have n1_ := Aside0.mk (Kd.R_lower (Kd.R_new' ho22 (Kd.R_lt (by (with_reducible repeat (first | apply Kd.R_alloc | apply Kd.R_drewN | apply Kd.R_drew)); exact HO197.out))) (below_size (by repeat (first | (with_reducible first | exact HB.out | apply below_alloc | apply pw_below_drewN | apply below_drew1) | exact HB.out)))); have n2_ := Aside0.mk (below_step (by repeat (first | (with_reducible first | exact HB.out | apply below_alloc | apply pw_below_drewN | apply below_drew1) | exact HB.out)) hb); clear HO197; clear HB; have HO197 := n0_; have HO200 := n1_; have HB := n2_; clear n0_ n1_ n2_; clear hb ho22; obtain ⟨Ao23, co23, eo23⟩ := Kd.R_slice HO197.out; subst eo23; obtain ⟨Ao24, co24, eo24⟩ := Kd.R_slice HO200.out; subst eo24) | (go_at_call 25; (with_reducible refine (variorumref06_Same.calls k _ _ t194 _ _ y198 false _ ?side1 ?side2 ?side3 ?side4 A3.out).mono ?_); (case side1 => repeat (first | exact (Kd.R_reads' HO197.out).2.2 | (with_reducible refine Kd.C_alloc ?_ _) | (with_reducible refine Kd.C_drewN ?_ _) | (with_reducible refine Kd.C_drew ?_))); (case side2 => exact (Kd.R_reads' HO197.out).2.1); (case side3 => repeat (first | exact (Kd.R_reads' HO200.out).2.2 | (with_reducible refine Kd.C_alloc ?_ _) | (with_reducible refine Kd.C_drewN ?_ _) | (with_reducible refine Kd.C_drew ?_))); (case side4 => exact (Kd.R_reads' HO200.out).2.1); rintro e w' ⟨rfl, ⟨nd, rfl⟩⟩))
      go_ret
      exact ⟨by first | rfl | (simp [errW_none, errW_some] <;> rfl) | (simp [*, errW_none, errW_some] <;> rfl), by repeat (first | (with_reducible first | exact HB.out | apply below_alloc | apply pw_below_drewN | apply below_drew1) | exact HB.out)⟩
  · rw [if_neg c2] at H
    have c2b0 : (t195 == 0) = false := beq_eq_false_iff_ne.mpr c2
    have c2b1 : (t195 != 0) = true := bne_iff_ne.mpr c2
    obtain rfl := Option.some.inj H
    go_enter Try.func22, Try.ntmps22
    go_wp2_with (first | ((with_reducible refine gate_callee (f := 32) rfl ?_); refine goesL_ (some 4) rfl rfl Try.func32 (by kernel_rfl) rfl #[.int .i64 2, .int .i64 1, .string (⟨#[120]⟩ : ByteArray)] rfl (by (try simp only [List.map_toArray, List.map_cons, List.map_nil]); first | done | rfl | (simp only [List.length_drop, List.length_take]; rfl)) ?_; (with_reducible refine (edit_Insert.calls k 2 1 (⟨#[120]⟩ : ByteArray) t194 t195 _ A1.out).mono ?_); rintro e w25 ⟨v196, rfl, ho0, hb⟩; refine ⟨_, rfl, ?_⟩; have n0_ := Aside0.mk (Kd.R_lower ho0 (below_size (by repeat (first | (with_reducible first | exact HB.out | apply below_alloc | apply pw_below_drewN | apply below_drew1) | exact HB.out)))); have n1_ := Aside0.mk (below_step (by repeat (first | (with_reducible first | exact HB.out | apply below_alloc | apply pw_below_drewN | apply below_drew1) | exact HB.out)) hb); clear HB; have HO197 := n0_; have HB := n1_; clear n0_ n1_; (try clear hb); (try clear hb2); (try clear hk); (try clear hi); (try clear ho0)))
    go_ret
    exact ⟨by first | rfl | (simp [errW_none, errW_some] <;> rfl) | (simp [*, errW_none, errW_some] <;> rfl), by repeat (first | (with_reducible first | exact HB.out | apply below_alloc | apply pw_below_drewN | apply below_drew1) | exact HB.out)⟩

end Go.Proofs.Ythocalfgeaclgaa.P
end
-- MERGED YthocalfgeaclgaaEditMk
section
/- What Insert, Delete and Nothing come to, in the program and in the reference; what they sum to; the chapter's examples. -/
namespace Go.Proofs.Ythocalfgeaclgaa.EditMk
open Go.RowKit Go.Proofs.Ythocalfgeaclgaa.P Go.Proofs.YthocalfgeaclgaaW.PrintWords Go.Proofs.YthocalfgeaclgaaW.PrintLast Go.Proofs.YthocalfgeaclgaaW.PrintMore Go.Proofs.Ythocalfgeaclgaa.EditL Go.Proofs.Ythocalfgeaclgaa.EditK Go.Proofs.Ythocalfgeaclgaa.EditF Go.Proofs.Ythocalfgeaclgaa.EditG Go.Proofs.Ythocalfgeaclgaa.EditH
set_option linter.unusedSimpArgs false
set_option linter.unusedVariables false

/-- A run that is right, or nothing. -/
def plain (r : Rn) : Prop := knd r ≠ 0 ∨ (r.f0 = 0 ∧ r.f1.size = 0 ∧ r.f2 = 0)
theorem plain_keep {k : Int} (h : 0 ≤ k) : plain ⟨k, E, 0⟩ := by
  by_cases h1 : 0 < k
  · exact .inl (by rw [knd_keep h1]; decide)
  · exact .inr ⟨by show k = 0; omega, rfl, rfl⟩
theorem plain_add (a : ByteArray) : plain ⟨0, a, 0⟩ := by
  by_cases h : a.size = 0
  · exact .inr ⟨rfl, h, rfl⟩
  · exact .inl (by rw [knd_add h]; decide)
theorem plain_drop {d : Int} (h : 0 ≤ d) : plain ⟨0, E, d⟩ := by
  by_cases h1 : 0 < d
  · exact .inl (by rw [knd_drop h1]; decide)
  · exact .inr ⟨rfl, rfl, by show d = 0; omega⟩
theorem sums_fine {l : List Rn} (h : ∀ r ∈ l, plain r) : inL (fine l) = inL l ∧ outL (fine l) = outL l := by
  induction l with
  | nil => exact ⟨rfl, rfl⟩
  | cons r l ih =>
    have h1 := ih fun x hx => h x (List.mem_cons_of_mem _ hx)
    have h2 := h r List.mem_cons_self
    rw [fine_cons]
    by_cases c : knd r = 0
    · rw [if_neg (fun h => h c)]
      rcases h2 with h2 | h2
      · exact absurd c h2
      · simp only [inL, outL]; omega
    · rw [if_pos c]
      simp only [inL, outL]; omega
theorem norm_plain {l : List Rn} (h : ∀ r ∈ l, plain r) (hi : inL l ≤ 16777216) (ho : outL l ≤ 16777216) (hl : 3 * l.length + 3 ≤ 65536) : good (norm l) = true ∧ inL (norm l) = inL l ∧ outL (norm l) = outL l := by
  have h1 := sums_fine h
  have h2 := norm_sums (l := l) ((fits_iff (fine_ok l) 0 0 (by decide) (by decide)).2 (by omega)) hl
  exact ⟨h2.1, h2.2.1.trans h1.1, h2.2.2.trans h1.2⟩
def ins3 (n at_ : Int) (s : ByteArray) : List Rn := [⟨at_, E, 0⟩, ⟨0, s, 0⟩, ⟨n - at_, E, 0⟩]
def del3 (n at_ many : Int) : List Rn := [⟨at_, E, 0⟩, ⟨0, E, many⟩, ⟨n - at_ - many, E, 0⟩]
def insL (n at_ : Int) (s : ByteArray) : List Rn × Int :=
  if n < 0 ∨ 16777216 < n then ([], 2) else if at_ < 0 ∨ n < at_ then ([], 30) else if (s.size : Int) > 16777216 - n then ([], 31) else (norm (ins3 n at_ s), 0)
def delL (n at_ many : Int) : List Rn × Int :=
  if n < 0 ∨ 16777216 < n then ([], 2) else if at_ < 0 ∨ n < at_ ∨ many < 0 ∨ n - at_ < many then ([], 30) else (norm (del3 n at_ many), 0)
theorem insert_f (n at_ : Int) (s : ByteArray) (k : Nat) (hk : 2 ≤ k) : edit_Insert.f k n at_ s = some (insL n at_ s) := by
  obtain ⟨k, rfl⟩ : ∃ m, k = m + 2 := ⟨k - 2, by omega⟩
  unfold edit_Insert.f insL
  by_cases h1 : n < 0
  · rw [if_pos h1, if_pos (.inl h1)]; rfl
  · rw [if_neg h1]
    simp only [edit_Insert.j0]
    by_cases h2 : 16777216 < n
    · rw [if_pos (decide_eq_true (show n > 16777216 from h2)), if_pos (show n < 0 ∨ 16777216 < n from .inr h2)]
    · rw [if_neg (show ¬ decide (n > 16777216) = true by simp; omega), if_neg (show ¬ (n < 0 ∨ 16777216 < n) by omega)]
      by_cases h3 : at_ < 0
      · rw [if_pos h3, if_pos (.inl h3)]; rfl
      · rw [if_neg h3]
        simp only [edit_Insert.j1]
        by_cases h4 : n < at_
        · rw [if_pos (decide_eq_true (show at_ > n from h4)), if_pos (show at_ < 0 ∨ n < at_ from .inr h4)]
        · rw [if_neg (show ¬ decide (at_ > n) = true by simp; omega), if_neg (show ¬ (at_ < 0 ∨ n < at_) by omega), w64 (x := 16777216 - n) (by omega) (by omega), w64 (x := n - at_) (by omega) (by omega)]
          by_cases h5 : (s.size : Int) > 16777216 - n
          · rw [if_pos h5, if_pos h5]
          · rw [if_neg h5, if_neg h5]
            exact congrArg (fun o => Option.bind o fun t => some (t, (0 : Int))) (norm_f (l := ins3 n at_ s) (by simp [ins3]))
theorem rinsert_f (n at_ : Int) (s : ByteArray) (k : Nat) (hk : 23 ≤ k) : variorumref06_Insert.f k n at_ s = some (insL n at_ s) := by
  obtain ⟨k, rfl⟩ : ∃ m, k = m + 2 := ⟨k - 2, by omega⟩
  unfold variorumref06_Insert.f insL
  by_cases h1 : n < 0
  · rw [if_pos h1, if_pos (.inl h1)]; rfl
  · rw [if_neg h1]
    simp only [variorumref06_Insert.j0]
    by_cases h2 : 16777216 < n
    · rw [if_pos (decide_eq_true (show n > 16777216 from h2)), if_pos (show n < 0 ∨ 16777216 < n from .inr h2)]
    · rw [if_neg (show ¬ decide (n > 16777216) = true by simp; omega), if_neg (show ¬ (n < 0 ∨ 16777216 < n) by omega)]
      by_cases h3 : at_ < 0
      · rw [if_pos h3, if_pos (.inl h3)]; rfl
      · rw [if_neg h3]
        simp only [variorumref06_Insert.j1]
        by_cases h4 : n < at_
        · rw [if_pos (decide_eq_true (show at_ > n from h4)), if_pos (show at_ < 0 ∨ n < at_ from .inr h4)]
        · rw [if_neg (show ¬ decide (at_ > n) = true by simp; omega), if_neg (show ¬ (at_ < 0 ∨ n < at_) by omega), w64 (x := 16777216 - n) (by omega) (by omega), w64 (x := n - at_) (by omega) (by omega)]
          by_cases h5 : (s.size : Int) > 16777216 - n
          · rw [if_pos h5, if_pos h5]
          · rw [if_neg h5, if_neg h5]
            exact congrArg (fun o => Option.bind o fun t => some (t, (0 : Int))) (rnorm_f (l := ins3 n at_ s) (by simp [ins3]) k (by simp [ins3]; omega))
theorem delete_f (n at_ many : Int) (k : Nat) (hk : 1 ≤ k) : edit_Delete.f k n at_ many = some (delL n at_ many) := by
  obtain ⟨k, rfl⟩ : ∃ m, k = m + 1 := ⟨k - 1, by omega⟩
  unfold edit_Delete.f delL
  by_cases h1 : n < 0
  · rw [if_pos h1, if_pos (.inl h1)]; rfl
  · rw [if_neg h1]
    simp only [edit_Delete.j0]
    by_cases h2 : 16777216 < n
    · rw [if_pos (decide_eq_true (show n > 16777216 from h2)), if_pos (show n < 0 ∨ 16777216 < n from .inr h2)]
    · rw [if_neg (show ¬ decide (n > 16777216) = true by simp; omega), if_neg (show ¬ (n < 0 ∨ 16777216 < n) by omega)]
      by_cases h3 : at_ < 0
      · rw [if_pos h3, if_pos (.inl h3)]
      · rw [if_neg h3]
        by_cases h4 : n < at_
        · rw [if_pos h4, if_pos (.inr (.inl h4))]
        · rw [if_neg h4]
          by_cases h5 : many < 0
          · rw [if_pos h5, if_pos (.inr (.inr (.inl h5)))]
          · rw [if_neg h5, w64 (x := n - at_) (by omega) (by omega)]
            by_cases h6 : n - at_ < many
            · rw [if_pos h6, if_pos (.inr (.inr (.inr h6)))]
            · rw [if_neg h6, if_neg (by omega), w64 (x := n - at_ - many) (by omega) (by omega)]
              exact congrArg (fun o => Option.bind o fun t => some (t, (0 : Int))) (norm_f (l := del3 n at_ many) (by simp [del3]))
theorem rdelete_f (n at_ many : Int) (k : Nat) (hk : 22 ≤ k) : variorumref06_Delete.f k n at_ many = some (delL n at_ many) := by
  obtain ⟨k, rfl⟩ : ∃ m, k = m + 1 := ⟨k - 1, by omega⟩
  unfold variorumref06_Delete.f delL
  by_cases h1 : n < 0
  · rw [if_pos h1, if_pos (.inl h1)]; rfl
  · rw [if_neg h1]
    simp only [variorumref06_Delete.j0]
    by_cases h2 : 16777216 < n
    · rw [if_pos (decide_eq_true (show n > 16777216 from h2)), if_pos (show n < 0 ∨ 16777216 < n from .inr h2)]
    · rw [if_neg (show ¬ decide (n > 16777216) = true by simp; omega), if_neg (show ¬ (n < 0 ∨ 16777216 < n) by omega)]
      by_cases h3 : at_ < 0
      · rw [if_pos h3, if_pos (.inl h3)]
      · rw [if_neg h3]
        by_cases h5 : many < 0
        · rw [if_pos h5, if_pos (.inr (.inr (.inl h5)))]
        · rw [if_neg h5]
          by_cases h4 : n < at_
          · rw [if_pos h4, if_pos (.inr (.inl h4))]
          · rw [if_neg h4, w64 (x := n - at_) (by omega) (by omega)]
            by_cases h6 : n - at_ < many
            · rw [if_pos h6, if_pos (.inr (.inr (.inr h6)))]
            · rw [if_neg h6, if_neg (by omega), w64 (x := n - at_ - many) (by omega) (by omega)]
              exact congrArg (fun o => Option.bind o fun t => some (t, (0 : Int))) (rnorm_f (l := del3 n at_ many) (by simp [del3]) k (by simp [del3]; omega))
theorem ins_law (n at_ : Int) (s : ByteArray) (h : (insL n at_ s).2 = 0) : good (insL n at_ s).1 = true ∧ inL (insL n at_ s).1 = n ∧ outL (insL n at_ s).1 = n + (s.size : Int) := by
  unfold insL at h ⊢
  by_cases h1 : n < 0 ∨ 16777216 < n
  · rw [if_pos h1] at h; cases h
  · rw [if_neg h1] at h ⊢
    by_cases h2 : at_ < 0 ∨ n < at_
    · rw [if_pos h2] at h; cases h
    · rw [if_neg h2] at h ⊢
      by_cases h3 : (s.size : Int) > 16777216 - n
      · rw [if_pos h3] at h; cases h
      · rw [if_neg h3]
        have e1 : inL (ins3 n at_ s) = n := by simp [ins3, inL]; omega
        have e2 : outL (ins3 n at_ s) = n + (s.size : Int) := by simp [ins3, outL, E_size]; omega
        have := norm_plain (l := ins3 n at_ s) (by
          intro r hr
          simp only [ins3, List.mem_cons, List.not_mem_nil, or_false] at hr
          rcases hr with rfl | rfl | rfl
          · exact plain_keep (by omega)
          · exact plain_add s
          · exact plain_keep (by omega)) (by omega) (by omega) (by simp [ins3])
        rw [e1, e2] at this
        exact this
theorem del_law (n at_ many : Int) (h : (delL n at_ many).2 = 0) : good (delL n at_ many).1 = true ∧ inL (delL n at_ many).1 = n ∧ outL (delL n at_ many).1 = n - many ∧ -9223372036854775808 ≤ n - many ∧ n - many ≤ 9223372036854775807 := by
  unfold delL at h ⊢
  by_cases h1 : n < 0 ∨ 16777216 < n
  · rw [if_pos h1] at h; cases h
  · rw [if_neg h1] at h ⊢
    by_cases h2 : at_ < 0 ∨ n < at_ ∨ many < 0 ∨ n - at_ < many
    · rw [if_pos h2] at h; cases h
    · rw [if_neg h2]
      have e1 : inL (del3 n at_ many) = n := by simp [del3, inL]; omega
      have e2 : outL (del3 n at_ many) = n - many := by simp [del3, outL, E_size]; omega
      have := norm_plain (l := del3 n at_ many) (by
        intro r hr
        simp only [del3, List.mem_cons, List.not_mem_nil, or_false] at hr
        rcases hr with rfl | rfl | rfl
        · exact plain_keep (by omega)
        · exact plain_drop (by omega)
        · exact plain_keep (by omega)) (by omega) (by omega) (by simp [del3])
      rw [e1, e2] at this
      exact ⟨this.1, this.2.1, this.2.2, by omega, by omega⟩
theorem norm_len (l : List Rn) : (norm l).length ≤ 65536 := (good_ok (norm_good l)).2.1
theorem ins_len (n at_ : Int) (s : ByteArray) : (insL n at_ s).1.length ≤ 65536 := by
  unfold insL
  (repeat' split) <;> first | exact norm_len _ | decide
theorem del_len (n at_ many : Int) : (delL n at_ many).1.length ≤ 65536 := by
  unfold delL
  (repeat' split) <;> first | exact norm_len _ | decide
def X : ByteArray := ⟨#[120]⟩
theorem lives_f (k : Nat) (hk : 40 ≤ k) : variorumlaw06_lives.f k = some true := by
  have h1 : insL 2 1 X = ([⟨1, E, 0⟩, ⟨0, X, 0⟩, ⟨1, E, 0⟩], 0) := by
    unfold insL
    rw [if_neg (by decide), if_neg (by decide), if_neg (by decide)]
    have : norm [⟨1, E, 0⟩, ⟨0, X, 0⟩, ⟨1, E, 0⟩] = [⟨1, E, 0⟩, ⟨0, X, 0⟩, ⟨1, E, 0⟩] := norm_self (by decide)
    exact congrArg (fun x => (x, (0 : Int))) this
  have h2 : norm [⟨0, E, 1⟩, ⟨0, X, 0⟩, ⟨0, E, 2⟩] = [⟨0, X, 0⟩, ⟨0, E, 3⟩] := by
    have e : out [⟨0, E, 1⟩, ⟨0, X, 0⟩, ⟨0, E, 2⟩] = [⟨0, X, 0⟩, ⟨0, E, 3⟩] := by
      unfold out
      rw [fine_self (by
        intro r hr
        simp only [List.mem_cons, List.not_mem_nil, or_false] at hr
        rcases hr with rfl | rfl | rfl <;> decide)]
      rw [jn_on (by decide), jn_on (by decide), jn_on (by decide)]
      rw [E_add, E_add, add_E]
      rfl
    rw [(norm_fits (l := [⟨0, E, 1⟩, ⟨0, X, 0⟩, ⟨0, E, 2⟩]) (by decide) (by decide)).1, e]
  unfold variorumlaw06_lives.f
  have i1 := insert_f 2 1 X k (by omega)
  rw [h1] at i1
  have i2 : edit_Norm.f [⟨0, E, 1⟩, ⟨0, X, 0⟩, ⟨0, E, 2⟩] = some [⟨0, X, 0⟩, ⟨0, E, 3⟩] := by rw [norm_f (by simp), h2]
  have s1 := same_eq [⟨1, E, 0⟩, ⟨0, X, 0⟩, ⟨1, E, 0⟩] (by simp) k (by simp; omega)
  have s2 := same_eq [⟨0, X, 0⟩, ⟨0, E, 3⟩] (by simp) k (by simp; omega)
  show (edit_Insert.f k 2 1 X).bind _ = _
  rw [i1, Option.bind_some, if_pos rfl]
  show (variorumref06_Same.f k [⟨1, E, 0⟩, ⟨0, X, 0⟩, ⟨1, E, 0⟩] [⟨1, E, 0⟩, ⟨0, X, 0⟩, ⟨1, E, 0⟩]).bind _ = _
  rw [s1, Option.bind_some, if_pos rfl]
  show (edit_Norm.f [⟨0, E, 1⟩, ⟨0, X, 0⟩, ⟨0, E, 2⟩]).bind _ = _
  rw [i2, Option.bind_some]
  show (variorumref06_Same.f k [⟨0, X, 0⟩, ⟨0, E, 3⟩] [⟨0, X, 0⟩, ⟨0, E, 3⟩]).bind _ = _
  rw [s2, Option.bind_some]
theorem nothing_f (n : Int) : ∃ l, edit_Nothing.f n = some l ∧ variorumref06_Nothing.f n = some l ∧ l.length ≤ 1 ∧ l = if 1 ≤ n ∧ n ≤ 16777216 then [⟨n, E, 0⟩] else [] := by
  unfold edit_Nothing.f variorumref06_Nothing.f
  by_cases h1 : n < 1
  · rw [if_pos h1, if_neg (by omega)]; exact ⟨_, rfl, rfl, by simp, rfl⟩
  · rw [if_neg h1]
    by_cases h2 : n > 16777216
    · rw [if_pos h2, if_neg (by omega)]; exact ⟨_, rfl, rfl, by simp, rfl⟩
    · rw [if_neg h2, if_pos (by omega)]; exact ⟨_, rfl, rfl, by simp, rfl⟩
end Go.Proofs.Ythocalfgeaclgaa.EditMk
end

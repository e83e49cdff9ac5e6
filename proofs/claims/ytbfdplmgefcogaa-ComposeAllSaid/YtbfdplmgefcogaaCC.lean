import Derived.Test.YtbfdplmgefcogaaCA
import Derived.Shelf.Strings.BuilderK
import Derived.Test.YtbfdplmgefcogaaCB
import Derived.Deep.RegionWith
-- MERGED YtbfdplmgefcogaaBld
section
/- strings.Builder: the kit's contracts, at our numbers. -/
namespace Go.Proofs.Ytbfdplmgefcogaa.Bld
open Go.RowKit Go.Shelf Go.Proofs
def rf : Nat → Nat
  | 166 => 31
  | 169 => 32
  | 240 => 44
  | 276 => 48
  | x => x
def rt : Nat → Nat
  | 37 => 55
  | 70 => 54
  | 72 => 57
  | 75 => 59
  | 80 => 62
  | 127 => 74
  | 164 => 77
  | x => x
def ρ : Ren := ⟨rf, rt, fun x => x⟩
theorem extra : Builder.Extra Try.prog ρ where
  sizeBuilder := by kernel_rfl
  liesBuilder := by kernel_rfl
  t5 := Try.underlying5
  a5 := Try.isAgg5
  z5 := Try.sizeOf5
  v5 := Try.zeroValue5
  infoByte := by kernel_rfl
  cellsByte := by kernel_rfl
  sizeByte := by kernel_rfl
  neB5 := by decide
theorem l166 : Lays.n166 Try.prog ρ where
  mixed := by kernel_rfl
  f166 := by kernel_rfl
  f240 := by kernel_rfl
  f276 := by kernel_rfl
  t0 := Try.underlying0
  a0 := Try.isAgg0
  z0 := Try.sizeOf0
  v0 := Try.zeroValue0
  t3 := Try.underlying3
  a3 := Try.isAgg3
  z3 := Try.sizeOf3
  v3 := Try.zeroValue3
  t4 := Try.underlying4
  a4 := Try.isAgg4
  z4 := Try.sizeOf4
  v4 := Try.zeroValue4
  t9 := Try.underlying9
  a9 := Try.isAgg9
  z9 := Try.sizeOf9
  v9 := Try.zeroValue9
  t20 := Try.underlying20
  a20 := Try.isAgg20
  z20 := Try.sizeOf20
  v20 := Try.zeroValue20
  t37 := Try.underlying55
  a37 := Try.isAgg55
  z37 := Try.sizeOf55
  v37 := Try.zeroValue55
  t70 := Try.underlying54
  a70 := Try.isAgg54
  z70 := Try.sizeOf54
  v70 := Try.zeroValue54
  t72 := Try.underlying57
  a72 := Try.isAgg57
  z72 := Try.sizeOf57
  v72 := Try.zeroValue57
  t75 := Try.underlying59
  a75 := Try.isAgg59
  z75 := Try.sizeOf59
  v75 := Try.zeroValue59
  t164 := Try.underlying77
  a164 := Try.isAgg77
  z164 := Try.sizeOf77
  v164 := Try.zeroValue77
theorem l169 : Lays.n169 Try.prog ρ where
  mixed := by kernel_rfl
  f169 := by kernel_rfl
  t0 := Try.underlying0
  a0 := Try.isAgg0
  z0 := Try.sizeOf0
  v0 := Try.zeroValue0
  t3 := Try.underlying3
  a3 := Try.isAgg3
  z3 := Try.sizeOf3
  v3 := Try.zeroValue3
  t9 := Try.underlying9
  a9 := Try.isAgg9
  z9 := Try.sizeOf9
  v9 := Try.zeroValue9
  t37 := Try.underlying55
  a37 := Try.isAgg55
  z37 := Try.sizeOf55
  v37 := Try.zeroValue55
  t70 := Try.underlying54
  a70 := Try.isAgg54
  z70 := Try.sizeOf54
  v70 := Try.zeroValue54
  t72 := Try.underlying57
  a72 := Try.isAgg57
  z72 := Try.sizeOf57
  v72 := Try.zeroValue57
  t127 := Try.underlying74
  a127 := Try.isAgg74
  z127 := Try.sizeOf74
  v127 := Try.zeroValue74
/-- The text so far in the builder in block b (all of it above B). -/
def Bl (B b : Nat) (s : ByteArray) (w : World) : Prop := Lib.IsBuilderF 57 5 B b (Lib.strCells s) w
theorem strCells_app (a b : ByteArray) : Lib.strCells a ++ Lib.strCells b = Lib.strCells (a ++ b) := by
  rw [Lib.strCells_eq, Lib.strCells_eq, Lib.strCells_eq, ← Lib.byteCells_append, ByteArray.data_append, Array.toList_append]
theorem write_c (B b : Nat) (s t : ByteArray) (w : World) (h : Bl B b s w) (hl : s.size + t.size ≤ 140737488355328) (hB : B ≤ w.heap.size) :
    Calls Try.prog 31 #[.pointer (some ⟨b, 0, none⟩), .string t] w fun e w' => e = .returned (.tuple #[.int .i64 t.size, .nilIface]) ∧ Bl B b (s ++ t) w' ∧ Below B w w' ∧ Lib.OthersKept 5 (some b) w w' := by
  refine (Any.Builder_WriteString_k (P := Try.prog) (ρ := ρ) l166 extra B b (Lib.strCells s) t w h (by rw [Lib.strCells_length]; exact hl) hB).mono ?_
  rintro e w' ⟨rfl, h1, h2, h3⟩
  refine ⟨rfl, .inr ?_, h2, h3⟩
  rw [← strCells_app]
  exact h1
theorem text_c (B b : Nat) (s : ByteArray) (w : World) (h : Bl B b s w) (hB : B ≤ w.heap.size) :
    Calls Try.prog 32 #[.pointer (some ⟨b, 0, none⟩)] w fun e w' => e = .returned (.string s) ∧ Below B w w' := by
  refine (Any.Builder_String_any_k (P := Try.prog) (ρ := ρ) l169 extra B b s.data.toList w h hB).mono ?_
  rintro e w' ⟨rfl, h1, h2, h3⟩
  refine ⟨?_, h2⟩
  rfl
end Go.Proofs.Ytbfdplmgefcogaa.Bld
end
-- MERGED YtbfdplmgefcogaaEditG
section
/- The plain law of the edit of any runs: it is in order, of as many bytes; an edit is that of its own runs, parted anywhere. -/
namespace Go.Proofs.Ytbfdplmgefcogaa.EditG
open Go.RowKit Go.Proofs.Ytbfdplmgefcogaa.P Go.Proofs.Ytbfdplmgefcogaa.EditL
set_option linter.unusedSimpArgs false
set_option linter.unusedVariables false

theorem E_add (s : ByteArray) : E ++ s = s := by
  apply ByteArray.ext
  simp [E]
theorem add_E (s : ByteArray) : s ++ E = s := by
  apply ByteArray.ext
  simp [E]
theorem size_add (a b : ByteArray) : (a ++ b).size = a.size + b.size := ByteArray.size_append ..
theorem jn_flush {r : Rn} {l : List Rn} {k d : Int} {a : ByteArray} (h1 : knd r = 1) (h2 : a.size ≠ 0 ∨ 0 < d) : jn (r :: l) k a d = fl k a d ++ jn l r.f0 r.f1 r.f2 := by
  show (if _ then _ else _) = _; rw [if_pos ⟨h1, h2⟩]
theorem jn_on {r : Rn} {l : List Rn} {k d : Int} {a : ByteArray} (h : ¬ (knd r = 1 ∧ (a.size ≠ 0 ∨ 0 < d))) : jn (r :: l) k a d = jn l (k + r.f0) (a ++ r.f1) (d + r.f2) := by
  show (if _ then _ else _) = _; rw [if_neg h]
theorem fl_len (k d : Int) (a : ByteArray) : (fl k a d).length ≤ 3 := by unfold fl; simp only [List.length_append]; (repeat' split) <;> simp
theorem jn_len (l : List Rn) : ∀ k a d, (jn l k a d).length ≤ 3 * l.length + 3 := by
  induction l with
  | nil => intro k a d; have := fl_len k d a; simpa [jn] using this
  | cons r l ih =>
    intro k a d
    by_cases h : knd r = 1 ∧ (a.size ≠ 0 ∨ 0 < d)
    · rw [jn_flush h.1 h.2, List.length_append, List.length_cons]
      have := fl_len k d a
      have := ih r.f0 r.f1 r.f2
      omega
    · rw [jn_on h, List.length_cons]
      have := ih (k + r.f0) (a ++ r.f1) (d + r.f2)
      omega
theorem run_eq {r : Rn} (h : knd r = 1) : r = ⟨r.f0, E, 0⟩ ∧ 0 < r.f0 ∧ r.f1 = E ∧ r.f2 = 0 := by
  obtain ⟨f0, f1, f2⟩ := r
  rcases knd_cases ⟨f0, f1, f2⟩ with ⟨h1, h2, h3, h4⟩ | ⟨h1, h2, h3, h4⟩ | ⟨h1, h2, h3, h4⟩ | ⟨h4, _⟩
  · have := eq_E h2
    simp only at h1 h3 this ⊢
    subst this; subst h3
    exact ⟨rfl, h1, rfl, rfl⟩
  all_goals rw [h4] at h; cases h
theorem run_eq2 {r : Rn} (h : knd r = 2) : r = ⟨0, r.f1, 0⟩ ∧ r.f0 = 0 ∧ r.f1.size ≠ 0 ∧ r.f2 = 0 := by
  obtain ⟨f0, f1, f2⟩ := r
  rcases knd_cases ⟨f0, f1, f2⟩ with ⟨h1, h2, h3, h4⟩ | ⟨h1, h2, h3, h4⟩ | ⟨h1, h2, h3, h4⟩ | ⟨h4, _⟩
  · rw [h4] at h; cases h
  · simp only at h1 h2 h3 ⊢
    subst h1; subst h3
    exact ⟨rfl, rfl, by omega, rfl⟩
  all_goals rw [h4] at h; cases h
theorem run_eq3 {r : Rn} (h : knd r = 3) : r = ⟨0, E, r.f2⟩ ∧ r.f0 = 0 ∧ r.f1 = E ∧ 0 < r.f2 := by
  obtain ⟨f0, f1, f2⟩ := r
  rcases knd_cases ⟨f0, f1, f2⟩ with ⟨h1, h2, h3, h4⟩ | ⟨h1, h2, h3, h4⟩ | ⟨h1, h2, h3, h4⟩ | ⟨h4, _⟩
  · rw [h4] at h; cases h
  · rw [h4] at h; cases h
  · have := eq_E h2
    simp only at h1 h3 this ⊢
    subst this; subst h1
    exact ⟨rfl, rfl, rfl, h3⟩
  · rw [h4] at h; cases h
theorem knd_three {r : Rn} (h : knd r ≠ 0) : knd r = 1 ∨ knd r = 2 ∨ knd r = 3 := by
  rcases knd_cases r with ⟨_, _, _, h4⟩ | ⟨_, _, _, h4⟩ | ⟨_, _, _, h4⟩ | ⟨h4, _⟩
  · exact .inl h4
  · exact .inr (.inl h4)
  · exact .inr (.inr h4)
  · exact absurd h4 h
theorem sums_fl {k d : Int} (hk : 0 ≤ k) (hd : 0 ≤ d) (a : ByteArray) : inL (fl k a d) = k + d ∧ outL (fl k a d) = k + (a.size : Int) := by
  unfold fl
  by_cases h1 : 0 < k <;> by_cases h2 : a.size ≠ 0 <;> by_cases h3 : 0 < d <;> simp [h1, h2, h3, inL, outL, E_size] <;> omega
theorem sums_jn (l : List Rn) (h : ∀ r ∈ l, knd r ≠ 0) : ∀ (k : Int) (a : ByteArray) (d : Int), 0 ≤ k → 0 ≤ d → inL (jn l k a d) = k + d + inL l ∧ outL (jn l k a d) = k + (a.size : Int) + outL l := by
  induction l with
  | nil =>
    intro k a d hk hd
    have := sums_fl hk hd a
    simp only [jn, inL, outL]
    omega
  | cons r l ih =>
    intro k a d hk hd
    have hp := knd_pos (h r List.mem_cons_self)
    have h2 : ∀ x ∈ l, knd x ≠ 0 := fun x hx => h x (List.mem_cons_of_mem _ hx)
    by_cases c : knd r = 1 ∧ (a.size ≠ 0 ∨ 0 < d)
    · have h3 := ih h2 r.f0 r.f1 r.f2 hp.1 hp.2
      have h4 := sums_fl hk hd a
      rw [jn_flush c.1 c.2, inL_append, outL_append]
      simp only [inL, outL]
      omega
    · have h3 := ih h2 (k + r.f0) (a ++ r.f1) (d + r.f2) (by omega) (by omega)
      rw [jn_on c]
      simp only [inL, outL]
      rw [size_add] at h3
      omega
theorem ord_jn (l : List Rn) (h : ∀ r ∈ l, knd r ≠ 0) : ∀ (k : Int) (a : ByteArray) (d last : Int), 0 ≤ k → 0 ≤ d → last ≠ 1 → (k = 0 → last = 0) → ord (jn l k a d) last = true := by
  induction l with
  | nil =>
    intro k a d last hk hd hl h0
    simp only [jn, fl]
    by_cases h1 : 0 < k
    · by_cases h2 : a.size ≠ 0 <;> by_cases h3 : 0 < d <;> simp [h1, h2, h3, ord, knd_keep, knd_add, knd_drop] <;> omega
    · have := h0 (by omega)
      subst this
      by_cases h2 : a.size ≠ 0 <;> by_cases h3 : 0 < d <;> simp [h1, h2, h3, ord, knd_keep, knd_add, knd_drop]
  | cons r l ih =>
    intro k a d last hk hd hl h0
    have hp := knd_pos (h r List.mem_cons_self)
    have h2 : ∀ x ∈ l, knd x ≠ 0 := fun x hx => h x (List.mem_cons_of_mem _ hx)
    by_cases c : knd r = 1 ∧ (a.size ≠ 0 ∨ 0 < d)
    · have hr := run_eq c.1
      have i2 := ih h2 r.f0 r.f1 r.f2 2 hp.1 hp.2 (by decide) (fun e => by omega)
      have i3 := ih h2 r.f0 r.f1 r.f2 3 hp.1 hp.2 (by decide) (fun e => by omega)
      rw [jn_flush c.1 c.2]
      unfold fl
      by_cases h1 : 0 < k
      · by_cases h2 : a.size ≠ 0 <;> by_cases h3 : 0 < d
        · simp [h1, h2, h3, ord, knd_keep, knd_add, knd_drop, i2, i3]; omega
        · simp [h1, h2, h3, ord, knd_keep, knd_add, knd_drop, i2, i3]; omega
        · simp [h1, h2, h3, ord, knd_keep, knd_add, knd_drop, i2, i3]; omega
        · exact absurd c.2 (by omega)
      · have := h0 (by omega)
        subst this
        by_cases h2 : a.size ≠ 0 <;> by_cases h3 : 0 < d
        · simp [h1, h2, h3, ord, knd_keep, knd_add, knd_drop, i2, i3]
        · simp [h1, h2, h3, ord, knd_keep, knd_add, knd_drop, i2, i3]
        · simp [h1, h2, h3, ord, knd_keep, knd_add, knd_drop, i2, i3]
        · exact absurd c.2 (by omega)
    · rw [jn_on c]
      refine ih h2 _ _ _ last (by omega) (by omega) hl (fun e => h0 (by omega))
theorem good_out {l : List Rn} (hf : fits (fine l) 0 0 = true) (hl : (out l).length ≤ 65536) : good (out l) = true := by
  have hok := fine_ok l
  have ho := ord_jn (fine l) hok 0 E 0 0 (by decide) (by decide) (by decide) (fun _ => rfl)
  have hs := sums_jn (fine l) hok 0 E 0 (by decide) (by decide)
  have hi := (fits_iff hok 0 0 (by decide) (by decide)).1 hf
  unfold good
  rw [show ord (out l) 0 = true from ho, decide_eq_true hl, Bool.true_and, Bool.true_and]
  refine (fits_iff (ord_ok ho) 0 0 (by decide) (by decide)).2 ?_
  rw [hs.1, hs.2, E_size]
  omega
theorem out_len (l : List Rn) : (out l).length ≤ 3 * l.length + 3 := by
  have h1 := jn_len (fine l) 0 E 0
  have h2 := fine_len l
  unfold out
  omega
/-- The edit of runs that fit. -/
theorem norm_fits {l : List Rn} (hf : fits (fine l) 0 0 = true) (hl : 3 * l.length + 3 ≤ 65536) : norm l = out l ∧ good (out l) = true := by
  have h := good_out hf (by have := out_len l; omega)
  unfold norm
  rw [if_pos hf, if_pos h]
  exact ⟨rfl, h⟩
theorem norm_sums {l : List Rn} (hf : fits (fine l) 0 0 = true) (hl : 3 * l.length + 3 ≤ 65536) : good (norm l) = true ∧ inL (norm l) = inL (fine l) ∧ outL (norm l) = outL (fine l) := by
  obtain ⟨h1, h2⟩ := norm_fits hf hl
  have hs := sums_jn (fine l) (fine_ok l) 0 E 0 (by decide) (by decide)
  rw [h1]
  refine ⟨h2, ?_, ?_⟩
  · unfold out; rw [hs.1]; omega
  · unfold out; rw [hs.2, E_size]; omega
theorem norm_good (l : List Rn) : good (norm l) = true := by
  unfold norm
  split
  · split
    · assumption
    · exact good_nil
  · exact good_nil
theorem norm_nofit {l : List Rn} (hf : fits (fine l) 0 0 = false) : norm l = [] := by unfold norm; rw [hf]; rfl
/-! An edit is the edit of its own runs. -/
theorem ord_zero {r : Rn} {l : List Rn} {last : Int} (h : ord (r :: l) last = true) : ord (r :: l) 0 = true := by
  simp only [ord, Bool.and_eq_true, decide_eq_true_eq] at h ⊢
  exact ⟨⟨⟨h.1.1.1, h.1.1.1⟩, by omega⟩, h.2⟩
theorem ord_tail {a l : List Rn} : ∀ {last : Int}, ord (a ++ l) last = true → ord l 0 = true := by
  induction a with
  | nil =>
    intro last h
    cases l with
    | nil => rfl
    | cons r l => exact ord_zero h
  | cons r a ih =>
    intro last h
    rw [List.cons_append] at h
    simp only [ord, Bool.and_eq_true] at h
    exact ih h.2
theorem fl_one {k : Int} (h : 0 < k) : fl k E 0 = [⟨k, E, 0⟩] := by unfold fl; rw [if_pos h]; rfl
theorem jn_self (l : List Rn) : ∀ (k : Int) (a : ByteArray) (d : Int), 0 ≤ k → 0 ≤ d → ord (fl k a d ++ l) 0 = true → jn l k a d = fl k a d ++ l := by
  induction l with
  | nil => intro k a d _ _ _; rw [List.append_nil]; rfl
  | cons r l ih =>
    intro k a d hk hd h
    have hr : knd r ≠ 0 := ord_ok h r (List.mem_append_right _ List.mem_cons_self)
    rcases knd_three hr with c | c | c
    · obtain ⟨e, e0, e1, e2⟩ := run_eq c
      have i1 := ih r.f0 r.f1 r.f2 (by omega) (by omega) (by
        rw [e1, e2, fl_one e0]
        have := ord_tail h
        rw [e] at this
        exact this)
      by_cases c2 : a.size ≠ 0 ∨ 0 < d
      · rw [jn_flush c c2, i1, e1, e2, fl_one e0, ← e]; rfl
      · have ha : a = E := eq_E (by omega)
        have hd0 : d = 0 := by omega
        subst ha; subst hd0
        have hk0 : k = 0 := by
          apply Classical.byContradiction
          intro hne
          rw [fl_one (by omega)] at h
          simp only [List.cons_append, List.nil_append, ord, knd_keep (show 0 < k by omega), c] at h
          simp at h
        subst hk0
        rw [jn_on (fun h => c2 h.2), Int.zero_add, Int.zero_add, E_add, i1, e1, e2, fl_one e0, ← e]
        rfl
    · obtain ⟨e, e0, e1, e2⟩ := run_eq2 c
      have hd0 : d = 0 := by
        apply Classical.byContradiction
        intro hne
        have hp : 0 < d := by omega
        unfold fl at h
        rw [if_pos hp, ← List.append_assoc, List.append_assoc] at h
        have h2 : ∀ (x : List Rn) (last : Int), ord (x ++ ([⟨0, E, d⟩] ++ r :: l)) last = true → False := by
          intro x
          induction x with
          | nil =>
            intro last h
            simp [ord, knd_drop hp, c] at h
          | cons y x ihx =>
            intro last h
            rw [List.cons_append] at h
            simp only [ord, Bool.and_eq_true] at h
            exact ihx _ h.2
        exact h2 _ _ h
      subst hd0
      have ha : a = E := by
        refine eq_E (Classical.byContradiction fun hne => ?_)
        unfold fl at h
        rw [if_pos hne, if_neg (show ¬ (0 : Int) < 0 by decide), List.append_nil] at h
        have h2 : ∀ (x : List Rn) (last : Int), ord ((x ++ [⟨0, a, 0⟩]) ++ r :: l) last = true → False := by
          intro x
          induction x with
          | nil =>
            intro last h
            simp [ord, knd_add hne, c] at h
          | cons y x ihx =>
            intro last h
            rw [List.cons_append, List.cons_append] at h
            simp only [ord, Bool.and_eq_true] at h
            exact ihx _ h.2
        exact h2 _ _ h
      subst ha
      have hfl : fl k E 0 ++ r :: l = fl k r.f1 0 ++ l := by
        unfold fl
        rw [if_pos e1, if_neg (show ¬ E.size ≠ 0 by decide), if_neg (show ¬ (0 : Int) < 0 by decide)]
        conv => lhs; rw [e]
        simp
      rw [jn_on (fun h => absurd (c.symm.trans h.1) (by decide)), e0, e2, Int.add_zero, Int.add_zero, E_add, hfl]
      exact ih _ _ _ hk (by decide) (by rw [← hfl]; exact h)
    · obtain ⟨e, e0, e1, e2⟩ := run_eq3 c
      have hd0 : d = 0 := by
        apply Classical.byContradiction
        intro hne
        have hp : 0 < d := by omega
        unfold fl at h
        rw [if_pos hp, ← List.append_assoc, List.append_assoc] at h
        have h2 : ∀ (x : List Rn) (last : Int), ord (x ++ ([⟨0, E, d⟩] ++ r :: l)) last = true → False := by
          intro x
          induction x with
          | nil =>
            intro last h
            simp [ord, knd_drop hp, c] at h
          | cons y x ihx =>
            intro last h
            rw [List.cons_append] at h
            simp only [ord, Bool.and_eq_true] at h
            exact ihx _ h.2
        exact h2 _ _ h
      subst hd0
      have hfl : fl k a 0 ++ r :: l = fl k a r.f2 ++ l := by
        unfold fl
        rw [if_pos e2, if_neg (show ¬ (0 : Int) < 0 by decide)]
        conv => lhs; rw [e]
        simp
      rw [jn_on (fun h => absurd (c.symm.trans h.1) (by decide)), e0, e1, Int.add_zero, Int.zero_add, add_E, hfl]
      exact ih _ _ _ hk (by omega) (by rw [← hfl]; exact h)
theorem out_self {l : List Rn} (h : ord l 0 = true) : out l = l := by
  unfold out
  rw [fine_self (ord_ok h)]
  exact jn_self l 0 E 0 (by decide) (by decide) h
theorem norm_self {l : List Rn} (h : good l = true) : norm l = l := by
  obtain ⟨h1, h2, h3, h4⟩ := good_ok h
  unfold norm
  rw [fine_self h4, if_pos h3, out_self h1, if_pos h]
end Go.Proofs.Ytbfdplmgefcogaa.EditG
end
-- MERGED YtbfdplmgefcogaaPrunfits
section
-- Written by wip/myprint.py of this session, over the kit's print.py: a Lean function for each Go function, and the proof that the code comes to it.
namespace Go.Proofs.Ytbfdplmgefcogaa.P
open Go.RowKit Go.Proofs.YtbfdplmgefcogaaW.PrintWords Go.Proofs.YtbfdplmgefcogaaW.PrintLast Go.Proofs.YtbfdplmgefcogaaW.PrintMore
attribute [local go_sem] max2_int min2_int max_two min_two max_three min_three max_four min_four   -- for this text's walks alone
set_option linter.unusedVariables false
set_option linter.unusedSimpArgs false

/-! ### run_fits: function 30 -/
def run_fits.f (k : Nat) (l0 : List (S43)) (a1 : Int) : Option (Bool) := (edit_Good.f k l0).bind fun t299 => (if t299 = true then ((edit_In.f k l0).bind fun t300 => (some (t300 == a1))) else (some false))
theorem run_fits.mono : ∀ a0 a1 k, LeO (run_fits.f k a0 a1) (run_fits.f (k + 1) a0 a1) := by
  intro a0 a1 k
  unfold run_fits.f
  repeat' first
      | (with_reducible exact edit_Good.mono _ _)
      | (with_reducible exact edit_In.mono _ _)
      | (with_reducible exact LeO.refl _)
      | (with_reducible exact LeO.none _)
      | (with_reducible refine LeO.ite ?_ ?_)
      | (with_reducible refine LeO.bind ?_ (fun _ => ?_))
      | exact edit_Good.mono _ _
      | exact edit_In.mono _ _
      | exact LeO.none _
      | refine LeO.ite ?_ ?_
      | refine LeO.bind ?_ (fun _ => ?_)
set_option maxHeartbeats 8000000 in
set_option maxRecDepth 100000 in
theorem run_fits.calls (k : Nat) (A0 : Option Addr) (c0 : Nat) (l0 : List (S43)) (a1 : Int) (r : Bool) (w : World) (hr0 : Kd.C k43 w A0 l0.length l0) (hc0 : l0.length ≤ c0) (h : run_fits.f k l0 a1 = some r) :
    Calls Try.prog 30 #[.slice A0 l0.length c0, .int .i64 a1] w fun e w' => e = .returned (.bool r) ∧ Below w.heap.size w w' := by
  have HR0 := Aside0.mk hr0
  have HC0 := Aside0.mk hc0
  clear hr0 hc0
  have HB := Aside0.mk (Below.refl w.heap.size w)
  have H : ((edit_Good.f k l0).bind fun t299 => (if t299 = true then ((edit_In.f k l0).bind fun t300 => (some (t300 == a1))) else (some false))) = some r := h
  clear h
  replace H := Option.bind_eq_some_iff.mp H
  obtain ⟨t299, A30, H⟩ := H
  replace H : (if t299 = true then ((edit_In.f k l0).bind fun t300 => (some (t300 == a1))) else (some false)) = some r := H
  have A3 := Aside0.mk A30
  clear A30
  by_cases c4 : t299 = true
  · subst c4
    have H1 : ((edit_In.f k l0).bind fun t300 => (some (t300 == a1))) = some r := by rw [if_pos rfl] at H; exact H
    clear H
    have H := H1
    clear H1
    replace H := Option.bind_eq_some_iff.mp H
    obtain ⟨t300, A50, H⟩ := H
    replace H : (some (t300 == a1)) = some r := H
    have A5 := Aside0.mk A50
    clear A50
    obtain rfl := Option.some.inj H
    go_enter Try.func30, Try.ntmps30
    go_wp2_with (first | ((with_reducible refine gate_callee (f := 16) rfl ?_); refine goesL_ (some 6) rfl rfl Try.func16 (by kernel_rfl) rfl #[.slice A0 l0.length c0] rfl (by (try simp only [List.map_toArray, List.map_cons, List.map_nil]); first | done | rfl | (simp only [List.length_drop, List.length_take]; rfl)) ?_; (with_reducible refine (edit_Good.calls k _ _ l0 true _ ?side1 ?side2 A3.out).mono ?_); (case side1 => repeat (first | exact HR0.out | (with_reducible refine Kd.C_alloc ?_ _) | (with_reducible refine Kd.C_drewN ?_ _) | (with_reducible refine Kd.C_drew ?_))); (case side2 => exact HC0.out); rintro e w6 ⟨rfl, hb⟩; refine ⟨_, rfl, ?_⟩; have n0_ := Aside0.mk (below_step (by repeat (first | (with_reducible first | exact HB.out | apply below_alloc | apply pw_below_drewN | apply below_drew1) | exact HB.out)) hb); clear HB; have HB := n0_; clear n0_; (try clear hb); (try clear hb2); (try clear hk); (try clear hi)) | (go_at_call 23; (with_reducible refine (edit_In.calls k _ _ l0 t300 _ ?side1 ?side2 A5.out).mono ?_); (case side1 => repeat (first | exact (Kd.C_below HR0.out HB.out) | (with_reducible refine Kd.C_alloc ?_ _) | (with_reducible refine Kd.C_drewN ?_ _) | (with_reducible refine Kd.C_drew ?_))); (case side2 => exact HC0.out); rintro e w7 ⟨rfl, hb⟩; have n0_ := Aside0.mk (below_step (by repeat (first | (with_reducible first | exact HB.out | apply below_alloc | apply pw_below_drewN | apply below_drew1) | exact HB.out)) hb); clear HB; have HB := n0_; clear n0_; (try clear hb); (try clear hb2); (try clear hk); (try clear hi)))
    go_ret
    exact ⟨by first | rfl | (simp [errW_none, errW_some] <;> rfl) | (simp [*, errW_none, errW_some] <;> rfl), by repeat (first | (with_reducible first | exact HB.out | apply below_alloc | apply pw_below_drewN | apply below_drew1) | exact HB.out)⟩
  · replace c4 := Bool.eq_false_iff.mpr c4
    subst c4
    have H1 : (some false) = some r := by rw [if_neg (show ¬ (false = true) by decide)] at H; exact H
    clear H
    have H := H1
    clear H1
    obtain rfl := Option.some.inj H
    go_enter Try.func30, Try.ntmps30
    go_wp2_with (first | ((with_reducible refine gate_callee (f := 16) rfl ?_); refine goesL_ (some 6) rfl rfl Try.func16 (by kernel_rfl) rfl #[.slice A0 l0.length c0] rfl (by (try simp only [List.map_toArray, List.map_cons, List.map_nil]); first | done | rfl | (simp only [List.length_drop, List.length_take]; rfl)) ?_; (with_reducible refine (edit_Good.calls k _ _ l0 false _ ?side1 ?side2 A3.out).mono ?_); (case side1 => repeat (first | exact HR0.out | (with_reducible refine Kd.C_alloc ?_ _) | (with_reducible refine Kd.C_drewN ?_ _) | (with_reducible refine Kd.C_drew ?_))); (case side2 => exact HC0.out); rintro e w8 ⟨rfl, hb⟩; refine ⟨_, rfl, ?_⟩; have n0_ := Aside0.mk (below_step (by repeat (first | (with_reducible first | exact HB.out | apply below_alloc | apply pw_below_drewN | apply below_drew1) | exact HB.out)) hb); clear HB; have HB := n0_; clear n0_; (try clear hb); (try clear hb2); (try clear hk); (try clear hi)))
    go_ret
    exact ⟨by first | rfl | (simp [errW_none, errW_some] <;> rfl) | (simp [*, errW_none, errW_some] <;> rfl), by repeat (first | (with_reducible first | exact HB.out | apply below_alloc | apply pw_below_drewN | apply below_drew1) | exact HB.out)⟩

end Go.Proofs.Ytbfdplmgefcogaa.P
end
-- MERGED YtbfdplmgefcogaaRunA
section
/- The walk of run.Apply: an edit done. -/
namespace Go.Proofs.Ytbfdplmgefcogaa.RunA
open Go.RowKit Go.Shelf Go.Proofs.Ytbfdplmgefcogaa.P Go.Proofs.YtbfdplmgefcogaaW.PrintWords Go.Proofs.YtbfdplmgefcogaaW.PrintLast Go.Proofs.YtbfdplmgefcogaaW.PrintMore Go.Proofs.Ytbfdplmgefcogaa.Own Go.Proofs.Ytbfdplmgefcogaa.EditL Go.Proofs.Ytbfdplmgefcogaa.EditK Go.Proofs.Ytbfdplmgefcogaa.EditF Go.Proofs.Ytbfdplmgefcogaa.EditG Go.Proofs.Ytbfdplmgefcogaa.EditR Go.Proofs.Ytbfdplmgefcogaa.Bld Go.Proofs.Ytbfdplmgefcogaa.EditJ
attribute [local go_sem] max2_int min2_int max_two min_two
set_option linter.unusedSimpArgs false
set_option linter.unusedVariables false

/-- What an edit makes of a text. -/
def apL : List Rn → ByteArray → ByteArray
  | [], _ => E
  | r :: l, s => (s.extract 0 r.f0.toNat ++ r.f1) ++ apL l (s.extract (r.f0 + r.f2).toNat s.size)
def fitsL (op : List Rn) (n : Int) : Bool := good op && decide (inL op = n)
theorem fits_f {op : List Rn} (hl : op.length ≤ 140737488351232) (n : Int) (k : Nat) (hk : op.length < k) : run_fits.f k op n = some (fitsL op n) := by
  unfold run_fits.f fitsL
  rw [good_f hl k hk, Option.bind_some]
  cases hg : good op with
  | false => rw [if_neg Bool.false_ne_true]; rfl
  | true =>
    rw [if_pos rfl, in_f hl k hk, Option.bind_some, hg, if_pos rfl, Bool.true_and]
    rfl
theorem fits_c (A0 : Option Addr) (c0 : Nat) (l0 : List Rn) (n : Int) (hc : l0.length ≤ c0) (hl : l0.length ≤ 140737488351232) (W : World) (h : RC W A0 l0) : Calls Try.prog 30 #[.slice A0 l0.length c0, .int .i64 n] W fun e w' => e = .returned (.bool (fitsL l0 n)) ∧ Below W.heap.size W w' :=
  run_fits.calls (l0.length + 1) A0 c0 l0 n _ W h hc (fits_f hl n _ (Nat.lt_succ_self _))
def ApPost (v : ByteArray × Int) (w : World) (e : Ending) (w' : World) : Prop := e = .returned (.tuple #[.string v.1, .int .i64 v.2]) ∧ Below w.heap.size w w'
set_option maxHeartbeats 4000000 in
set_option maxRecDepth 100000 in
theorem apply_no (A0 : Option Addr) (c0 : Nat) (l0 : List Rn) (s : ByteArray) (w : World) (h : RC w A0 l0) (hc : l0.length ≤ c0) (hl : l0.length ≤ 140737488351232) (hs : s.size ≤ 140737488351232) (hf : fitsL l0 s.size = false) :
    Calls Try.prog 15 #[.slice A0 l0.length c0, .string s] w (ApPost (E, 60) w) := by
  have HG := Aside0.mk (fits_c A0 c0 l0 s.size hc hl)
  rw [hf] at HG
  have H0 := Aside0.mk h
  clear h hc hl hf
  go_enter Try.func15, Try.ntmps15
  go_wp2_with (first | (go_at_call 30; refine (HG.out _ H0.out).mono ?_; rintro e w1 ⟨rfl, hb⟩; have HB := Aside0.mk hb; clear hb))
  go_ret2
  exact ⟨rfl, HB.out⟩
theorem grown_alloc (w : World) (o : Obj) : w.grownBy (w.alloc o) none := ⟨rfl, rfl, rfl, by simp, fun k hk _ => Own.heap_old w o k hk⟩
theorem Bl.alloc {B b : Nat} {s : ByteArray} {w : World} (h : Bl B b s w) (o : Obj) : Bl B b s (w.alloc o) := by
  have hat : ∀ p bs, Lib.BuilderAtF 57 5 B b p bs w → Lib.BuilderAtF 57 5 B b p bs (w.alloc o) := by
    rintro p bs ⟨hB, v, hb, hr, hne⟩
    exact ⟨hB, v, (Own.heap_old w o b (Array.getElem?_eq_some_iff.1 hb).1).trans hb, hr.kept (grown_alloc w o) (by cases v.ownBlock <;> simp), hne⟩
  exact h.elim (fun x => .inl (hat _ _ x)) (fun x => .inr (hat _ _ x))
theorem Bl.lt {B b : Nat} {s : ByteArray} {w : World} (h : Bl B b s w) : b < w.heap.size := by
  rcases h with ⟨_, v, hb, _⟩ | ⟨_, v, hb, _⟩ <;> exact (Array.getElem?_eq_some_iff.1 hb).1
theorem Bl.new (w : World) : Bl w.heap.size w.heap.size E (w.alloc (.cells #[.pointer none, .slice none 0 0] 57)) := Lib.IsBuilderF.of (Lib.fresh_isBuilder 57 5 w)
theorem ext_all (s : ByteArray) : s.extract 0 s.size = s := by
  apply ByteArray.ext; simp
theorem ext_none (s : ByteArray) : s.extract 0 0 = E := by
  apply ByteArray.ext; simp [E]
theorem ext_size (s : ByteArray) (a b : Nat) : (s.extract a b).size = min b s.size - a := ByteArray.size_extract
theorem app_assoc (a b c : ByteArray) : a ++ b ++ c = a ++ (b ++ c) := ByteArray.append_assoc
set_option maxHeartbeats 8000000 in
set_option maxRecDepth 100000 in
theorem apply_yes (A0 : Option Addr) (c0 : Nat) (l0 : List Rn) (s : ByteArray) (w : World) (h : RC w A0 l0) (hc : l0.length ≤ c0) (hl : l0.length ≤ 140737488351232) (hs : s.size ≤ 140737488351232) (hf : fitsL l0 s.size = true) :
    Calls Try.prog 15 #[.slice A0 l0.length c0, .string s] w (ApPost (apL l0 s, 0) w) := by
  have HG := Aside0.mk (fits_c A0 c0 l0 s.size hc hl)
  rw [hf] at HG
  unfold fitsL at hf
  simp only [Bool.and_eq_true, decide_eq_true_eq] at hf
  obtain ⟨hg, hin⟩ := hf
  have HI := Aside0.mk hin
  obtain ⟨_, hll, hfit, hk⟩ := good_ok hg
  have HO := Aside0.mk ((fits_iff hk 0 0 (by omega) (by omega)).1 hfit)
  have HK := Aside0.mk hk
  have H0 := Aside0.mk h
  clear h hc hl hg hin hfit hk
  go_enter Try.func15, Try.ntmps15
  go_wp2_with (first | (go_at_call 30; refine (HG.out _ H0.out).mono ?_; rintro e w1 ⟨rfl, hb⟩; have HB1 := Aside0.mk hb; clear hb))
  have HN := Aside0.mk (Bl.new w1)
  have HB2 := Aside0.mk (below_alloc HB1.out (.cells #[.pointer none, .slice none 0 0] 57))
  have HL2 := Aside0.mk (show w1.heap.size < (w1.alloc (.cells #[.pointer none, .slice none 0 0] 57)).heap.size by simp)
  obtain ⟨w2, hw2⟩ : ∃ w2, w2 = w1.alloc (.cells #[.pointer none, .slice none 0 0] 57) := ⟨_, rfl⟩
  have HB0 := Aside0.mk HB1.out.size
  rw [← hw2] at HN HB2 HL2 ⊢
  obtain ⟨B0, hB0⟩ : ∃ b, b = w1.heap.size := ⟨_, rfl⟩
  rw [← hB0] at HN HL2 HB0 ⊢
  clear hw2 hB0 HB1 HG
  go_loopw [1, 16] (fun sv iv wr => ∃ (j : Nat) (acc rest : ByteArray), j ≤ l0.length ∧ sv = .string rest ∧ iv = .int .i64 (j : Int) ∧ Bl B0 B0 acc wr ∧ acc ++ apL (l0.drop j) rest = apL l0 s ∧ inL (l0.drop j) = (rest.size : Int) ∧ (acc.size : Int) + outL (l0.drop j) ≤ 16777216 ∧ rest.size ≤ s.size ∧ Below w.heap.size w wr) (fun _ iv _ => l0.length - (intOf iv).toNat)
  case atStart => exact ⟨0, E, s, Nat.zero_le _, rfl, rfl, HN.out, E_add _, HI.out, by rw [E_size, List.drop_zero]; have := HO.out; omega, Nat.le_refl _, HB2.out⟩
  case round =>
    obtain ⟨j, acc, rest, hj, rfl, rfl, hbl, ha, hi, ho, hz, hb⟩ := hrel
    have HBL := Aside0.mk hbl
    have HA := Aside0.mk ha
    have HI1 := Aside0.mk hi
    have HO1 := Aside0.mk ho
    have HB := Aside0.mk hb
    clear hbl ha hi ho hb HN HB2 HI HO
    by_cases hlt : j < l0.length
    · have hlt' : (j : Int) < (l0.length : Int) := by omega
      obtain ⟨ad, rfl, x0, x1, x2⟩ := at_nat (Kd.C_below H0.out HB.out) j hlt
      have hd := drop_get hlt
      have hmem : l0.getD j z43 ∈ l0 := by rw [List.getD_eq_getElem?_getD, List.getElem?_eq_getElem hlt]; exact List.getElem_mem hlt
      obtain ⟨r, hr⟩ : ∃ r, r = l0.getD j z43 := ⟨_, rfl⟩
      rw [← hr] at x0 x1 x2 hd hmem
      have h1 := HI1.out
      have h2 := HO1.out
      have h3 := HA.out
      rw [hd] at h1 h2 h3
      have h4 := inL_nonneg (l := l0.drop (j + 1)) (fun x hx => HK.out x (List.mem_of_mem_drop hx))
      have hne := HK.out r hmem
      clear hd hr
      obtain ⟨T, hT⟩ : ∃ T, T = l0.drop (j + 1) := ⟨_, rfl⟩
      have HT := Aside0.mk hT
      rw [← hT] at h1 h2 h3 h4
      clear hT hmem
      simp only [inL, outL, apL] at h1 h2 h3
      rcases knd_three hne with hk1 | hk1 | hk1
      · obtain ⟨hre, hp, he1, he2⟩ := run_eq hk1
        clear hk1 hne
        obtain ⟨a, b, d⟩ := r
        simp only at x0 x1 x2 h1 h2 h3 hp he1 he2
        subst he1 he2
        clear hre
        have hsz : (rest.extract 0 a.toNat).size = a.toNat := by rw [ext_size]; omega
        have haR : a ≤ (rest.size : Int) := by omega
        have ha0 : 0 ≤ a := by omega
        have hw : wrap64 a = a := w64 (by omega) (by omega)
        have HAC := Aside0.mk (show acc.size + (rest.extract 0 a.toNat).size ≤ 140737488355328 by rw [hsz]; omega)
        have PA := Aside0.mk (show (acc ++ rest.extract 0 a.toNat) ++ apL (l0.drop (j + 1)) (rest.extract a.toNat rest.size) = apL l0 s by
          rw [Int.add_zero, add_E] at h3
          rw [← HT.out, app_assoc]; exact h3)
        have PI := Aside0.mk (show inL (l0.drop (j + 1)) = ((rest.extract a.toNat rest.size).size : Int) by rw [← HT.out, ext_size]; omega)
        have PZ := Aside0.mk (show (rest.extract a.toNat rest.size).size ≤ s.size by rw [ext_size]; omega)
        have PO := Aside0.mk (show ((acc ++ rest.extract 0 a.toNat).size : Int) + outL (l0.drop (j + 1)) ≤ 16777216 by rw [← HT.out, size_add, hsz]; rw [E_size] at h2; omega)
        have hbx : (wr.alloc (.cells #[.int .i64 a, .string E, .int .i64 0] 43)).heap[wr.heap.size]? = some (rcs a E 0) := Own.heap_new _ _
        have HBX := Aside0.mk hbx
        clear h1 h2 h3 h4 hsz hbx hz
        go_wp2_with (first | (go_at_call 31; refine (write_c B0 B0 acc _ _ (Bl.alloc HBL.out _) HAC.out (by have := (Bl.lt HBL.out); simp; omega)).mono ?_; rintro e w3 ⟨rfl, hbl, hb, hk⟩; have HBL3 := Aside0.mk hbl; have HBB := Aside0.mk ((below_alloc HB.out (.cells #[.int .i64 a, .string E, .int .i64 0] 43)).trans (hb.mono HB0.out)); obtain ⟨y0, y1, y2⟩ := blk_cells (hk _ _ HBX.out (by have := (Bl.lt HBL.out); intro e; injection e; omega) (by intro c fz e; unfold rcs at e; injection e; contradiction)); clear hbl hb hk x0 x1 x2))
        go_roundw
        case rel => exact ⟨j + 1, _, _, by omega, rfl, by go_num, HBL3.out, PA.out, PI.out, PO.out, PZ.out, HBB.out⟩
        case measure => simp [intOf]; omega
      · obtain ⟨hre, hp, he1, he2⟩ := run_eq2 hk1
        clear hk1 hne
        obtain ⟨a, b, d⟩ := r
        simp only at x0 x1 x2 h1 h2 h3 hp he1 he2
        subst hp he2
        clear hre
        have HAC := Aside0.mk (show acc.size + b.size ≤ 140737488355328 by omega)
        have PA := Aside0.mk (show (acc ++ b) ++ apL (l0.drop (j + 1)) rest = apL l0 s by
          rw [show Int.toNat 0 = 0 from rfl, ext_none, E_add, show ((0 : Int) + 0).toNat = 0 from rfl, ext_all] at h3
          rw [← HT.out, app_assoc]; exact h3)
        have PI := Aside0.mk (show inL (l0.drop (j + 1)) = (rest.size : Int) by rw [← HT.out]; omega)
        have PZ := Aside0.mk hz
        have PO := Aside0.mk (show ((acc ++ b).size : Int) + outL (l0.drop (j + 1)) ≤ 16777216 by rw [← HT.out, size_add]; omega)
        clear h1 h2 h3 h4 hz
        go_wp2_with (first | (go_at_call 31; refine (write_c B0 B0 acc _ _ (Bl.alloc HBL.out _) HAC.out (by have := (Bl.lt HBL.out); simp; omega)).mono ?_; rintro e w3 ⟨rfl, hbl, hb, hk⟩; have HBL3 := Aside0.mk hbl; have HBB := Aside0.mk ((below_alloc HB.out (.cells #[.int .i64 0, .string b, .int .i64 0] 43)).trans (hb.mono HB0.out)); clear hbl hb hk x0 x1 x2))
        go_roundw
        case rel => exact ⟨j + 1, _, _, by omega, rfl, by go_num, HBL3.out, PA.out, PI.out, PO.out, PZ.out, HBB.out⟩
        case measure => simp [intOf]; omega
      · obtain ⟨hre, hp, he1, he2⟩ := run_eq3 hk1
        clear hk1 hne
        obtain ⟨a, b, d⟩ := r
        simp only at x0 x1 x2 h1 h2 h3 hp he1 he2
        subst hp he1
        clear hre
        have hdR : d ≤ (rest.size : Int) := by omega
        have hd0 : 0 ≤ d := by omega
        have hw : wrap64 d = d := w64 (by omega) (by omega)
        have PA := Aside0.mk (show acc ++ apL (l0.drop (j + 1)) (rest.extract d.toNat rest.size) = apL l0 s by
          rw [show Int.toNat 0 = 0 from rfl, ext_none, E_add, E_add, Int.zero_add] at h3
          rw [← HT.out]; exact h3)
        have PI := Aside0.mk (show inL (l0.drop (j + 1)) = ((rest.extract d.toNat rest.size).size : Int) by rw [← HT.out, ext_size]; omega)
        have PZ := Aside0.mk (show (rest.extract d.toNat rest.size).size ≤ s.size by rw [ext_size]; omega)
        have PO := Aside0.mk (show (acc.size : Int) + outL (l0.drop (j + 1)) ≤ 16777216 by rw [← HT.out]; rw [E_size] at h2; omega)
        clear h1 h2 h3 h4 hz
        go_wp2_with fail
        go_roundw
        case rel => exact ⟨j + 1, _, _, by omega, rfl, by go_num, Bl.alloc HBL.out _, PA.out, PI.out, PO.out, PZ.out, below_alloc HB.out _⟩
        case measure => simp [intOf]; omega
    · obtain rfl : j = l0.length := by omega
      have h3 := HA.out
      rw [List.drop_length] at h3
      have HE := Aside0.mk (show acc = apL l0 s by rw [← h3]; exact (add_E _).symm)
      clear h3
      have hlt' : ¬ ((l0.length : Int) < (l0.length : Int)) := by omega
      go_wp2_with (first | (go_at_call 32; refine (text_c B0 B0 acc _ HBL.out (by have := (Bl.lt HBL.out); omega)).mono ?_; rintro e w3 ⟨rfl, hb⟩; have HBB := Aside0.mk (HB.out.trans (hb.mono HB0.out)); clear hb))
      go_ret2
      exact ⟨by rw [HE.out]; rfl, HBB.out⟩
def app (l : List Rn) (s : ByteArray) : ByteArray × Int := if fitsL l s.size = true then (apL l s, 0) else (E, 60)
theorem apply_c (A0 : Option Addr) (c0 : Nat) (l0 : List Rn) (s : ByteArray) (w : World) (h : Kd.C k43 w A0 l0.length l0) (hc : l0.length ≤ c0) (hl : l0.length ≤ 140737488351232) (hs : s.size ≤ 140737488351232) :
    Calls Try.prog 15 #[.slice A0 l0.length c0, .string s] w fun e w' => e = .returned (.tuple #[.string (app l0 s).1, .int .i64 (app l0 s).2]) ∧ Below w.heap.size w w' := by
  unfold app
  by_cases hf : fitsL l0 s.size = true
  · rw [if_pos hf]; exact apply_yes A0 c0 l0 s w h hc hl hs hf
  · rw [if_neg hf]; exact apply_no A0 c0 l0 s w h hc hl hs (by simpa using hf)
end Go.Proofs.Ytbfdplmgefcogaa.RunA
end
-- MERGED YtbfdplmgefcogaaRunL
section
/- The plain law of edits done: the edit of any runs makes what the runs make; what undoes an edit gives the text again. -/
namespace Go.Proofs.Ytbfdplmgefcogaa.RunL
open Go.RowKit Go.Proofs.Ytbfdplmgefcogaa.P Go.Proofs.Ytbfdplmgefcogaa.EditL Go.Proofs.Ytbfdplmgefcogaa.EditK Go.Proofs.Ytbfdplmgefcogaa.EditG Go.Proofs.Ytbfdplmgefcogaa.RunA
set_option linter.unusedSimpArgs false
set_option linter.unusedVariables false

def L (s : ByteArray) : List UInt8 := s.data.toList
theorem L_len (s : ByteArray) : (L s).length = s.size := by unfold L; rw [Array.length_toList]; rfl
theorem L_app (a b : ByteArray) : L (a ++ b) = L a ++ L b := by unfold L; rw [ByteArray.data_append, Array.toList_append]
theorem L_cut (s : ByteArray) (a b : Nat) : L (s.extract a b) = ((L s).drop a).take (b - a) := by unfold L; rw [ByteArray.data_extract, Array.toList_extract, List.extract_eq_take_drop]
theorem L_take (s : ByteArray) (n : Nat) : L (s.extract 0 n) = (L s).take n := by rw [L_cut]; simp
theorem L_drop (s : ByteArray) (n : Nat) : L (s.extract n s.size) = (L s).drop n := by
  rw [L_cut, List.take_of_length_le]; rw [List.length_drop, L_len]; omega
theorem L_inj {a b : ByteArray} (h : L a = L b) : a = b := by
  apply ByteArray.ext
  exact Array.toList_inj.1 h
theorem L_E : L E = [] := rfl
theorem L_nil {a : ByteArray} (h : a.size = 0) : L a = [] := List.eq_nil_of_length_eq_zero (by rw [L_len]; exact h)
/-- What runs make of bytes. -/
def apW : List Rn → List UInt8 → List UInt8
  | [], _ => []
  | r :: l, w => (w.take r.f0.toNat ++ L r.f1) ++ apW l (w.drop (r.f0 + r.f2).toNat)
theorem apW_eq (l : List Rn) : ∀ s : ByteArray, L (apL l s) = apW l (L s) := by
  induction l with
  | nil => intro s; rfl
  | cons r l ih =>
    intro s
    simp only [apL, apW]
    rw [L_app, L_app, L_take, ih, L_drop]
def nn (r : Rn) : Prop := 0 ≤ r.f0 ∧ 0 ≤ r.f2
theorem sums_nn {l : List Rn} (h : ∀ r ∈ l, nn r) : 0 ≤ inL l ∧ 0 ≤ outL l := by
  induction l with
  | nil => exact ⟨Int.le_refl _, Int.le_refl _⟩
  | cons r l ih =>
    have h1 := h r List.mem_cons_self
    have h2 := ih fun x hx => h x (List.mem_cons_of_mem _ hx)
    unfold nn at h1
    simp only [inL, outL]
    omega
theorem apW_len (l : List Rn) : ∀ w : List UInt8, (∀ r ∈ l, nn r) → inL l = (w.length : Int) → ((apW l w).length : Int) = outL l := by
  induction l with
  | nil => intro w _ _; rfl
  | cons r l ih =>
    intro w h hi
    have h1 := h r List.mem_cons_self
    have h2 : ∀ x ∈ l, nn x := fun x hx => h x (List.mem_cons_of_mem _ hx)
    have h3 := sums_nn h2
    unfold nn at h1
    simp only [inL] at hi
    simp only [outL, apW]
    rw [List.length_append, List.length_append, List.length_take, L_len]
    have := ih (w.drop (r.f0 + r.f2).toNat) h2 (by rw [List.length_drop]; omega)
    omega
theorem ap_keep {k : Int} (hk : 0 ≤ k) (m : List Rn) (w : List UInt8) : apW ((if 0 < k then [⟨k, E, 0⟩] else []) ++ m) w = w.take k.toNat ++ apW m (w.drop k.toNat) := by
  by_cases h : 0 < k
  · rw [if_pos h]
    show (w.take k.toNat ++ L E) ++ apW m (w.drop (k + 0).toNat) = _
    rw [L_E, List.append_nil, Int.add_zero]
  · obtain rfl : k = 0 := by omega
    rw [if_neg h]; rfl
theorem ap_add (a : ByteArray) (m : List Rn) (w : List UInt8) : apW ((if a.size ≠ 0 then [⟨0, a, 0⟩] else []) ++ m) w = L a ++ apW m w := by
  by_cases h : a.size = 0
  · rw [if_neg (fun e => e h), L_nil h]; rfl
  · rw [if_pos h]; rfl
theorem ap_drop {d : Int} (hd : 0 ≤ d) (m : List Rn) (w : List UInt8) : apW ((if 0 < d then [⟨0, E, d⟩] else []) ++ m) w = apW m (w.drop d.toNat) := by
  by_cases h : 0 < d
  · rw [if_pos h]
    show (w.take (0 : Int).toNat ++ L E) ++ apW m (w.drop (0 + d).toNat) = _
    rw [L_E, List.append_nil, Int.zero_add]; rfl
  · obtain rfl : d = 0 := by omega
    rw [if_neg h]; rfl
theorem ap_fl {k d : Int} (hk : 0 ≤ k) (hd : 0 ≤ d) (a : ByteArray) (m : List Rn) (w : List UInt8) : apW (fl k a d ++ m) w = apW (⟨k, a, d⟩ :: m) w := by
  unfold fl
  rw [List.append_assoc, List.append_assoc, ap_keep hk, ap_add, ap_drop hd, List.drop_drop]
  show _ = (w.take k.toNat ++ L a) ++ apW m (w.drop (k + d).toNat)
  rw [List.append_assoc, show (k + d).toNat = k.toNat + d.toNat by omega]
theorem ap_jn (l : List Rn) (h : ∀ r ∈ l, knd r ≠ 0) : ∀ (k : Int) (a : ByteArray) (d : Int) (w : List UInt8), 0 ≤ k → 0 ≤ d → apW (jn l k a d) w = apW (⟨k, a, d⟩ :: l) w := by
  induction l with
  | nil =>
    intro k a d w hk hd
    show apW (fl k a d) w = _
    rw [← ap_fl hk hd a [] w, List.append_nil]
  | cons r l ih =>
    intro k a d w hk hd
    have ih := ih fun x hx => h x (List.mem_cons_of_mem _ hx)
    have hr := h r List.mem_cons_self
    have hp := knd_pos hr
    by_cases hf : knd r = 1 ∧ (a.size ≠ 0 ∨ 0 < d)
    · rw [jn_flush hf.1 hf.2, ap_fl hk hd]
      show (w.take k.toNat ++ L a) ++ apW (jn l r.f0 r.f1 r.f2) _ = (w.take k.toNat ++ L a) ++ apW (r :: l) _
      rw [ih _ _ _ _ hp.1 hp.2]
    · rw [jn_on hf, ih _ _ _ _ (by omega) (by omega)]
      show (w.take (k + r.f0).toNat ++ L (a ++ r.f1)) ++ apW l (w.drop ((k + r.f0) + (d + r.f2)).toNat) = (w.take k.toNat ++ L a) ++ (((w.drop (k + d).toNat).take r.f0.toNat ++ L r.f1) ++ apW l ((w.drop (k + d).toNat).drop (r.f0 + r.f2).toNat))
      rw [List.drop_drop, show (k + d).toNat + (r.f0 + r.f2).toNat = ((k + r.f0) + (d + r.f2)).toNat by omega, L_app]
      by_cases h1 : knd r = 1
      · obtain ⟨_, _, e1, e2⟩ := run_eq h1
        have ha : a.size = 0 ∧ d = 0 := by
          refine ⟨Classical.byContradiction fun e => hf ⟨h1, .inl e⟩, ?_⟩
          have : ¬ 0 < d := fun e => hf ⟨h1, .inr e⟩
          omega
        rw [L_nil ha.1, e1, L_E, ha.2, Int.add_zero, List.append_nil, List.append_nil, List.append_nil, List.append_nil, show (k + r.f0).toNat = k.toNat + r.f0.toNat by omega, List.take_add, List.append_assoc]
      · have e0 : r.f0 = 0 := by
          rcases knd_three hr with h2 | h2 | h2
          · exact absurd h2 h1
          · exact (run_eq2 h2).2.1
          · exact (run_eq3 h2).2.1
        rw [e0, Int.add_zero, show Int.toNat 0 = 0 from rfl, List.take_zero, List.nil_append, List.append_assoc, List.append_assoc, List.append_assoc]
/-- A run that is right, or nothing. -/
def plain (r : Rn) : Prop := knd r ≠ 0 ∨ (r.f0 = 0 ∧ r.f1.size = 0 ∧ r.f2 = 0)
theorem plain_keep {k : Int} (h : 0 ≤ k) : plain ⟨k, E, 0⟩ := by
  by_cases h1 : 0 < k
  · exact .inl (by rw [knd_keep h1]; decide)
  · exact .inr ⟨by show k = 0; omega, rfl, rfl⟩
theorem plain_add (a : ByteArray) : plain ⟨0, a, 0⟩ := by
  by_cases h : a.size = 0
  · exact .inr ⟨rfl, h, rfl⟩
  · exact .inl (by rw [knd_add h]; decide)
theorem plain_drop {d : Int} (h : 0 ≤ d) : plain ⟨0, E, d⟩ := by
  by_cases h1 : 0 < d
  · exact .inl (by rw [knd_drop h1]; decide)
  · exact .inr ⟨rfl, rfl, by show d = 0; omega⟩
theorem sums_fine {l : List Rn} (h : ∀ r ∈ l, plain r) : inL (fine l) = inL l ∧ outL (fine l) = outL l := by
  induction l with
  | nil => exact ⟨rfl, rfl⟩
  | cons r l ih =>
    have h1 := ih fun x hx => h x (List.mem_cons_of_mem _ hx)
    have h2 := h r List.mem_cons_self
    rw [fine_cons]
    by_cases c : knd r = 0
    · rw [if_neg (fun h => h c)]
      rcases h2 with h2 | h2
      · exact absurd c h2
      · simp only [inL, outL]; omega
    · rw [if_pos c]
      simp only [inL, outL]; omega
theorem ap_fine {l : List Rn} (h : ∀ r ∈ l, plain r) : ∀ w, apW (fine l) w = apW l w := by
  induction l with
  | nil => intro w; rfl
  | cons r l ih =>
    intro w
    have h1 := ih fun x hx => h x (List.mem_cons_of_mem _ hx)
    have h2 := h r List.mem_cons_self
    rw [fine_cons]
    by_cases c : knd r = 0
    · rw [if_neg (fun h => h c)]
      rcases h2 with h2 | ⟨e0, e1, e2⟩
      · exact absurd c h2
      · simp only [apW]
        rw [e0, e2, L_nil e1, h1]; rfl
    · rw [if_pos c]
      simp only [apW]
      rw [h1]
structure Normed (l : List Rn) (m : List Rn) : Prop where
  good : good m = true
  i : inL m = inL l
  o : outL m = outL l
  ap : ∀ w, apW m w = apW l w
  len : m.length ≤ 3 * l.length + 3
theorem norm_ok {l : List Rn} (h : ∀ r ∈ l, plain r) (hi : inL l ≤ 16777216) (ho : outL l ≤ 16777216) (hl : 3 * l.length + 3 ≤ 65536) : Normed l (norm l) := by
  have h1 := sums_fine h
  have hf : fits (fine l) 0 0 = true := (fits_iff (fine_ok l) 0 0 (by decide) (by decide)).2 (by omega)
  have h2 := norm_sums (l := l) hf hl
  refine ⟨h2.1, h2.2.1.trans h1.1, h2.2.2.trans h1.2, fun w => ?_, ?_⟩
  · rw [(norm_fits hf hl).1]
    unfold out
    rw [ap_jn _ (fine_ok l) _ _ _ _ (Int.le_refl _) (Int.le_refl _)]
    show (w.take (0 : Int).toNat ++ L E) ++ apW (fine l) (w.drop (0 + 0 : Int).toNat) = _
    exact ap_fine h w
  · rw [(norm_fits hf hl).1]; exact out_len l
/-- What undoes runs. -/
def backL : List Rn → ByteArray → List Rn
  | [], _ => []
  | r :: l, s => [⟨r.f0, E, 0⟩, ⟨0, E, (r.f1.size : Int)⟩, ⟨0, s.extract r.f0.toNat (r.f0 + r.f2).toNat, 0⟩] ++ backL l (s.extract (r.f0 + r.f2).toNat s.size)
theorem back_len (l : List Rn) : ∀ s, (backL l s).length = 3 * l.length := by
  induction l with
  | nil => intro s; rfl
  | cons r l ih => intro s; simp only [backL]; rw [List.length_append, ih]; simp; omega
theorem back_in (l : List Rn) : ∀ s, inL (backL l s) = outL l := by
  induction l with
  | nil => intro s; rfl
  | cons r l ih =>
    intro s
    simp only [backL, outL]
    rw [inL_append, ih]
    simp only [inL]; omega
theorem back_out (l : List Rn) : ∀ s : ByteArray, (∀ r ∈ l, nn r) → inL l = (s.size : Int) → outL (backL l s) = inL l := by
  induction l with
  | nil => intro s _ _; rfl
  | cons r l ih =>
    intro s h hi
    have h1 := h r List.mem_cons_self
    have h2 : ∀ x ∈ l, nn x := fun x hx => h x (List.mem_cons_of_mem _ hx)
    have h3 := sums_nn h2
    unfold nn at h1
    simp only [inL] at hi
    simp only [backL, inL]
    rw [outL_append, ih _ h2 (by rw [ext_size]; omega)]
    simp only [outL]
    rw [ext_size, E_size]
    omega
theorem back_plain (l : List Rn) : ∀ s : ByteArray, (∀ r ∈ l, nn r) → ∀ r ∈ backL l s, plain r := by
  induction l with
  | nil => intro s _ r hr; cases hr
  | cons r l ih =>
    intro s h x hx
    simp only [backL] at hx
    rcases List.mem_append.1 hx with hx | hx
    · simp only [List.mem_cons, List.not_mem_nil, or_false] at hx
      rcases hx with rfl | rfl | rfl
      · exact plain_keep (h r List.mem_cons_self).1
      · exact plain_drop (by omega)
      · exact plain_add _
    · exact ih _ (fun x hx => h x (List.mem_cons_of_mem _ hx)) x hx
theorem back_ap (l : List Rn) : ∀ s : ByteArray, (∀ r ∈ l, nn r) → inL l = (s.size : Int) → apW (backL l s) (apW l (L s)) = L s := by
  induction l with
  | nil =>
    intro s _ hi
    exact (L_nil (by have : (0 : Int) = (s.size : Int) := hi; omega)).symm
  | cons r l ih =>
    intro s h hi
    have h1 := h r List.mem_cons_self
    have h2 : ∀ x ∈ l, nn x := fun x hx => h x (List.mem_cons_of_mem _ hx)
    have h3 := sums_nn h2
    unfold nn at h1
    simp only [inL] at hi
    have hl := L_len s
    have e := ih (s.extract (r.f0 + r.f2).toNat s.size) h2 (by rw [ext_size]; omega)
    rw [L_drop] at e
    have ha : r.f0.toNat ≤ (L s).length := by omega
    show (((((L s).take r.f0.toNat ++ L r.f1) ++ apW l ((L s).drop (r.f0 + r.f2).toNat)).take r.f0.toNat ++ L E) ++ apW ([⟨0, E, (r.f1.size : Int)⟩, ⟨0, s.extract r.f0.toNat (r.f0 + r.f2).toNat, 0⟩] ++ backL l (s.extract (r.f0 + r.f2).toNat s.size)) ((((L s).take r.f0.toNat ++ L r.f1) ++ apW l ((L s).drop (r.f0 + r.f2).toNat)).drop (r.f0 + 0).toNat)) = L s
    rw [Int.add_zero, L_E, List.append_nil, List.append_assoc, List.take_append_of_le_length (by rw [List.length_take]; omega), List.take_take, Nat.min_self, List.drop_append_of_le_length (by rw [List.length_take]; omega), List.drop_eq_nil_of_le (by rw [List.length_take]; omega), List.nil_append]
    generalize hV : apW l ((L s).drop (r.f0 + r.f2).toNat) = V at e ⊢
    show _ ++ (((L r.f1 ++ V).take (0 : Int).toNat ++ L E) ++ (((((L r.f1 ++ V).drop (0 + (r.f1.size : Int)).toNat).take (0 : Int).toNat) ++ L (s.extract r.f0.toNat (r.f0 + r.f2).toNat)) ++ apW (backL l (s.extract (r.f0 + r.f2).toNat s.size)) (((L r.f1 ++ V).drop (0 + (r.f1.size : Int)).toNat).drop ((0 : Int) + 0).toNat))) = L s
    rw [show (0 : Int).toNat = 0 from rfl, show ((0 : Int) + 0).toNat = 0 from rfl, List.take_zero, List.take_zero, List.drop_zero, L_E, List.nil_append, List.nil_append, Int.zero_add, Int.toNat_natCast, ← L_len r.f1, List.drop_left, e, L_cut]
    rw [show (r.f0 + r.f2).toNat = r.f0.toNat + ((r.f0 + r.f2).toNat - r.f0.toNat) by omega, ← List.drop_drop, Nat.add_sub_cancel_left, List.nil_append, List.take_append_drop, List.take_append_drop]
theorem nn_good {l : List Rn} (h : good l = true) : ∀ r ∈ l, nn r := fun r hr => knd_pos ((good_ok h).2.2.2 r hr)
theorem sums_good {l : List Rn} (h : good l = true) : 0 ≤ inL l ∧ inL l ≤ 16777216 ∧ 0 ≤ outL l ∧ outL l ≤ 16777216 := by
  obtain ⟨_, _, h2, h3⟩ := good_ok h
  have h4 := (fits_iff h3 0 0 (by decide) (by decide)).1 h2
  have h5 := inL_nonneg h3
  omega
theorem ap_size {l : List Rn} (h : good l = true) {s : ByteArray} (hi : inL l = (s.size : Int)) : ((apL l s).size : Int) = outL l := by
  rw [← L_len, apW_eq]
  exact apW_len l (L s) (nn_good h) (by rw [L_len]; exact hi)
/-- What undoes an edit is an edit of what it makes, and gives the text again. -/
theorem undo {l : List Rn} (h : good l = true) {s : ByteArray} (hi : inL l = (s.size : Int)) (hl : l.length ≤ 5000) :
    Normed (backL l s) (norm (backL l s)) ∧ inL (norm (backL l s)) = ((apL l s).size : Int) ∧ apL (norm (backL l s)) (apL l s) = s := by
  have hn := nn_good h
  have hs := sums_good h
  have ho := back_out l s hn hi
  have hN : Normed (backL l s) (norm (backL l s)) := norm_ok (back_plain l s hn) (by rw [back_in]; omega) (by rw [ho]; omega) (by rw [back_len]; omega)
  refine ⟨hN, by rw [hN.i, back_in, ap_size h hi], L_inj ?_⟩
  rw [apW_eq, hN.ap, apW_eq, back_ap l s hn hi]
end Go.Proofs.Ytbfdplmgefcogaa.RunL
end
-- MERGED YtbfdplmgefcogaaComposeL
section
/- The plain law of two edits as one: run by run; what it makes of bytes. -/
namespace Go.Proofs.Ytbfdplmgefcogaa.ComposeL
open Go.RowKit Go.Proofs.Ytbfdplmgefcogaa.P Go.Proofs.Ytbfdplmgefcogaa.EditL Go.Proofs.Ytbfdplmgefcogaa.EditK Go.Proofs.Ytbfdplmgefcogaa.EditG Go.Proofs.Ytbfdplmgefcogaa.RunA Go.Proofs.Ytbfdplmgefcogaa.RunL
set_option linter.unusedSimpArgs false
set_option linter.unusedVariables false

def sz (r : Rn) : Int := r.f0 + (r.f1.size : Int) + r.f2
/-- A part of a run. -/
def part (x : Rn) (f t : Int) : Rn := if 0 < x.f0 then ⟨t - f, E, 0⟩ else if 0 < x.f2 then ⟨0, E, t - f⟩ else ⟨0, x.f1.extract f.toNat t.toNat, 0⟩
theorem part_keep {x : Rn} (h : knd x = 1) (f t : Int) : part x f t = ⟨t - f, E, 0⟩ := if_pos (run_eq h).2.1
theorem part_drop {x : Rn} (h : knd x = 3) (f t : Int) : part x f t = ⟨0, E, t - f⟩ := by
  have e := run_eq3 h
  unfold part
  rw [if_neg (by omega), if_pos e.2.2.2]
theorem part_add {x : Rn} (h : knd x = 2) (f t : Int) : part x f t = ⟨0, x.f1.extract f.toNat t.toNat, 0⟩ := by
  have e := run_eq2 h
  unfold part
  rw [if_neg (by omega), if_neg (by omega)]
theorem sz_keep {x : Rn} (h : knd x = 1) : sz x = x.f0 ∧ 0 < x.f0 := by
  have e := run_eq h
  unfold sz
  rw [e.2.2.1, E_size]; omega
theorem sz_drop {x : Rn} (h : knd x = 3) : sz x = x.f2 ∧ 0 < x.f2 := by
  have e := run_eq3 h
  unfold sz
  rw [e.2.2.1, E_size]; omega
theorem sz_add {x : Rn} (h : knd x = 2) : sz x = (x.f1.size : Int) ∧ 0 < x.f1.size := by
  have e := run_eq2 h
  unfold sz
  omega
theorem sz_pos {x : Rn} (h : knd x ≠ 0) : 0 < sz x := by
  rcases knd_three h with c | c | c
  · have := sz_keep c; omega
  · have := sz_add c; omega
  · have := sz_drop c; omega
theorem part_knd {x : Rn} (h : knd x ≠ 0) {f t : Int} (h0 : 0 ≤ f) (h1 : f < t) (h2 : t ≤ sz x) : knd (part x f t) = knd x ∧ sz (part x f t) = t - f := by
  rcases knd_three h with c | c | c
  · rw [part_keep c, c]
    have k := knd_keep (show 0 < t - f by omega)
    exact ⟨k, (sz_keep k).1⟩
  · have e := sz_add c
    have hs : (x.f1.extract f.toNat t.toNat).size = (t - f).toNat := by rw [ext_size]; omega
    rw [part_add c, c]
    have k := knd_add (a := x.f1.extract f.toNat t.toNat) (by omega)
    exact ⟨k, by rw [(sz_add k).1]; show ((x.f1.extract f.toNat t.toNat).size : Int) = _; omega⟩
  · rw [part_drop c, c]
    have k := knd_drop (show 0 < t - f by omega)
    exact ⟨k, (sz_drop k).1⟩
theorem ext_ext (s : ByteArray) {f t a b : Nat} (h : f + b ≤ t) : (s.extract f t).extract a b = s.extract (f + a) (f + b) := by
  apply L_inj
  rw [L_cut, L_cut, L_cut, List.drop_take, List.take_take, List.drop_drop, show min (b - a) (t - f - a) = b - a by omega, show f + b - (f + a) = b - a by omega]
theorem part_part {x : Rn} (h : knd x ≠ 0) {f t a b : Int} (h0 : 0 ≤ f) (h1 : f < t) (h2 : t ≤ sz x) (h3 : 0 ≤ a) (h4 : a ≤ b) (h5 : b ≤ t - f) : part (part x f t) a b = part x (f + a) (f + b) := by
  obtain ⟨k, _⟩ := part_knd h h0 h1 h2
  rcases knd_three h with c | c | c
  · rw [part_keep (k.trans c), part_keep c, show f + b - (f + a) = b - a by omega]
  · rw [part_add (k.trans c), part_add c, part_add c]
    show (⟨0, (x.f1.extract f.toNat t.toNat).extract a.toNat b.toNat, 0⟩ : Rn) = _
    rw [ext_ext _ (by omega), show (f + a).toNat = f.toNat + a.toNat by omega, show (f + b).toNat = f.toNat + b.toNat by omega]
  · rw [part_drop (k.trans c), part_drop c, show f + b - (f + a) = b - a by omega]
theorem part_all {x : Rn} (h : knd x ≠ 0) : part x 0 (sz x) = x := by
  rcases knd_three h with c | c | c
  · rw [part_keep c, (sz_keep c).1, Int.sub_zero]; exact (run_eq c).1.symm
  · rw [part_add c, (sz_add c).1, show (0 : Int).toNat = 0 from rfl, Int.toNat_natCast, ext_all]; exact (run_eq2 c).1.symm
  · rw [part_drop c, (sz_drop c).1, Int.sub_zero]; exact (run_eq3 c).1.symm
/-- What is left behind n of the first run. -/
def cutl (n : Int) (x : Rn) (X : List Rn) : List Rn := if n = sz x then X else part x n (sz x) :: X
def mid (x y : Rn) (n : Int) : List Rn := if knd y = 1 then [part x 0 n] else if knd x = 1 then [part y 0 n] else []
def mn2 (a b : Int) : Int := if b < a then b else a
/-- What two edits' runs give, one behind the other. -/
inductive Bo : List Rn → List Rn → List Rn → Prop
  | nil : Bo [] [] []
  | drop {x : Rn} {X Y L : List Rn} : knd x = 3 → Bo X Y L → Bo (x :: X) Y (x :: L)
  | add {X : List Rn} {y : Rn} {Y L : List Rn} : (∀ x X', X = x :: X' → knd x ≠ 3) → knd y = 2 → Bo X Y L → Bo X (y :: Y) (y :: L)
  | two {x : Rn} {X : List Rn} {y : Rn} {Y L : List Rn} : knd x = 1 ∨ knd x = 2 → knd y = 1 ∨ knd y = 3 → Bo (cutl (mn2 (sz x) (sz y)) x X) (cutl (mn2 (sz x) (sz y)) y Y) L → Bo (x :: X) (y :: Y) (mid x y (mn2 (sz x) (sz y)) ++ L)
def szL : List Rn → Int
  | [] => 0
  | r :: l => sz r + szL l
theorem szL_pos {l : List Rn} (h : ∀ r ∈ l, knd r ≠ 0) : 0 ≤ szL l := by
  induction l with
  | nil => exact Int.le_refl _
  | cons r l ih =>
    have := ih fun x hx => h x (List.mem_cons_of_mem _ hx)
    have := sz_pos (h r List.mem_cons_self)
    show 0 ≤ sz r + szL l
    omega
structure Cut (n : Int) (x : Rn) (X : List Rn) : Prop where
  ok : ∀ r ∈ cutl n x X, knd r ≠ 0
  i : inL (cutl n x X) = inL (x :: X) - (if knd x = 2 then 0 else n)
  o : outL (cutl n x X) = outL (x :: X) - (if knd x = 3 then 0 else n)
  s : szL (cutl n x X) = szL (x :: X) - n
theorem cut_ok {n : Int} {x : Rn} {X : List Rn} (h : ∀ r ∈ x :: X, knd r ≠ 0) (h0 : 0 < n) (h1 : n ≤ sz x) : Cut n x X := by
  have hx := h x List.mem_cons_self
  have hX : ∀ r ∈ X, knd r ≠ 0 := fun r hr => h r (List.mem_cons_of_mem _ hr)
  have hio : ∀ r : Rn, knd r ≠ 0 → r.f0 + r.f2 = (if knd r = 2 then 0 else sz r) ∧ r.f0 + (r.f1.size : Int) = (if knd r = 3 then 0 else sz r) := by
    intro r hr
    rcases knd_three hr with c | c | c
    · have := sz_keep c; have e := run_eq c; rw [c, if_neg (by decide), if_neg (by decide), e.2.2.1, E_size]; omega
    · have := sz_add c; have e := run_eq2 c; rw [c, if_pos rfl, if_neg (by decide)]; omega
    · have := sz_drop c; have e := run_eq3 c; rw [c, if_neg (by decide), if_pos rfl, e.2.2.1, E_size]; omega
  obtain ⟨i1, o1⟩ := hio x hx
  by_cases hn : n = sz x
  · have e : cutl n x X = X := if_pos hn
    refine ⟨by rw [e]; exact hX, ?_, ?_, ?_⟩
    · rw [e]; simp only [inL]; rw [i1]; split <;> omega
    · rw [e]; simp only [outL]; rw [o1]; split <;> omega
    · rw [e]; simp only [szL]; omega
  · have e : cutl n x X = part x n (sz x) :: X := if_neg hn
    obtain ⟨k, s⟩ := part_knd hx (f := n) (t := sz x) (by omega) (by omega) (by omega)
    obtain ⟨i2, o2⟩ := hio (part x n (sz x)) (by rw [k]; exact hx)
    rw [k] at i2 o2
    refine ⟨?_, ?_, ?_, ?_⟩
    · rw [e]
      intro r hr
      rcases List.mem_cons.1 hr with rfl | hr
      · rw [k]; exact hx
      · exact hX r hr
    · rw [e]; simp only [inL]; rw [i1, i2, s]; split <;> omega
    · rw [e]; simp only [outL]; rw [o1, o2, s]; split <;> omega
    · rw [e]; simp only [szL]; omega
structure Made (X Y L : List Rn) : Prop where
  bo : Bo X Y L
  ok : ∀ r ∈ L, knd r ≠ 0
  i : inL L = inL X
  o : outL L = outL Y
  len : L.length ≤ X.length + Y.length
theorem mn2_le (a b : Int) : mn2 a b ≤ a ∧ mn2 a b ≤ b ∧ (0 < a → 0 < b → 0 < mn2 a b) := by unfold mn2; split <;> omega
theorem bo_ex : ∀ (m : Nat) (X Y : List Rn), (∀ r ∈ X, knd r ≠ 0) → (∀ r ∈ Y, knd r ≠ 0) → outL X = inL Y → szL X + szL Y ≤ m → ∃ L, Made X Y L := by
  intro m
  induction m with
  | zero =>
    intro X Y hX hY _ hs
    cases X with
    | cons x X => have := sz_pos (hX x List.mem_cons_self); have := szL_pos (fun r hr => hX r (List.mem_cons_of_mem x hr)); have := szL_pos hY; simp only [szL] at hs; omega
    | nil =>
      cases Y with
      | cons y Y => have := sz_pos (hY y List.mem_cons_self); have := szL_pos (fun r hr => hY r (List.mem_cons_of_mem y hr)); simp only [szL] at hs; omega
      | nil => exact ⟨[], .nil, fun r hr => by (cases hr), rfl, rfl, Nat.le_refl _⟩
  | succ m ih =>
    intro X Y hX hY hio hs
    have addY : ∀ (X : List Rn) (y : Rn) (Y : List Rn), (∀ r ∈ X, knd r ≠ 0) → (∀ r ∈ y :: Y, knd r ≠ 0) → outL X = inL (y :: Y) → szL X + szL (y :: Y) ≤ ((m + 1 : Nat) : Int) → (∀ x X', X = x :: X' → knd x ≠ 3) → knd y = 2 → ∃ L, Made X (y :: Y) L := by
      intro X y Y hX hY hio hs h3 h2
      have e := run_eq2 h2
      have z := sz_add h2
      simp only [inL, szL] at hio hs
      obtain ⟨L, hL⟩ := ih X Y hX (fun r hr => hY r (List.mem_cons_of_mem _ hr)) (by omega) (by omega)
      refine ⟨y :: L, .add h3 h2 hL.bo, ?_, ?_, ?_, ?_⟩
      · intro r hr
        rcases List.mem_cons.1 hr with rfl | hr
        · exact hY _ List.mem_cons_self
        · exact hL.ok r hr
      · simp only [inL]; have := hL.i; omega
      · simp only [outL]; have := hL.o; omega
      · simp only [List.length_cons]; have := hL.len; omega
    cases X with
    | nil =>
      cases Y with
      | nil => exact ⟨[], .nil, fun r hr => by (cases hr), rfl, rfl, Nat.le_refl _⟩
      | cons y Y =>
        refine addY [] y Y hX hY hio hs (fun x X' e => by cases e) ?_
        have hYt := inL_nonneg (fun r hr => hY r (List.mem_cons_of_mem y hr))
        have h : 0 = y.f0 + y.f2 + inL Y := hio
        rcases knd_three (hY y List.mem_cons_self) with c | c | c
        · have := run_eq c; omega
        · exact c
        · have := run_eq3 c; omega
    | cons x X =>
      have hXt : ∀ r ∈ X, knd r ≠ 0 := fun r hr => hX r (List.mem_cons_of_mem x hr)
      by_cases h3 : knd x = 3
      · have e := run_eq3 h3
        have z := sz_drop h3
        have e1 : (x.f1.size : Int) = 0 := by rw [e.2.2.1, E_size]; rfl
        simp only [outL, szL] at hio hs
        obtain ⟨L, hL⟩ := ih X Y hXt hY (by omega) (by omega)
        refine ⟨x :: L, .drop h3 hL.bo, ?_, ?_, ?_, ?_⟩
        · intro r hr
          rcases List.mem_cons.1 hr with rfl | hr
          · exact hX _ List.mem_cons_self
          · exact hL.ok r hr
        · simp only [inL]; have := hL.i; omega
        · simp only [outL]; have := hL.o; omega
        · simp only [List.length_cons]; have := hL.len; omega
      · have hx12 : knd x = 1 ∨ knd x = 2 := by rcases knd_three (hX x List.mem_cons_self) with c | c | c; exact .inl c; exact .inr c; exact absurd c h3
        cases Y with
        | nil =>
          exfalso
          have := inL_nonneg hXt
          simp only [outL, inL] at hio
          rcases hx12 with c | c
          · have := run_eq c; omega
          · have := run_eq2 c; omega
        | cons y Y =>
          by_cases h2 : knd y = 2
          · exact addY (x :: X) y Y hX hY hio hs (fun x' X' e => by cases e; exact h3) h2
          · have hy13 : knd y = 1 ∨ knd y = 3 := by rcases knd_three (hY y List.mem_cons_self) with c | c | c; exact .inl c; exact absurd c h2; exact .inr c
            have zx := sz_pos (hX x List.mem_cons_self)
            have zy := sz_pos (hY y List.mem_cons_self)
            obtain ⟨n, hn⟩ : ∃ n, n = mn2 (sz x) (sz y) := ⟨_, rfl⟩
            obtain ⟨n1, n2, n3⟩ := mn2_le (sz x) (sz y)
            rw [← hn] at n1 n2 n3
            have n0 := n3 zx zy
            have cx := cut_ok hX n0 n1
            have cy := cut_ok hY n0 n2
            have xi := cx.i
            have xo := cx.o
            have yi := cy.i
            have yo := cy.o
            have xs := cx.s
            have ys := cy.s
            rw [if_neg h3] at xo
            rw [if_neg h2] at yi
            obtain ⟨L, hL⟩ := ih _ _ cx.ok cy.ok (by omega) (by omega)
            have li := hL.i
            have lo := hL.o
            have ll := hL.len
            have bo := hL.bo
            rw [hn] at bo
            refine ⟨mid x y n ++ L, by rw [hn]; exact .two hx12 hy13 bo, ?_, ?_, ?_, ?_⟩
            · intro r hr
              rcases List.mem_append.1 hr with hr | hr
              · unfold mid at hr
                split at hr
                · obtain rfl : r = part x 0 n := by simpa using hr
                  rw [(part_knd (hX x List.mem_cons_self) (Int.le_refl _) n0 n1).1]; exact hX x List.mem_cons_self
                · split at hr
                  · obtain rfl : r = part y 0 n := by simpa using hr
                    rw [(part_knd (hY y List.mem_cons_self) (Int.le_refl _) n0 n2).1]; exact hY y List.mem_cons_self
                  · cases hr
              · exact hL.ok r hr
            all_goals unfold mid
            · rw [inL_append, li, xi]
              rcases hy13 with c | c
              · rw [if_pos c]
                rcases hx12 with d | d
                · rw [part_keep d, d, if_neg (by decide)]; show n - 0 + 0 + 0 + _ = _; omega
                · rw [part_add d, d, if_pos rfl]; show (0 : Int) + 0 + 0 + _ = _; omega
              · rw [c, if_neg (by decide)]
                rcases hx12 with d | d
                · rw [d, if_pos rfl, part_drop c, if_neg (by decide)]; show 0 + (n - 0) + 0 + _ = _; omega
                · rw [d, if_neg (by decide), if_pos rfl]; show 0 + _ = _; omega
            · rw [outL_append, lo, yo]
              rcases hy13 with c | c
              · rw [if_pos c, c, if_neg (by decide)]
                rcases hx12 with d | d
                · rw [part_keep d]; show n - 0 + ((E.size : Nat) : Int) + 0 + _ = _; rw [E_size]; omega
                · have := sz_add d
                  rw [part_add d]; show 0 + ((x.f1.extract (0 : Int).toNat n.toNat).size : Int) + 0 + _ = _; rw [ext_size]; omega
              · rw [c, if_neg (by decide), if_pos rfl]
                rcases hx12 with d | d
                · rw [d, if_pos rfl, part_drop c]; show 0 + ((E.size : Nat) : Int) + 0 + _ = _; rw [E_size]; omega
                · rw [d, if_neg (by decide)]; show 0 + _ = _; omega
            · rw [List.length_append]
              have : (if knd y = 1 then [part x 0 n] else if knd x = 1 then [part y 0 n] else []).length ≤ 1 := by
                split
                · simp
                · split <;> simp
              have hc : (cutl n x X).length + (cutl n y Y).length ≤ X.length + Y.length + 1 := by
                have he : n = sz x ∨ n = sz y := by rw [hn]; unfold mn2; split; exact .inr rfl; exact .inl rfl
                unfold cutl
                rcases he with he | he
                · rw [if_pos he]; split <;> simp <;> omega
                · rw [if_pos he]; split <;> simp <;> omega
              rw [List.length_cons, List.length_cons]
              omega
/-- A run is its parts. -/
theorem apW_cut {n : Int} {x : Rn} {X : List Rn} (h : knd x ≠ 0) (h0 : 0 < n) (h1 : n ≤ sz x) (w : List UInt8) : apW (x :: X) w = apW (part x 0 n :: cutl n x X) w := by
  by_cases hn : n = sz x
  · rw [show cutl n x X = X from if_pos hn, hn, part_all h]
  · rw [show cutl n x X = part x n (sz x) :: X from if_neg hn]
    rcases knd_three h with c | c | c
    · have e := run_eq c
      have z := sz_keep c
      rw [part_keep c, part_keep c]
      show (w.take x.f0.toNat ++ L x.f1) ++ apW X (w.drop (x.f0 + x.f2).toNat) = (w.take (n - 0).toNat ++ L E) ++ (((w.drop (n - 0 + 0).toNat).take (sz x - n).toNat ++ L E) ++ apW X ((w.drop (n - 0 + 0).toNat).drop (sz x - n + 0).toNat))
      rw [e.2.2.1, e.2.2.2, L_E, List.append_nil, List.append_nil, List.append_nil, List.drop_drop, ← List.append_assoc, show (n - 0 + 0).toNat = n.toNat by omega, show (n - 0).toNat = n.toNat by omega, ← List.take_add, show n.toNat + (sz x - n).toNat = x.f0.toNat by omega, show n.toNat + (sz x - n + 0).toNat = (x.f0 + 0).toNat by omega]
    · have e := run_eq2 c
      have z := sz_add c
      rw [part_add c, part_add c]
      show (w.take x.f0.toNat ++ L x.f1) ++ apW X (w.drop (x.f0 + x.f2).toNat) = (w.take (0 : Int).toNat ++ L (x.f1.extract (0 : Int).toNat n.toNat)) ++ (((w.drop ((0 : Int) + 0).toNat).take (0 : Int).toNat ++ L (x.f1.extract n.toNat (sz x).toNat)) ++ apW X ((w.drop ((0 : Int) + 0).toNat).drop ((0 : Int) + 0).toNat))
      rw [e.2.1, e.2.2.2, show (0 : Int).toNat = 0 from rfl, show ((0 : Int) + 0).toNat = 0 from rfl, List.take_zero, List.take_zero, List.drop_zero, List.drop_zero, List.nil_append, List.nil_append, List.nil_append, L_take, show (sz x).toNat = x.f1.size by omega, L_drop, ← List.append_assoc, List.take_append_drop]
    · have e := run_eq3 c
      have z := sz_drop c
      rw [part_drop c, part_drop c]
      show (w.take x.f0.toNat ++ L x.f1) ++ apW X (w.drop (x.f0 + x.f2).toNat) = (w.take (0 : Int).toNat ++ L E) ++ (((w.drop (0 + (n - 0)).toNat).take (0 : Int).toNat ++ L E) ++ apW X ((w.drop (0 + (n - 0)).toNat).drop (0 + (sz x - n)).toNat))
      rw [e.2.1, e.2.2.1, L_E, show (0 : Int).toNat = 0 from rfl, List.take_zero, List.take_zero, List.append_nil, List.nil_append, List.nil_append, List.drop_drop, show (0 + (n - 0)).toNat + (0 + (sz x - n)).toNat = (0 + x.f2).toNat by omega]; rfl
theorem bo_ap {X Y M : List Rn} (h : Bo X Y M) : (∀ r ∈ X, knd r ≠ 0) → (∀ r ∈ Y, knd r ≠ 0) → ∀ w : List UInt8, inL X = (w.length : Int) → outL X = inL Y → apW M w = apW Y (apW X w) := by
  induction h with
  | nil => intro _ _ w _ _; rfl
  | @drop x X Y M h3 _ ih =>
    intro hX hY w hi ho
    have e := run_eq3 h3
    have hs := inL_nonneg (fun r hr => hX r (List.mem_cons_of_mem x hr))
    have e1 : (x.f1.size : Int) = 0 := by rw [e.2.2.1, E_size]; rfl
    simp only [inL, outL] at hi ho
    have := ih (fun r hr => hX r (List.mem_cons_of_mem x hr)) hY (w.drop (x.f0 + x.f2).toNat) (by rw [List.length_drop]; omega) (by omega)
    show (w.take x.f0.toNat ++ L x.f1) ++ apW M (w.drop (x.f0 + x.f2).toNat) = apW Y ((w.take x.f0.toNat ++ L x.f1) ++ apW X (w.drop (x.f0 + x.f2).toNat))
    rw [this, e.2.1, e.2.2.1, L_E, show (0 : Int).toNat = 0 from rfl, List.take_zero, List.nil_append, List.nil_append]; rfl
  | @add X y Y M _ h2 _ ih =>
    intro hX hY w hi ho
    have e := run_eq2 h2
    simp only [inL] at ho
    have := ih hX (fun r hr => hY r (List.mem_cons_of_mem y hr)) w hi (by omega)
    show (w.take y.f0.toNat ++ L y.f1) ++ apW M (w.drop (y.f0 + y.f2).toNat) = ((apW X w).take y.f0.toNat ++ L y.f1) ++ apW Y ((apW X w).drop (y.f0 + y.f2).toNat)
    rw [e.2.1, e.2.2.2, show (0 : Int).toNat = 0 from rfl, show ((0 : Int) + 0).toNat = 0 from rfl, List.take_zero, List.take_zero, List.drop_zero, List.drop_zero, this]
  | @two x X y Y M hx hy _ ih =>
    intro hX hY w hi ho
    have kx := hX x List.mem_cons_self
    have ky := hY y List.mem_cons_self
    obtain ⟨n1, n2, n3⟩ := mn2_le (sz x) (sz y)
    have n0 := n3 (sz_pos kx) (sz_pos ky)
    generalize mn2 (sz x) (sz y) = n at *
    have cx := cut_ok hX n0 n1
    have cy := cut_ok hY n0 n2
    have xi := cx.i
    have xo := cx.o
    have yi := cy.i
    have hcx := inL_nonneg cx.ok
    have h3 : knd x ≠ 3 := by omega
    have h2 : knd y ≠ 2 := by omega
    rw [if_neg h3] at xo
    rw [if_neg h2] at yi
    have ih := ih cx.ok cy.ok
    rw [apW_cut kx n0 n1, apW_cut ky n0 n2]
    unfold mid
    rcases hx with c | c
    · rw [c, if_neg (by decide)] at xi
      have hw : n ≤ (w.length : Int) := by omega
      have e := ih (w.drop n.toNat) (by rw [List.length_drop]; omega) (by omega)
      have ea : apW (part x 0 n :: cutl n x X) w = w.take n.toNat ++ apW (cutl n x X) (w.drop n.toNat) := by
        rw [part_keep c]
        show (w.take (n - 0).toNat ++ L E) ++ apW (cutl n x X) (w.drop (n - 0 + 0).toNat) = _
        rw [L_E, List.append_nil, Int.sub_zero, Int.add_zero]
      have hlen : (w.take n.toNat).length = n.toNat := by rw [List.length_take]; omega
      rcases hy with d | d
      · rw [if_pos d, ea]
        show apW (part x 0 n :: M) w = apW (part y 0 n :: cutl n y Y) _
        rw [part_keep c, part_keep d]
        show (w.take (n - 0).toNat ++ L E) ++ apW M (w.drop (n - 0 + 0).toNat) = ((w.take n.toNat ++ apW (cutl n x X) (w.drop n.toNat)).take (n - 0).toNat ++ L E) ++ apW (cutl n y Y) ((w.take n.toNat ++ apW (cutl n x X) (w.drop n.toNat)).drop (n - 0 + 0).toNat)
        rw [L_E, List.append_nil, List.append_nil, Int.sub_zero, Int.add_zero, List.take_left' hlen, List.drop_left' hlen, e]
      · rw [d, if_neg (by decide), if_pos c, ea]
        show apW (part y 0 n :: M) w = apW (part y 0 n :: cutl n y Y) _
        rw [part_drop d]
        show (w.take (0 : Int).toNat ++ L E) ++ apW M (w.drop (0 + (n - 0)).toNat) = ((w.take n.toNat ++ apW (cutl n x X) (w.drop n.toNat)).take (0 : Int).toNat ++ L E) ++ apW (cutl n y Y) ((w.take n.toNat ++ apW (cutl n x X) (w.drop n.toNat)).drop (0 + (n - 0)).toNat)
        rw [show (0 : Int).toNat = 0 from rfl, List.take_zero, List.take_zero, Int.sub_zero, Int.zero_add, List.drop_left' hlen, e]
    · rw [c, if_pos rfl] at xi
      have e := ih w (by omega) (by omega)
      have z := sz_add c
      have ea : apW (part x 0 n :: cutl n x X) w = L (x.f1.extract 0 n.toNat) ++ apW (cutl n x X) w := by
        rw [part_add c]; rfl
      have hlen : (L (x.f1.extract 0 n.toNat)).length = n.toNat := by rw [L_len, ext_size]; omega
      rcases hy with d | d
      · rw [if_pos d, ea]
        show apW (part x 0 n :: M) w = apW (part y 0 n :: cutl n y Y) _
        rw [part_add c, part_keep d]
        show (w.take (0 : Int).toNat ++ L (x.f1.extract 0 n.toNat)) ++ apW M (w.drop ((0 : Int) + 0).toNat) = ((L (x.f1.extract 0 n.toNat) ++ apW (cutl n x X) w).take (n - 0).toNat ++ L E) ++ apW (cutl n y Y) ((L (x.f1.extract 0 n.toNat) ++ apW (cutl n x X) w).drop (n - 0 + 0).toNat)
        rw [show (0 : Int).toNat = 0 from rfl, show ((0 : Int) + 0).toNat = 0 from rfl, List.take_zero, List.drop_zero, List.nil_append, L_E, List.append_nil, Int.sub_zero, Int.add_zero, List.take_left' hlen, List.drop_left' hlen, e]
      · rw [d, c, if_neg (by decide), if_neg (by decide), ea]
        rw [part_drop d]
        show apW M w = ((L (x.f1.extract 0 n.toNat) ++ apW (cutl n x X) w).take (0 : Int).toNat ++ L E) ++ apW (cutl n y Y) ((L (x.f1.extract 0 n.toNat) ++ apW (cutl n x X) w).drop (0 + (n - 0)).toNat)
        rw [show (0 : Int).toNat = 0 from rfl, List.take_zero, L_E, List.nil_append, List.nil_append, Int.sub_zero, Int.zero_add, List.drop_left' hlen, e]
end Go.Proofs.Ytbfdplmgefcogaa.ComposeL
end
-- MERGED YtbfdplmgefcogaaComposeR
section
/- The walks of compose's reader: size, part, now, take. -/
namespace Go.Proofs.Ytbfdplmgefcogaa.ComposeR
open Go.RowKit Go.Shelf Go.Proofs.Ytbfdplmgefcogaa.P Go.Proofs.YtbfdplmgefcogaaW.PrintWords Go.Proofs.YtbfdplmgefcogaaW.PrintLast Go.Proofs.YtbfdplmgefcogaaW.PrintMore Go.Proofs.Ytbfdplmgefcogaa.Own Go.Proofs.Ytbfdplmgefcogaa.EditL Go.Proofs.Ytbfdplmgefcogaa.EditK Go.Proofs.Ytbfdplmgefcogaa.EditG Go.Proofs.Ytbfdplmgefcogaa.EditJ Go.Proofs.Ytbfdplmgefcogaa.EditR Go.Proofs.Ytbfdplmgefcogaa.VaryR Go.Proofs.Ytbfdplmgefcogaa.ComposeL Go.Proofs.Ytbfdplmgefcogaa.RunA
attribute [local go_sem] max2_int min2_int max_two min_two
set_option linter.unusedSimpArgs false
set_option linter.unusedVariables false

/-- A run of few bytes. -/
structure Fw (r : Rn) : Prop where
  k : knd r ≠ 0
  a0 : 0 ≤ r.f0
  d0 : 0 ≤ r.f2
  a : r.f0 ≤ 16777216
  s : (r.f1.size : Int) ≤ 16777216
  d : r.f2 ≤ 16777216
set_option maxHeartbeats 1000000 in
set_option maxRecDepth 100000 in
theorem size_c (r : Rn) (h : (0 ≤ r.f0 ∧ r.f0 ≤ 16777216) ∧ (r.f1.size : Int) ≤ 16777216 ∧ 0 ≤ r.f2 ∧ r.f2 ≤ 16777216) (w : World) : Calls Try.prog 40 #[rv r] w fun e w' => e = .returned (.int .i64 (sz r)) ∧ Below w.heap.size w w' := by
  have HB := Aside0.mk (below_alloc (Below.refl w.heap.size w) (.cells #[.int .i64 r.f0, .string r.f1, .int .i64 r.f2] 43))
  have e1 : wrap64 (r.f0 + (r.f1.size : Int)) = r.f0 + (r.f1.size : Int) := w64 (by omega) (by omega)
  have e2 : wrap64 (r.f0 + (r.f1.size : Int) + r.f2) = sz r := w64 (by omega) (by omega)
  have HE1 := Aside0.mk e1
  have HE2 := Aside0.mk e2
  clear e1 e2 h
  unfold rv
  go_enter Try.func40, Try.ntmps40
  go_wp2_with fail
  go_ret
  exact ⟨by rw [HE1.out, HE2.out]; rfl, HB.out⟩
theorem res_run {fn : Func} {p : Tmp} (hr : fn.results = #[.cell p 43]) (tmps : Array Value) (W : World) (B : Nat) (r : Rn) (hp : tmps.getD p undef = .pointer (some ⟨B, 0, none⟩)) (hB : W.heap[B]? = some (rcs r.f0 r.f1 r.f2)) : (results fn tmps).run Try.prog W = .ok (rv r) W := by
  have hp' : tmps[p]?.getD undef = .pointer (some ⟨B, 0, none⟩) := by simpa using hp
  obtain ⟨c0, c1, c2⟩ := blk_cells hB
  simp [results, hr, hp', c0, c1, c2, go_sem, rv]
def PartPost (v : Rn) (w : World) (e : Ending) (w' : World) : Prop := e = .returned (.agg #[.int .i64 v.f0, .string v.f1, .int .i64 v.f2]) ∧ Below w.heap.size w w'
theorem new2 (w : World) (o o2 : Obj) : ((w.alloc o).alloc o2).heap[w.heap.size + 1]? = some o2 := by
  have := Own.heap_new (w.alloc o) o2
  rwa [World.size_alloc] at this
set_option maxHeartbeats 2000000 in
set_option maxRecDepth 100000 in
theorem part_c (x : Rn) (h : Fw x) (f t : Int) (h0 : 0 ≤ f) (h1 : f ≤ t) (h2 : t ≤ sz x) (w : World) : Calls Try.prog 45 #[rv x, .int .i64 f, .int .i64 t] w (PartPost (ComposeL.part x f t) w) := by
  have hz : sz x ≤ 50331648 := by have := h.a; have := h.s; have := h.d; unfold sz; omega
  have hw : wrap64 (t - f) = t - f := w64 (by omega) (by omega)
  rcases knd_three h.k with c | c | c
  · obtain ⟨he, hp, e1, e2⟩ := run_eq c
    have HP := Aside0.mk (part_keep c f t)
    obtain ⟨a, b, d⟩ := x
    simp only at hp e1 e2
    subst e1 e2
    clear he h hz c h2
    unfold rv
    go_enter Try.func45, Try.ntmps45
    go_wp2_with fail
    refine bodyPost_ret (res_run rfl _ _ _ ⟨t - f, E, 0⟩ rfl (new2 _ _ _)) rfl ?_
    exact ⟨by rw [HP.out]; rfl, below_alloc (below_alloc (Below.refl _ _) _) _⟩
  · obtain ⟨he, e0, e1, e2⟩ := run_eq2 c
    have z := (sz_add c).1
    have HP := Aside0.mk (part_add c f t)
    obtain ⟨a, b, d⟩ := x
    simp only at e0 e1 e2
    subst e0 e2
    have ht : t ≤ (b.size : Int) := by rw [z] at h2; exact h2
    clear he h hz c h2 z
    unfold rv
    go_enter Try.func45, Try.ntmps45
    go_wp2_with fail
    refine bodyPost_ret (res_run rfl _ _ _ ⟨0, b.extract f.toNat t.toNat, 0⟩ rfl (new2 _ _ _)) rfl ?_
    exact ⟨by rw [HP.out]; rfl, below_alloc (below_alloc (Below.refl _ _) _) _⟩
  · obtain ⟨he, e0, e1, e2⟩ := run_eq3 c
    have HP := Aside0.mk (part_drop c f t)
    obtain ⟨a, b, d⟩ := x
    simp only at e0 e1 e2
    subst e0 e1
    clear he h hz c h2
    unfold rv
    go_enter Try.func45, Try.ntmps45
    go_wp2_with fail
    refine bodyPost_ret (res_run rfl _ _ _ ⟨0, E, t - f⟩ rfl (new2 _ _ _)) rfl ?_
    exact ⟨by rw [HP.out]; rfl, below_alloc (below_alloc (Below.refl _ _) _) _⟩
/-- A reader: its runs, how much of the first one was taken. -/
def rdr (A : Option Addr) (c : Nat) (l : List Rn) (at_ : Int) : Obj := .cells #[.slice A l.length c, .int .i64 at_] 69 (0, 0)
theorem rdr_cells {W : World} {R : Nat} {A : Option Addr} {c : Nat} {l : List Rn} {at_ : Int} (h : W.heap[R]? = some (rdr A c l at_)) : W.cell? ⟨R, 0, none⟩ = some (.slice A l.length c) ∧ W.cell? ⟨R, 1, none⟩ = some (.int .i64 at_) ∧ W.frozen? ⟨R, 0, none⟩ = false ∧ W.frozen? ⟨R, 1, none⟩ = false := by
  unfold rdr at h
  exact ⟨by rw [cell_of_row W _ 0 _ _ _ h]; rfl, by rw [cell_of_row W _ 1 _ _ _ h]; rfl, frozen_of_row W _ 0 _ _ h, frozen_of_row W _ 1 _ _ h⟩
theorem first_cells {W : World} {A : Option Addr} {x : Rn} {X : List Rn} (h : RC W A (x :: X)) : ∃ ad, A = some ad ∧ W.cell? ad = some (.int .i64 x.f0) ∧ W.cell? ⟨ad.block, ad.off + 1, none⟩ = some (.string x.f1) ∧ W.cell? ⟨ad.block, ad.off + 2, none⟩ = some (.int .i64 x.f2) := by
  obtain ⟨ad, e, h0, h1, h2⟩ := at_nat h 0 (by simp)
  have z : ad.add (0 * 3) = ad := by simp [Addr.add]
  rw [z] at h0 h1 h2
  exact ⟨ad, e, h0, h1, h2⟩
set_option maxHeartbeats 2000000 in
set_option maxRecDepth 100000 in
theorem now_nil (R : Nat) (A : Option Addr) (c : Nat) (at_ : Int) (w : World) (h : w.heap[R]? = some (rdr A c [] at_)) : Calls Try.prog 41 #[.pointer (some ⟨R, 0, none⟩)] w (PartPost ⟨0, E, 0⟩ w) := by
  have hb := below_alloc (Below.refl w.heap.size w) (.cells #[.int .i64 0, .string ⟨#[]⟩, .int .i64 0] 43)
  obtain ⟨c0, c1, _, _⟩ := rdr_cells ((hb.block R (Array.getElem?_eq_some_iff.1 h).1).trans h)
  clear h hb
  simp only [List.length_nil] at c0
  go_enter Try.func41, Try.ntmps41
  go_wp2_with fail
  refine bodyPost_ret (res_run rfl _ _ _ ⟨0, E, 0⟩ rfl (Own.heap_new _ _)) rfl ?_
  exact ⟨rfl, below_alloc (Below.refl _ _) _⟩
def ComposeR.T3 : Bool × List (List Nat × List Nat) := (true, [([], []), ([0], [0]), ([1], [1]), ([2], [2]), ([3], [3]), ([4], [4]), ([], []), ([6], [6]), ([7], [7]), ([8], [8]), ([], []), ([10], [10]), ([11], [11]), ([12], [12]), ([13], [13]), ([14], [14]), ([15], [15]), ([5, 9, 16, 16], [5, 9, 16]), ([17, 17, 0, 1, 2, 3, 4, 5, 6, 7, 8, 9, 10, 11, 12, 13, 14, 15, 16, 17], [17])])
def ComposeR.B3 : List Nat := [0, 1, 3, 7, 15, 31, 0, 64, 192, 448, 0, 1024, 3072, 7168, 15360, 31744, 64512, 131071, 262143]
theorem ComposeR.tab3 : rtab .any (opsOf Try.f41 3) = ComposeR.T3 := by kernel_rfl
theorem ComposeR.bits3 : waitsOk ComposeR.T3.2 ComposeR.B3 = true := by kernel_rfl
set_option maxHeartbeats 8000000 in
set_option maxRecDepth 100000 in
theorem now_c (R : Nat) (A : Option Addr) (c : Nat) (x : Rn) (X : List Rn) (at_ : Int) (w : World) (hx : Fw x) (h : w.heap[R]? = some (rdr A c (x :: X) at_)) (hr : RC w A (x :: X)) (h0 : 0 ≤ at_) (h1 : at_ ≤ sz x) (hl : X.length ≤ 140737488351231) : Calls Try.prog 41 #[.pointer (some ⟨R, 0, none⟩)] w (PartPost (ComposeL.part x at_ (sz x)) w) := by
  obtain ⟨w1, hw1⟩ : ∃ w1, w1 = w.alloc (.cells #[.int .i64 0, .string ⟨#[]⟩, .int .i64 0] 43) := ⟨_, rfl⟩
  obtain ⟨B0, hB0⟩ : ∃ B0, B0 = w.heap.size := ⟨_, rfl⟩
  obtain ⟨n, hn⟩ : ∃ n, n = X.length + 1 := ⟨_, rfl⟩
  have hb0 : Below w.heap.size w w1 := by rw [hw1]; exact below_alloc (Below.refl w.heap.size w) _
  have hRlt := (Array.getElem?_eq_some_iff.1 h).1
  have hsz1 : w1.heap.size = w.heap.size + 1 := by rw [hw1]; simp
  have hnew : w1.heap[B0]? = some (rcs 0 E 0) := by rw [hw1, hB0]; exact Own.heap_new _ _
  have hall : ∀ W, Below w1.heap.size w1 W → ((W.cell? ⟨R, 0, none⟩ = some (.slice A n c) ∧ W.cell? ⟨R, 1, none⟩ = some (.int .i64 at_)) ∧ RC W A (x :: X)) ∧ W.heap[B0]? = some (rcs 0 E 0) ∧ (∀ o, W.frozen? ⟨B0, o, none⟩ = false) ∧ Below w.heap.size w W := fun W hb => by
    have hbw := below_step hb0 hb
    obtain ⟨c0, c1, _, _⟩ := rdr_cells ((hbw.block R hRlt).trans h)
    have hq : W.heap[B0]? = some (rcs 0 E 0) := (hb.block B0 (by omega)).trans hnew
    exact ⟨⟨⟨by rw [hn]; exact c0, c1⟩, RC.below hr hbw⟩, hq, fun o => frozen_of_row W _ o _ _ hq, hbw⟩
  have HA := Aside0.mk hall
  have HSz := Aside0.mk (size_c x ⟨⟨hx.a0, hx.a⟩, hx.s, hx.d0, hx.d⟩)
  have HPt := Aside0.mk (part_c x hx at_ (sz x) h0 h1 (Int.le_refl _))
  obtain ⟨v, hv⟩ : ∃ v, v = ComposeL.part x at_ (sz x) := ⟨_, rfl⟩
  rw [← hv] at HPt ⊢
  clear hv
  have hb1 : Below w1.heap.size w1 w1.drew := below_drew1 (Below.refl _ _)
  obtain ⟨⟨⟨d0, d1⟩, hrd⟩, _⟩ := hall _ hb1
  obtain ⟨⟨⟨c0, _⟩, _⟩, _⟩ := hall _ (Below.refl _ _)
  obtain ⟨ad, rfl, y0, y1, y2⟩ := first_cells hrd
  have HB1 := Aside0.mk hb1
  have hnp : 0 < n := by omega
  have hn0 : ((n : Int) == 0) = false := by simp; omega
  have HW1 := Aside0.mk hw1
  rw [hw1] at c0
  clear h hr hall hb0 hb1 hrd hx h0 h1 hl hn hRlt hsz1 hnew hw1
  go_enter Try.func41, Try.ntmps41
  go_wp2_with fail
  rw [← HW1.out, ← hB0]
  have HB0 := Aside0.mk hB0
  have HBW := Aside0.mk (show Below w.heap.size w w1 by rw [HW1.out]; exact below_alloc (Below.refl _ _) _)
  clear c0 hB0
  have HALL := HA
  have HB := HBW
  clear HB1 d0 d1 y0 y1 y2
  refine start_ (n := 19) (S := fun w' => True) (ds := []) #[false, false, false, false, false, false, false, false, false, false, false, false, false, false, false, false, false, false, false] (by kernel_rfl) rfl rfl trivial (fun hHeld => ?_); refine with_tabW ComposeR.tab3 ComposeR.bits3 (fun HT_ HW_ => ?_)
  refine inv_at [0, 1, 2, 3, 4, 5, 6, 7, 8, 9, 10, 11, 12, 13, 14, 15, 16, 17, 18] (fun a0_ b a w' => a = putSel a0_ b [(0, 10, (.pointer (some ⟨R, 0, none⟩))), (1, 11, (.pointer (some ⟨R, 0, none⟩))), (2, 12, (.pointer (some ⟨R, 0, none⟩))), (3, 13, (.slice (some ad) n c)), (4, 14, (.pointer (some ad))), (5, 15, (.agg #[.int .i64 x.f0, .string x.f1, .int .i64 x.f2])), (6, 16, (.pointer (some ⟨R, 0, none⟩))), (7, 17, (.pointer (some ⟨R, 0, none⟩))), (8, 18, (.pointer (some ⟨R, 1, none⟩))), (9, 19, (.int .i64 at_)), (10, 20, (.pointer (some ⟨R, 0, none⟩))), (11, 21, (.pointer (some ⟨R, 0, none⟩))), (12, 22, (.pointer (some ⟨R, 0, none⟩))), (13, 23, (.slice (some ad) n c)), (14, 24, (.pointer (some ad))), (15, 25, (.agg #[.int .i64 x.f0, .string x.f1, .int .i64 x.f2])), (16, 26, (.int .i64 (sz x))), (17, 27, (.agg #[.int .i64 v.f0, .string v.f1, .int .i64 v.f2]))] ∧ (Below w.heap.size w w') ∧ (b 18 = false → Below w1.heap.size w1 w') ∧ (b 18 = true → w'.heap[B0]? = some (rcs v.f0 v.f1 v.f2))) HT_.out HW_.out (by kernel_rfl) (by kernel_rfl) ?_ ?_ ?_
  · exact ⟨by simp only [putSel, Bool.false_eq_true, if_false], below_drew1 HBW.out, fun _ => below_drew1 (Below.refl _ _), fun h_ => absurd h_ (by decide)⟩
  · skip
    clear HA HB
    refine steps_cons ?_ ?_
    · rintro b a w' ⟨ha, Q_HB, Q_HA, Q_HZ⟩ hb_ hon hoff
      refine ⟨_, rfl, fun K hK => ?_⟩
      have e0 : a.tmps[0]? = some ((.pointer (some ⟨R, 0, none⟩))) := by rw [ha]; exact (putSel_off rfl).trans rfl
      replace ha := Aside0.mk ha
      have HB := Aside0.mk Q_HB
      have HA := Aside0.mk (Q_HA (hoff 18 (by kernel_rfl)))
      refine value_ (w1 := w') (v := (.pointer (some ⟨R, 0, none⟩))) (by rfl) rfl ?_ ?_
      · go_simp
        (try simp only [i64_w])
        try rfl
      refine hK.out _ _ ⟨(by rw [ha.out]; exact putSel_upk 0 hb_ rfl rfl rfl), Q_HB, Q_HA, fun h0_ => absurd ((hoff 18 (by kernel_rfl)).symm.trans h0_) (by decide)⟩
    refine steps_cons ?_ ?_
    · rintro b a w' ⟨ha, Q_HB, Q_HA, Q_HZ⟩ hb_ hon hoff
      refine ⟨_, rfl, fun K hK => ?_⟩
      have e10 : a.tmps[10]? = some ((.pointer (some ⟨R, 0, none⟩))) := by rw [ha]; exact putSel_on (e := (0, 10, (.pointer (some ⟨R, 0, none⟩)))) 0 rfl rfl (hon 0 (by kernel_rfl)) rfl
      replace ha := Aside0.mk ha
      have HB := Aside0.mk Q_HB
      have HA := Aside0.mk (Q_HA (hoff 18 (by kernel_rfl)))
      refine value_ (w1 := w') (v := (.pointer (some ⟨R, 0, none⟩))) (by rfl) rfl ?_ ?_
      · go_simp
        (try simp only [i64_w])
        try rfl
      refine hK.out _ _ ⟨(by rw [ha.out]; exact putSel_upk 1 hb_ rfl rfl rfl), Q_HB, Q_HA, fun h0_ => absurd ((hoff 18 (by kernel_rfl)).symm.trans h0_) (by decide)⟩
    refine steps_cons ?_ ?_
    · rintro b a w' ⟨ha, Q_HB, Q_HA, Q_HZ⟩ hb_ hon hoff
      refine ⟨_, rfl, fun K hK => ?_⟩
      have e11 : a.tmps[11]? = some ((.pointer (some ⟨R, 0, none⟩))) := by rw [ha]; exact putSel_on (e := (1, 11, (.pointer (some ⟨R, 0, none⟩)))) 1 rfl rfl (hon 1 (by kernel_rfl)) rfl
      replace ha := Aside0.mk ha
      have HB := Aside0.mk Q_HB
      have HA := Aside0.mk (Q_HA (hoff 18 (by kernel_rfl)))
      refine value_ (w1 := w') (v := (.pointer (some ⟨R, 0, none⟩))) (by rfl) rfl ?_ ?_
      · go_simp
        (try simp only [i64_w])
        try rfl
      refine hK.out _ _ ⟨(by rw [ha.out]; exact putSel_upk 2 hb_ rfl rfl rfl), Q_HB, Q_HA, fun h0_ => absurd ((hoff 18 (by kernel_rfl)).symm.trans h0_) (by decide)⟩
    refine steps_cons ?_ ?_
    · rintro b a w' ⟨ha, Q_HB, Q_HA, Q_HZ⟩ hb_ hon hoff
      refine ⟨_, rfl, fun K hK => ?_⟩
      have e12 : a.tmps[12]? = some ((.pointer (some ⟨R, 0, none⟩))) := by rw [ha]; exact putSel_on (e := (2, 12, (.pointer (some ⟨R, 0, none⟩)))) 2 rfl rfl (hon 2 (by kernel_rfl)) rfl
      replace ha := Aside0.mk ha
      have HB := Aside0.mk Q_HB
      have HA := Aside0.mk (Q_HA (hoff 18 (by kernel_rfl)))
      obtain ⟨⟨⟨hc_, _⟩, _⟩, _⟩ := HALL.out _ HA.out
      refine value_ (w1 := w') (v := (.slice (some ad) n c)) (by rfl) rfl ?_ ?_
      · go_simp
        (try simp only [i64_w])
        try rfl
      refine hK.out _ _ ⟨(by rw [ha.out]; exact putSel_upk 3 hb_ rfl rfl rfl), Q_HB, Q_HA, fun h0_ => absurd ((hoff 18 (by kernel_rfl)).symm.trans h0_) (by decide)⟩
    refine steps_cons ?_ ?_
    · rintro b a w' ⟨ha, Q_HB, Q_HA, Q_HZ⟩ hb_ hon hoff
      refine ⟨_, rfl, fun K hK => ?_⟩
      have e13 : a.tmps[13]? = some ((.slice (some ad) n c)) := by rw [ha]; exact putSel_on (e := (3, 13, (.slice (some ad) n c))) 3 rfl rfl (hon 3 (by kernel_rfl)) rfl
      replace ha := Aside0.mk ha
      have HB := Aside0.mk Q_HB
      have HA := Aside0.mk (Q_HA (hoff 18 (by kernel_rfl)))
      refine value_ (w1 := w') (v := (.pointer (some ad))) (by rfl) rfl ?_ ?_
      · go_simp
        (try simp only [i64_w])
        try rfl
      refine hK.out _ _ ⟨(by rw [ha.out]; exact putSel_upk 4 hb_ rfl rfl rfl), Q_HB, Q_HA, fun h0_ => absurd ((hoff 18 (by kernel_rfl)).symm.trans h0_) (by decide)⟩
    refine steps_cons ?_ ?_
    · rintro b a w' ⟨ha, Q_HB, Q_HA, Q_HZ⟩ hb_ hon hoff
      refine ⟨_, rfl, fun K hK => ?_⟩
      have e14 : a.tmps[14]? = some ((.pointer (some ad))) := by rw [ha]; exact putSel_on (e := (4, 14, (.pointer (some ad)))) 4 rfl rfl (hon 4 (by kernel_rfl)) rfl
      replace ha := Aside0.mk ha
      have HB := Aside0.mk Q_HB
      have HA := Aside0.mk (Q_HA (hoff 18 (by kernel_rfl)))
      obtain ⟨⟨_, hre_⟩, _⟩ := HALL.out _ HA.out
      obtain ⟨ad2_, e2_, z0_, z1_, z2_⟩ := first_cells hre_
      cases e2_
      clear hre_
      refine value_ (w1 := w') (v := (.agg #[.int .i64 x.f0, .string x.f1, .int .i64 x.f2])) (by rfl) rfl ?_ ?_
      · go_simp
        (try simp only [i64_w])
        try rfl
      refine hK.out _ _ ⟨(by rw [ha.out]; exact putSel_upk 5 hb_ rfl rfl rfl), Q_HB, Q_HA, fun h0_ => absurd ((hoff 18 (by kernel_rfl)).symm.trans h0_) (by decide)⟩
    refine steps_cons ?_ ?_
    · rintro b a w' ⟨ha, Q_HB, Q_HA, Q_HZ⟩ hb_ hon hoff
      refine ⟨_, rfl, fun K hK => ?_⟩
      have e0 : a.tmps[0]? = some ((.pointer (some ⟨R, 0, none⟩))) := by rw [ha]; exact (putSel_off rfl).trans rfl
      replace ha := Aside0.mk ha
      have HB := Aside0.mk Q_HB
      have HA := Aside0.mk (Q_HA (hoff 18 (by kernel_rfl)))
      refine value_ (w1 := w') (v := (.pointer (some ⟨R, 0, none⟩))) (by rfl) rfl ?_ ?_
      · go_simp
        (try simp only [i64_w])
        try rfl
      refine hK.out _ _ ⟨(by rw [ha.out]; exact putSel_upk 6 hb_ rfl rfl rfl), Q_HB, Q_HA, fun h0_ => absurd ((hoff 18 (by kernel_rfl)).symm.trans h0_) (by decide)⟩
    refine steps_cons ?_ ?_
    · rintro b a w' ⟨ha, Q_HB, Q_HA, Q_HZ⟩ hb_ hon hoff
      refine ⟨_, rfl, fun K hK => ?_⟩
      have e16 : a.tmps[16]? = some ((.pointer (some ⟨R, 0, none⟩))) := by rw [ha]; exact putSel_on (e := (6, 16, (.pointer (some ⟨R, 0, none⟩)))) 6 rfl rfl (hon 6 (by kernel_rfl)) rfl
      replace ha := Aside0.mk ha
      have HB := Aside0.mk Q_HB
      have HA := Aside0.mk (Q_HA (hoff 18 (by kernel_rfl)))
      refine value_ (w1 := w') (v := (.pointer (some ⟨R, 0, none⟩))) (by rfl) rfl ?_ ?_
      · go_simp
        (try simp only [i64_w])
        try rfl
      refine hK.out _ _ ⟨(by rw [ha.out]; exact putSel_upk 7 hb_ rfl rfl rfl), Q_HB, Q_HA, fun h0_ => absurd ((hoff 18 (by kernel_rfl)).symm.trans h0_) (by decide)⟩
    refine steps_cons ?_ ?_
    · rintro b a w' ⟨ha, Q_HB, Q_HA, Q_HZ⟩ hb_ hon hoff
      refine ⟨_, rfl, fun K hK => ?_⟩
      have e17 : a.tmps[17]? = some ((.pointer (some ⟨R, 0, none⟩))) := by rw [ha]; exact putSel_on (e := (7, 17, (.pointer (some ⟨R, 0, none⟩)))) 7 rfl rfl (hon 7 (by kernel_rfl)) rfl
      replace ha := Aside0.mk ha
      have HB := Aside0.mk Q_HB
      have HA := Aside0.mk (Q_HA (hoff 18 (by kernel_rfl)))
      refine value_ (w1 := w') (v := (.pointer (some ⟨R, 1, none⟩))) (by rfl) rfl ?_ ?_
      · go_simp
        (try simp only [i64_w])
        try rfl
      refine hK.out _ _ ⟨(by rw [ha.out]; exact putSel_upk 8 hb_ rfl rfl rfl), Q_HB, Q_HA, fun h0_ => absurd ((hoff 18 (by kernel_rfl)).symm.trans h0_) (by decide)⟩
    refine steps_cons ?_ ?_
    · rintro b a w' ⟨ha, Q_HB, Q_HA, Q_HZ⟩ hb_ hon hoff
      refine ⟨_, rfl, fun K hK => ?_⟩
      have e18 : a.tmps[18]? = some ((.pointer (some ⟨R, 1, none⟩))) := by rw [ha]; exact putSel_on (e := (8, 18, (.pointer (some ⟨R, 1, none⟩)))) 8 rfl rfl (hon 8 (by kernel_rfl)) rfl
      replace ha := Aside0.mk ha
      have HB := Aside0.mk Q_HB
      have HA := Aside0.mk (Q_HA (hoff 18 (by kernel_rfl)))
      obtain ⟨⟨⟨_, hc_⟩, _⟩, _⟩ := HALL.out _ HA.out
      refine value_ (w1 := w') (v := (.int .i64 at_)) (by rfl) rfl ?_ ?_
      · go_simp
        (try simp only [i64_w])
        try rfl
      refine hK.out _ _ ⟨(by rw [ha.out]; exact putSel_upk 9 hb_ rfl rfl rfl), Q_HB, Q_HA, fun h0_ => absurd ((hoff 18 (by kernel_rfl)).symm.trans h0_) (by decide)⟩
    refine steps_cons ?_ ?_
    · rintro b a w' ⟨ha, Q_HB, Q_HA, Q_HZ⟩ hb_ hon hoff
      refine ⟨_, rfl, fun K hK => ?_⟩
      have e0 : a.tmps[0]? = some ((.pointer (some ⟨R, 0, none⟩))) := by rw [ha]; exact (putSel_off rfl).trans rfl
      replace ha := Aside0.mk ha
      have HB := Aside0.mk Q_HB
      have HA := Aside0.mk (Q_HA (hoff 18 (by kernel_rfl)))
      refine value_ (w1 := w') (v := (.pointer (some ⟨R, 0, none⟩))) (by rfl) rfl ?_ ?_
      · go_simp
        (try simp only [i64_w])
        try rfl
      refine hK.out _ _ ⟨(by rw [ha.out]; exact putSel_upk 10 hb_ rfl rfl rfl), Q_HB, Q_HA, fun h0_ => absurd ((hoff 18 (by kernel_rfl)).symm.trans h0_) (by decide)⟩
    refine steps_cons ?_ ?_
    · rintro b a w' ⟨ha, Q_HB, Q_HA, Q_HZ⟩ hb_ hon hoff
      refine ⟨_, rfl, fun K hK => ?_⟩
      have e20 : a.tmps[20]? = some ((.pointer (some ⟨R, 0, none⟩))) := by rw [ha]; exact putSel_on (e := (10, 20, (.pointer (some ⟨R, 0, none⟩)))) 10 rfl rfl (hon 10 (by kernel_rfl)) rfl
      replace ha := Aside0.mk ha
      have HB := Aside0.mk Q_HB
      have HA := Aside0.mk (Q_HA (hoff 18 (by kernel_rfl)))
      refine value_ (w1 := w') (v := (.pointer (some ⟨R, 0, none⟩))) (by rfl) rfl ?_ ?_
      · go_simp
        (try simp only [i64_w])
        try rfl
      refine hK.out _ _ ⟨(by rw [ha.out]; exact putSel_upk 11 hb_ rfl rfl rfl), Q_HB, Q_HA, fun h0_ => absurd ((hoff 18 (by kernel_rfl)).symm.trans h0_) (by decide)⟩
    refine steps_cons ?_ ?_
    · rintro b a w' ⟨ha, Q_HB, Q_HA, Q_HZ⟩ hb_ hon hoff
      refine ⟨_, rfl, fun K hK => ?_⟩
      have e21 : a.tmps[21]? = some ((.pointer (some ⟨R, 0, none⟩))) := by rw [ha]; exact putSel_on (e := (11, 21, (.pointer (some ⟨R, 0, none⟩)))) 11 rfl rfl (hon 11 (by kernel_rfl)) rfl
      replace ha := Aside0.mk ha
      have HB := Aside0.mk Q_HB
      have HA := Aside0.mk (Q_HA (hoff 18 (by kernel_rfl)))
      refine value_ (w1 := w') (v := (.pointer (some ⟨R, 0, none⟩))) (by rfl) rfl ?_ ?_
      · go_simp
        (try simp only [i64_w])
        try rfl
      refine hK.out _ _ ⟨(by rw [ha.out]; exact putSel_upk 12 hb_ rfl rfl rfl), Q_HB, Q_HA, fun h0_ => absurd ((hoff 18 (by kernel_rfl)).symm.trans h0_) (by decide)⟩
    refine steps_cons ?_ ?_
    · rintro b a w' ⟨ha, Q_HB, Q_HA, Q_HZ⟩ hb_ hon hoff
      refine ⟨_, rfl, fun K hK => ?_⟩
      have e22 : a.tmps[22]? = some ((.pointer (some ⟨R, 0, none⟩))) := by rw [ha]; exact putSel_on (e := (12, 22, (.pointer (some ⟨R, 0, none⟩)))) 12 rfl rfl (hon 12 (by kernel_rfl)) rfl
      replace ha := Aside0.mk ha
      have HB := Aside0.mk Q_HB
      have HA := Aside0.mk (Q_HA (hoff 18 (by kernel_rfl)))
      obtain ⟨⟨⟨hc_, _⟩, _⟩, _⟩ := HALL.out _ HA.out
      refine value_ (w1 := w') (v := (.slice (some ad) n c)) (by rfl) rfl ?_ ?_
      · go_simp
        (try simp only [i64_w])
        try rfl
      refine hK.out _ _ ⟨(by rw [ha.out]; exact putSel_upk 13 hb_ rfl rfl rfl), Q_HB, Q_HA, fun h0_ => absurd ((hoff 18 (by kernel_rfl)).symm.trans h0_) (by decide)⟩
    refine steps_cons ?_ ?_
    · rintro b a w' ⟨ha, Q_HB, Q_HA, Q_HZ⟩ hb_ hon hoff
      refine ⟨_, rfl, fun K hK => ?_⟩
      have e23 : a.tmps[23]? = some ((.slice (some ad) n c)) := by rw [ha]; exact putSel_on (e := (13, 23, (.slice (some ad) n c))) 13 rfl rfl (hon 13 (by kernel_rfl)) rfl
      replace ha := Aside0.mk ha
      have HB := Aside0.mk Q_HB
      have HA := Aside0.mk (Q_HA (hoff 18 (by kernel_rfl)))
      refine value_ (w1 := w') (v := (.pointer (some ad))) (by rfl) rfl ?_ ?_
      · go_simp
        (try simp only [i64_w])
        try rfl
      refine hK.out _ _ ⟨(by rw [ha.out]; exact putSel_upk 14 hb_ rfl rfl rfl), Q_HB, Q_HA, fun h0_ => absurd ((hoff 18 (by kernel_rfl)).symm.trans h0_) (by decide)⟩
    refine steps_cons ?_ ?_
    · rintro b a w' ⟨ha, Q_HB, Q_HA, Q_HZ⟩ hb_ hon hoff
      refine ⟨_, rfl, fun K hK => ?_⟩
      have e24 : a.tmps[24]? = some ((.pointer (some ad))) := by rw [ha]; exact putSel_on (e := (14, 24, (.pointer (some ad)))) 14 rfl rfl (hon 14 (by kernel_rfl)) rfl
      replace ha := Aside0.mk ha
      have HB := Aside0.mk Q_HB
      have HA := Aside0.mk (Q_HA (hoff 18 (by kernel_rfl)))
      obtain ⟨⟨_, hre_⟩, _⟩ := HALL.out _ HA.out
      obtain ⟨ad2_, e2_, z0_, z1_, z2_⟩ := first_cells hre_
      cases e2_
      clear hre_
      refine value_ (w1 := w') (v := (.agg #[.int .i64 x.f0, .string x.f1, .int .i64 x.f2])) (by rfl) rfl ?_ ?_
      · go_simp
        (try simp only [i64_w])
        try rfl
      refine hK.out _ _ ⟨(by rw [ha.out]; exact putSel_upk 15 hb_ rfl rfl rfl), Q_HB, Q_HA, fun h0_ => absurd ((hoff 18 (by kernel_rfl)).symm.trans h0_) (by decide)⟩
    refine steps_cons ?_ ?_
    · rintro b a w' ⟨ha, Q_HB, Q_HA, Q_HZ⟩ hb_ hon hoff
      refine ⟨_, rfl, fun K hK => ?_⟩
      have e25 : a.tmps[25]? = some ((.agg #[.int .i64 x.f0, .string x.f1, .int .i64 x.f2])) := by rw [ha]; exact putSel_on (e := (15, 25, (.agg #[.int .i64 x.f0, .string x.f1, .int .i64 x.f2]))) 15 rfl rfl (hon 15 (by kernel_rfl)) rfl
      replace ha := Aside0.mk ha
      have HB := Aside0.mk Q_HB
      have HA := Aside0.mk (Q_HA (hoff 18 (by kernel_rfl)))
      refine goes_ Try.func40 (by kernel_rfl) rfl #[.agg #[.int .i64 x.f0, .string x.f1, .int .i64 x.f2]] (by rfl) rfl rfl (by first | (simp only [List.map_toArray, List.map_cons, List.map_nil, Act.eval, Array.getD_eq_getD_getElem?, Option.getD_some, e25]; done) | (simp only [List.map_toArray, List.map_cons, List.map_nil, Act.eval, Array.getD_eq_getD_getElem?, Option.getD_some, e25]; rfl)) ?_
      refine (HSz.out _).mono ?_
      rintro e w1_ ⟨rfl, hb⟩
      refine ⟨_, rfl, ?_⟩
      refine hK.out _ _ ⟨(by rw [ha.out]; exact putSel_upk 16 hb_ rfl rfl rfl), below_step HB.out hb, fun _ => below_step HA.out hb, fun h0_ => absurd ((hoff 18 (by kernel_rfl)).symm.trans h0_) (by decide)⟩
    refine steps_cons ?_ ?_
    · rintro b a w' ⟨ha, Q_HB, Q_HA, Q_HZ⟩ hb_ hon hoff
      refine ⟨_, rfl, fun K hK => ?_⟩
      have e15 : a.tmps[15]? = some ((.agg #[.int .i64 x.f0, .string x.f1, .int .i64 x.f2])) := by rw [ha]; exact putSel_on (e := (5, 15, (.agg #[.int .i64 x.f0, .string x.f1, .int .i64 x.f2]))) 5 rfl rfl (hon 5 (by kernel_rfl)) rfl
      have e19 : a.tmps[19]? = some ((.int .i64 at_)) := by rw [ha]; exact putSel_on (e := (9, 19, (.int .i64 at_))) 9 rfl rfl (hon 9 (by kernel_rfl)) rfl
      have e26 : a.tmps[26]? = some ((.int .i64 (sz x))) := by rw [ha]; exact putSel_on (e := (16, 26, (.int .i64 (sz x)))) 16 rfl rfl (hon 16 (by kernel_rfl)) rfl
      replace ha := Aside0.mk ha
      have HB := Aside0.mk Q_HB
      have HA := Aside0.mk (Q_HA (hoff 18 (by kernel_rfl)))
      refine goes_ Try.func45 (by kernel_rfl) rfl #[.agg #[.int .i64 x.f0, .string x.f1, .int .i64 x.f2], .int .i64 at_, .int .i64 (sz x)] (by rfl) rfl rfl (by first | (simp only [List.map_toArray, List.map_cons, List.map_nil, Act.eval, Array.getD_eq_getD_getElem?, Option.getD_some, e15, e19, e26]; done) | (simp only [List.map_toArray, List.map_cons, List.map_nil, Act.eval, Array.getD_eq_getD_getElem?, Option.getD_some, e15, e19, e26]; rfl)) ?_
      refine (HPt.out _).mono ?_
      rintro e w1_ ⟨rfl, hb⟩
      refine ⟨_, rfl, ?_⟩
      refine hK.out _ _ ⟨(by rw [ha.out]; exact putSel_upk 17 hb_ rfl rfl rfl), below_step HB.out hb, fun _ => below_step HA.out hb, fun h0_ => absurd ((hoff 18 (by kernel_rfl)).symm.trans h0_) (by decide)⟩
    refine steps_cons ?_ ?_
    · rintro b a w' ⟨ha, Q_HB, Q_HA, Q_HZ⟩ hb_ hon hoff
      refine ⟨_, rfl, fun K hK => ?_⟩
      have e2 : a.tmps[2]? = some ((.pointer (some ⟨B0, 0, none⟩))) := by rw [ha]; exact (putSel_off rfl).trans rfl
      have e27 : a.tmps[27]? = some ((.agg #[.int .i64 v.f0, .string v.f1, .int .i64 v.f2])) := by rw [ha]; exact putSel_on (e := (17, 27, (.agg #[.int .i64 v.f0, .string v.f1, .int .i64 v.f2]))) 17 rfl rfl (hon 17 (by kernel_rfl)) rfl
      replace ha := Aside0.mk ha
      have HB := Aside0.mk Q_HB
      have HA := Aside0.mk (Q_HA hb_)
      obtain ⟨_, hq_, hf_, _⟩ := HALL.out _ HA.out
      obtain ⟨w1_, hw1_⟩ : ∃ w1_, w1_ = ((w'.setCell ⟨B0, 0, none⟩ (.int .i64 v.f0)).setCell ⟨B0, 1, none⟩ (.string v.f1)).setCell ⟨B0, 2, none⟩ (.int .i64 v.f2) := ⟨_, rfl⟩
      refine skip_ (w1 := w1_) (by rfl) rfl (by rw [hw1_]; obtain ⟨q0, q1, q2⟩ := blk_cells hq_; have g0 := hf_ 0; have g1 := hf_ 1; have g2 := hf_ 2; go_simp) ?_
      refine hK.out _ _ ⟨(by rw [ha.out]; exact putSel_none (v := undef) rfl), (by rw [hw1_]; exact ((HB.out.setCell (p := ⟨B0, 0, none⟩) (HB0.out ▸ Nat.le_refl _) _).setCell (p := ⟨B0, 1, none⟩) (HB0.out ▸ Nat.le_refl _) _).setCell (p := ⟨B0, 2, none⟩) (HB0.out ▸ Nat.le_refl _) _), fun h0_ => absurd ((up_self b 18).symm.trans h0_) (by decide), fun _ => (by rw [hw1_]; exact blk_put (blk_put (blk_put hq_ 0 _ rfl) 1 _ rfl) 2 _ rfl)⟩
    exact steps_nil
  rintro b a we hall ⟨ha, Q_HB, Q_HA, Q_HZ⟩
  clear HA HB
  have hb0_ := hall 0 (by kernel_rfl)
  have hb1_ := hall 1 (by kernel_rfl)
  have hb2_ := hall 2 (by kernel_rfl)
  have hb3_ := hall 3 (by kernel_rfl)
  have hb4_ := hall 4 (by kernel_rfl)
  have hb5_ := hall 5 (by kernel_rfl)
  have hb6_ := hall 6 (by kernel_rfl)
  have hb7_ := hall 7 (by kernel_rfl)
  have hb8_ := hall 8 (by kernel_rfl)
  have hb9_ := hall 9 (by kernel_rfl)
  have hb10_ := hall 10 (by kernel_rfl)
  have hb11_ := hall 11 (by kernel_rfl)
  have hb12_ := hall 12 (by kernel_rfl)
  have hb13_ := hall 13 (by kernel_rfl)
  have hb14_ := hall 14 (by kernel_rfl)
  have hb15_ := hall 15 (by kernel_rfl)
  have hb16_ := hall 16 (by kernel_rfl)
  have hb17_ := hall 17 (by kernel_rfl)
  have hb18_ := hall 18 (by kernel_rfl)
  subst ha
  simp only [putSel, hb0_, hb1_, hb2_, hb3_, hb4_, hb5_, hb6_, hb7_, hb8_, hb9_, hb10_, hb11_, hb12_, hb13_, hb14_, hb15_, hb16_, hb17_, hb18_, if_true, Act.put, List.setIfInBounds_toArray, List.set_cons_zero, List.set_cons_succ]
  have HB := Aside0.mk Q_HB
  clear Q_HB
  clear Q_HA
  have HZ := Aside0.mk (Q_HZ hb18_)
  clear Q_HZ
  clear hall hb0_ hb1_ hb2_ hb3_ hb4_ hb5_ hb6_ hb7_ hb8_ hb9_ hb10_ hb11_ hb12_ hb13_ hb14_ hb15_ hb16_ hb17_ hb18_
  go_wp2_with fail
  refine bodyPost_ret (res_run rfl _ _ _ v rfl HZ.out) rfl ?_
  exact ⟨rfl, HB.out⟩
end Go.Proofs.Ytbfdplmgefcogaa.ComposeR
end
-- MERGED YtbfdplmgefcogaaComposeK
section
/- The walk of compose's reader's take, and of what takes a whole run. -/
namespace Go.Proofs.Ytbfdplmgefcogaa.ComposeK
open Go.RowKit Go.Shelf Go.Proofs.Ytbfdplmgefcogaa.P Go.Proofs.YtbfdplmgefcogaaW.PrintWords Go.Proofs.YtbfdplmgefcogaaW.PrintLast Go.Proofs.YtbfdplmgefcogaaW.PrintMore Go.Proofs.Ytbfdplmgefcogaa.Own Go.Proofs.Ytbfdplmgefcogaa.EditL Go.Proofs.Ytbfdplmgefcogaa.EditK Go.Proofs.Ytbfdplmgefcogaa.EditG Go.Proofs.Ytbfdplmgefcogaa.EditJ Go.Proofs.Ytbfdplmgefcogaa.EditR Go.Proofs.Ytbfdplmgefcogaa.VaryR Go.Proofs.Ytbfdplmgefcogaa.ComposeL Go.Proofs.Ytbfdplmgefcogaa.RunA Go.Proofs.Ytbfdplmgefcogaa.ComposeR
attribute [local go_sem] max2_int min2_int max_two min_two
set_option linter.unusedSimpArgs false
set_option linter.unusedVariables false

def Bx (B : Nat) (v : Value) (r : Rn) (w : World) : Prop := ∃ b : Nat, v = .pointer (some ⟨b, 0, none⟩) ∧ w.heap[b]? = some (rcs r.f0 r.f1 r.f2) ∧ B ≤ b
theorem Bx.below {B : Nat} {v : Value} {r : Rn} {w w' : World} (h : Bx B v r w) (hb : Below w.heap.size w w') : Bx B v r w' := by
  obtain ⟨b, e, hq, hB⟩ := h
  exact ⟨b, e, (hb.block b (Array.getElem?_eq_some_iff.1 hq).1).trans hq, hB⟩
def By (B : Nat) (v : Value) (w : World) : Prop := ∃ r, Bx B v r w
theorem By.below {B : Nat} {v : Value} {w w' : World} (h : By B v w) (hb : Below w.heap.size w w') : By B v w' := by
  obtain ⟨r, h⟩ := h
  exact ⟨r, h.below hb⟩
theorem row_ne {W : World} {R : Nat} {A : Option Addr} {c : Nat} {l : List Rn} {at_ : Int} {ad : Addr} {x : Rn} {X : List Rn} (h : RC W (some ad) (x :: X)) (hR : W.heap[R]? = some (rdr A c l at_)) : ad.block ≠ R := by
  intro e
  obtain ⟨ad2, e2, x0, x1, x2⟩ := first_cells h
  obtain rfl := Option.some.inj e2
  rw [e] at x1
  unfold rdr at hR
  rw [cell_of_row W R (ad.off + 1) _ _ _ hR] at x1
  rcases ho : ad.off with _ | k
  · rw [ho] at x1; cases x1
  · rw [ho] at x1; simp at x1
theorem but_set {R : Nat} {w W : World} (h : But R w W) (b o : Nat) (u : Value) (hb : b = R ∨ w.heap.size ≤ b) : But R w (W.setCell ⟨b, o, none⟩ u) :=
  ⟨h.os, h.tape, h.output, by simp [World.setCell]; exact h.size, fun k hk hn => (Below.heap_setCell _ _ _ _ (fun e => by
    have e : k = b := e
    rcases hb with hb | hb
    · exact hn (by rw [e, hb])
    · omega)).trans (h.block k hk hn)⟩
/-- The reader behind a take. -/
def nxt (A : Option Addr) (c : Nat) (x : Rn) (X : List Rn) (tt : Int) : Obj := if tt = sz x then rdr (if c = 1 then A else A.map (·.add (1 * 3))) (c - 1) X 0 else rdr A c (x :: X) tt
def TakePost (R : Nat) (v : Rn) (o : Obj) (w : World) (e : Ending) (w' : World) : Prop := e = .returned (.agg #[.int .i64 v.f0, .string v.f1, .int .i64 v.f2]) ∧ But R w w' ∧ w'.heap[R]? = some o
def ComposeK.T1 : Bool × List (List Nat × List Nat) := (true, [([], []), ([0], [0]), ([1], [1]), ([2], [2]), ([3], [3]), ([4], [4]), ([], []), ([6], [6]), ([7], [7]), ([8], [8]), ([], []), ([10], [10]), ([11], [11]), ([12], [12]), ([], []), ([13, 14], [13, 14]), ([5, 9, 15], [5, 9, 15]), ([], []), ([17, 16, 16, 0, 1, 2, 3, 4, 5, 6, 7, 8, 9, 10, 11, 12, 13, 14, 15, 16, 17], [16, 17])])
def ComposeK.B1 : List Nat := [0, 1, 3, 7, 15, 31, 0, 64, 192, 448, 0, 1024, 3072, 7168, 0, 31744, 65535, 0, 262143]
theorem ComposeK.tab1 : rtab .any (opsOf Try.f39 1) = ComposeK.T1 := by kernel_rfl
theorem ComposeK.bits1 : waitsOk ComposeK.T1.2 ComposeK.B1 = true := by kernel_rfl
def ComposeK.T3 : Bool × List (List Nat × List Nat) := (true, [([], []), ([0], [0]), ([1], [1]), ([2], [2]), ([], []), ([4], [4]), ([5], [5]), ([6], [6]), ([7], [7]), ([8], [8]), ([9], [9]), ([3, 10], [3, 10])])
def ComposeK.B3 : List Nat := [0, 1, 3, 7, 0, 16, 48, 112, 240, 496, 1008, 2047]
theorem ComposeK.tab3 : rtab .any (opsOf Try.f39 3) = ComposeK.T3 := by kernel_rfl
theorem ComposeK.bits3 : waitsOk ComposeK.T3.2 ComposeK.B3 = true := by kernel_rfl
set_option maxHeartbeats 8000000 in
set_option maxRecDepth 100000 in
theorem take_c (R : Nat) (A : Option Addr) (c : Nat) (x : Rn) (X : List Rn) (at_ n : Int) (w : World) (hx : Fw x) (h : w.heap[R]? = some (rdr A c (x :: X) at_)) (hr : RC w A (x :: X)) (h0 : 0 ≤ at_) (hn : 0 ≤ n) (h1 : at_ + n ≤ sz x) (hl : X.length ≤ 140737488351231) (hc : X.length + 1 ≤ c) :
    Calls Try.prog 39 #[.pointer (some ⟨R, 0, none⟩), .int .i64 n] w (TakePost R (ComposeL.part x at_ (at_ + n)) (nxt A c x X (at_ + n)) w) := by
  have hz : sz x ≤ 50331648 := by have := hx.a; have := hx.s; have := hx.d; unfold sz; omega
  have hw : wrap64 (at_ + n) = at_ + n := w64 (by omega) (by omega)
  obtain ⟨w1, hw1⟩ : ∃ w1, w1 = w.alloc (.cells #[.int .i64 0, .string ⟨#[]⟩, .int .i64 0] 43) := ⟨_, rfl⟩
  obtain ⟨B4, hB4⟩ : ∃ B4, B4 = w.heap.size := ⟨_, rfl⟩
  obtain ⟨m, hm⟩ : ∃ m, m = X.length + 1 := ⟨_, rfl⟩
  have hb0 : Below w.heap.size w w1 := by rw [hw1]; exact below_alloc (Below.refl w.heap.size w) _
  have hRlt := (Array.getElem?_eq_some_iff.1 h).1
  have hsz1 : w1.heap.size = w.heap.size + 1 := by rw [hw1]; simp
  have hnew : w1.heap[B4]? = some (rcs 0 E 0) := by rw [hw1, hB4]; exact Own.heap_new _ _
  have hall : ∀ W, Below w1.heap.size w1 W → ((W.cell? ⟨R, 0, none⟩ = some (.slice A m c) ∧ W.cell? ⟨R, 1, none⟩ = some (.int .i64 at_)) ∧ RC W A (x :: X)) ∧ W.heap[B4]? = some (rcs 0 E 0) ∧ W.heap[R]? = some (rdr A c (x :: X) at_) ∧ Below w.heap.size w W := fun W hb => by
    have hbw := below_step hb0 hb
    have hR := (hbw.block R hRlt).trans h
    obtain ⟨c0, c1, _, _⟩ := rdr_cells hR
    exact ⟨⟨⟨by rw [hm]; exact c0, c1⟩, RC.below hr hbw⟩, (hb.block B4 (by omega)).trans hnew, hR, hbw⟩
  have HALL := Aside0.mk hall
  have HSz := Aside0.mk (size_c x ⟨⟨hx.a0, hx.a⟩, hx.s, hx.d0, hx.d⟩)
  have HPt := Aside0.mk (part_c x hx at_ (at_ + n) h0 (by omega) h1)
  rw [← hw] at HPt ⊢
  obtain ⟨v, hv⟩ : ∃ v, v = ComposeL.part x at_ (wrap64 (at_ + n)) := ⟨_, rfl⟩
  rw [← hv] at HPt ⊢
  have HWN := Aside0.mk hw
  obtain ⟨ad, rfl, _⟩ := first_cells hr
  have hmp : 0 < m := by omega
  have HW1 := Aside0.mk hw1
  have HB4 := Aside0.mk hB4
  have HRL := Aside0.mk hRlt
  have HM := Aside0.mk hm
  have HCC := Aside0.mk hc
  have HZ1 := Aside0.mk hsz1
  have HS := Aside0.mk (sz_pos hx.k)
  have HB := Aside0.mk hb0
  have HA := Aside0.mk (Below.refl w1.heap.size w1)
  clear h hr hall hb0 hx h0 h1 hl hm hRlt hsz1 hnew hw1 hv hn hz hc hw
  go_enter Try.func39, Try.ntmps39
  go_wp2_with fail
  rw [← HW1.out, ← hB4]
  clear hB4
  refine start_ (n := 19) (S := fun w' => True) (ds := []) #[false, false, false, false, false, false, false, false, false, false, false, false, false, false, false, false, false, false, false] (by kernel_rfl) rfl rfl trivial (fun hHeld => ?_); refine with_tabW ComposeK.tab1 ComposeK.bits1 (fun HT_ HW_ => ?_)
  refine inv_at [0, 1, 2, 3, 4, 5, 6, 7, 8, 9, 10, 11, 12, 13, 14, 15, 16, 17, 18] (fun a0_ b a w' => ∃ (v5 : Value), a = putSel a0_ b [(0, 6, (.pointer (some ⟨R, 0, none⟩))), (1, 7, (.pointer (some ⟨R, 0, none⟩))), (2, 8, (.pointer (some ⟨R, 0, none⟩))), (3, 9, (.slice (some ad) m c)), (4, 10, (.pointer (some ad))), (5, 11, (.agg #[.int .i64 x.f0, .string x.f1, .int .i64 x.f2])), (6, 12, (.pointer (some ⟨R, 0, none⟩))), (7, 13, (.pointer (some ⟨R, 0, none⟩))), (8, 14, (.pointer (some ⟨R, 1, none⟩))), (9, 15, (.int .i64 at_)), (10, 16, (.pointer (some ⟨R, 0, none⟩))), (11, 17, (.pointer (some ⟨R, 0, none⟩))), (12, 18, (.pointer (some ⟨R, 1, none⟩))), (13, 19, (.int .i64 at_)), (14, 20, (.int .i64 n)), (15, 21, (.int .i64 (wrap64 (at_ + n)))), (16, 22, (.agg #[.int .i64 v.f0, .string v.f1, .int .i64 v.f2])), (17, 5, v5)] ∧ (Below w1.heap.size w1 w') ∧ (b 17 = true → By w1.heap.size v5 w') ∧ (b 18 = true → Bx w1.heap.size v5 v w')) HT_.out HW_.out (by kernel_rfl) (by kernel_rfl) ?_ ?_ ?_
  · exact ⟨.bool false, by simp only [putSel, Bool.false_eq_true, if_false], below_drew1 (Below.refl _ _), fun h_ => absurd h_ (by decide), fun h_ => absurd h_ (by decide)⟩
  · skip
    clear HA
    refine steps_cons ?_ ?_
    · rintro b a w' ⟨v5, ha, Q_HA, Q_H5, Q_HZ⟩ hb_ hon hoff
      refine ⟨_, rfl, fun K hK => ?_⟩
      have e0 : a.tmps[0]? = some ((.pointer (some ⟨R, 0, none⟩))) := by rw [ha]; exact (putSel_off rfl).trans rfl
      replace ha := Aside0.mk ha
      have HA := Aside0.mk Q_HA
      refine value_ (w1 := w') (v := (.pointer (some ⟨R, 0, none⟩))) (by rfl) rfl ?_ ?_
      · go_simp
        (try simp only [i64_w])
        try rfl
      refine hK.out _ _ ⟨v5, (by rw [ha.out]; exact putSel_upk 0 hb_ rfl rfl rfl), Q_HA, Q_H5, fun h0_ => absurd ((hoff 18 (by kernel_rfl)).symm.trans h0_) (by decide)⟩
    refine steps_cons ?_ ?_
    · rintro b a w' ⟨v5, ha, Q_HA, Q_H5, Q_HZ⟩ hb_ hon hoff
      refine ⟨_, rfl, fun K hK => ?_⟩
      have e6 : a.tmps[6]? = some ((.pointer (some ⟨R, 0, none⟩))) := by rw [ha]; exact putSel_on (e := (0, 6, (.pointer (some ⟨R, 0, none⟩)))) 0 rfl rfl (hon 0 (by kernel_rfl)) rfl
      replace ha := Aside0.mk ha
      have HA := Aside0.mk Q_HA
      refine value_ (w1 := w') (v := (.pointer (some ⟨R, 0, none⟩))) (by rfl) rfl ?_ ?_
      · go_simp
        (try simp only [i64_w])
        try rfl
      refine hK.out _ _ ⟨v5, (by rw [ha.out]; exact putSel_upk 1 hb_ rfl rfl rfl), Q_HA, Q_H5, fun h0_ => absurd ((hoff 18 (by kernel_rfl)).symm.trans h0_) (by decide)⟩
    refine steps_cons ?_ ?_
    · rintro b a w' ⟨v5, ha, Q_HA, Q_H5, Q_HZ⟩ hb_ hon hoff
      refine ⟨_, rfl, fun K hK => ?_⟩
      have e7 : a.tmps[7]? = some ((.pointer (some ⟨R, 0, none⟩))) := by rw [ha]; exact putSel_on (e := (1, 7, (.pointer (some ⟨R, 0, none⟩)))) 1 rfl rfl (hon 1 (by kernel_rfl)) rfl
      replace ha := Aside0.mk ha
      have HA := Aside0.mk Q_HA
      refine value_ (w1 := w') (v := (.pointer (some ⟨R, 0, none⟩))) (by rfl) rfl ?_ ?_
      · go_simp
        (try simp only [i64_w])
        try rfl
      refine hK.out _ _ ⟨v5, (by rw [ha.out]; exact putSel_upk 2 hb_ rfl rfl rfl), Q_HA, Q_H5, fun h0_ => absurd ((hoff 18 (by kernel_rfl)).symm.trans h0_) (by decide)⟩
    refine steps_cons ?_ ?_
    · rintro b a w' ⟨v5, ha, Q_HA, Q_H5, Q_HZ⟩ hb_ hon hoff
      refine ⟨_, rfl, fun K hK => ?_⟩
      have e8 : a.tmps[8]? = some ((.pointer (some ⟨R, 0, none⟩))) := by rw [ha]; exact putSel_on (e := (2, 8, (.pointer (some ⟨R, 0, none⟩)))) 2 rfl rfl (hon 2 (by kernel_rfl)) rfl
      replace ha := Aside0.mk ha
      have HA := Aside0.mk Q_HA
      obtain ⟨⟨⟨hc_, _⟩, _⟩, _⟩ := HALL.out _ HA.out
      refine value_ (w1 := w') (v := (.slice (some ad) m c)) (by rfl) rfl ?_ ?_
      · go_simp
        (try simp only [i64_w])
        try rfl
      refine hK.out _ _ ⟨v5, (by rw [ha.out]; exact putSel_upk 3 hb_ rfl rfl rfl), Q_HA, Q_H5, fun h0_ => absurd ((hoff 18 (by kernel_rfl)).symm.trans h0_) (by decide)⟩
    refine steps_cons ?_ ?_
    · rintro b a w' ⟨v5, ha, Q_HA, Q_H5, Q_HZ⟩ hb_ hon hoff
      refine ⟨_, rfl, fun K hK => ?_⟩
      have e9 : a.tmps[9]? = some ((.slice (some ad) m c)) := by rw [ha]; exact putSel_on (e := (3, 9, (.slice (some ad) m c))) 3 rfl rfl (hon 3 (by kernel_rfl)) rfl
      replace ha := Aside0.mk ha
      have HA := Aside0.mk Q_HA
      refine value_ (w1 := w') (v := (.pointer (some ad))) (by rfl) rfl ?_ ?_
      · go_simp
        (try simp only [i64_w])
        try rfl
      refine hK.out _ _ ⟨v5, (by rw [ha.out]; exact putSel_upk 4 hb_ rfl rfl rfl), Q_HA, Q_H5, fun h0_ => absurd ((hoff 18 (by kernel_rfl)).symm.trans h0_) (by decide)⟩
    refine steps_cons ?_ ?_
    · rintro b a w' ⟨v5, ha, Q_HA, Q_H5, Q_HZ⟩ hb_ hon hoff
      refine ⟨_, rfl, fun K hK => ?_⟩
      have e10 : a.tmps[10]? = some ((.pointer (some ad))) := by rw [ha]; exact putSel_on (e := (4, 10, (.pointer (some ad)))) 4 rfl rfl (hon 4 (by kernel_rfl)) rfl
      replace ha := Aside0.mk ha
      have HA := Aside0.mk Q_HA
      obtain ⟨⟨_, hre_⟩, _⟩ := HALL.out _ HA.out
      obtain ⟨ad2_, e2_, z0_, z1_, z2_⟩ := first_cells hre_
      cases e2_
      clear hre_
      refine value_ (w1 := w') (v := (.agg #[.int .i64 x.f0, .string x.f1, .int .i64 x.f2])) (by rfl) rfl ?_ ?_
      · go_simp
        (try simp only [i64_w])
        try rfl
      refine hK.out _ _ ⟨v5, (by rw [ha.out]; exact putSel_upk 5 hb_ rfl rfl rfl), Q_HA, Q_H5, fun h0_ => absurd ((hoff 18 (by kernel_rfl)).symm.trans h0_) (by decide)⟩
    refine steps_cons ?_ ?_
    · rintro b a w' ⟨v5, ha, Q_HA, Q_H5, Q_HZ⟩ hb_ hon hoff
      refine ⟨_, rfl, fun K hK => ?_⟩
      have e0 : a.tmps[0]? = some ((.pointer (some ⟨R, 0, none⟩))) := by rw [ha]; exact (putSel_off rfl).trans rfl
      replace ha := Aside0.mk ha
      have HA := Aside0.mk Q_HA
      refine value_ (w1 := w') (v := (.pointer (some ⟨R, 0, none⟩))) (by rfl) rfl ?_ ?_
      · go_simp
        (try simp only [i64_w])
        try rfl
      refine hK.out _ _ ⟨v5, (by rw [ha.out]; exact putSel_upk 6 hb_ rfl rfl rfl), Q_HA, Q_H5, fun h0_ => absurd ((hoff 18 (by kernel_rfl)).symm.trans h0_) (by decide)⟩
    refine steps_cons ?_ ?_
    · rintro b a w' ⟨v5, ha, Q_HA, Q_H5, Q_HZ⟩ hb_ hon hoff
      refine ⟨_, rfl, fun K hK => ?_⟩
      have e12 : a.tmps[12]? = some ((.pointer (some ⟨R, 0, none⟩))) := by rw [ha]; exact putSel_on (e := (6, 12, (.pointer (some ⟨R, 0, none⟩)))) 6 rfl rfl (hon 6 (by kernel_rfl)) rfl
      replace ha := Aside0.mk ha
      have HA := Aside0.mk Q_HA
      refine value_ (w1 := w') (v := (.pointer (some ⟨R, 0, none⟩))) (by rfl) rfl ?_ ?_
      · go_simp
        (try simp only [i64_w])
        try rfl
      refine hK.out _ _ ⟨v5, (by rw [ha.out]; exact putSel_upk 7 hb_ rfl rfl rfl), Q_HA, Q_H5, fun h0_ => absurd ((hoff 18 (by kernel_rfl)).symm.trans h0_) (by decide)⟩
    refine steps_cons ?_ ?_
    · rintro b a w' ⟨v5, ha, Q_HA, Q_H5, Q_HZ⟩ hb_ hon hoff
      refine ⟨_, rfl, fun K hK => ?_⟩
      have e13 : a.tmps[13]? = some ((.pointer (some ⟨R, 0, none⟩))) := by rw [ha]; exact putSel_on (e := (7, 13, (.pointer (some ⟨R, 0, none⟩)))) 7 rfl rfl (hon 7 (by kernel_rfl)) rfl
      replace ha := Aside0.mk ha
      have HA := Aside0.mk Q_HA
      refine value_ (w1 := w') (v := (.pointer (some ⟨R, 1, none⟩))) (by rfl) rfl ?_ ?_
      · go_simp
        (try simp only [i64_w])
        try rfl
      refine hK.out _ _ ⟨v5, (by rw [ha.out]; exact putSel_upk 8 hb_ rfl rfl rfl), Q_HA, Q_H5, fun h0_ => absurd ((hoff 18 (by kernel_rfl)).symm.trans h0_) (by decide)⟩
    refine steps_cons ?_ ?_
    · rintro b a w' ⟨v5, ha, Q_HA, Q_H5, Q_HZ⟩ hb_ hon hoff
      refine ⟨_, rfl, fun K hK => ?_⟩
      have e14 : a.tmps[14]? = some ((.pointer (some ⟨R, 1, none⟩))) := by rw [ha]; exact putSel_on (e := (8, 14, (.pointer (some ⟨R, 1, none⟩)))) 8 rfl rfl (hon 8 (by kernel_rfl)) rfl
      replace ha := Aside0.mk ha
      have HA := Aside0.mk Q_HA
      obtain ⟨⟨⟨_, hc_⟩, _⟩, _⟩ := HALL.out _ HA.out
      refine value_ (w1 := w') (v := (.int .i64 at_)) (by rfl) rfl ?_ ?_
      · go_simp
        (try simp only [i64_w])
        try rfl
      refine hK.out _ _ ⟨v5, (by rw [ha.out]; exact putSel_upk 9 hb_ rfl rfl rfl), Q_HA, Q_H5, fun h0_ => absurd ((hoff 18 (by kernel_rfl)).symm.trans h0_) (by decide)⟩
    refine steps_cons ?_ ?_
    · rintro b a w' ⟨v5, ha, Q_HA, Q_H5, Q_HZ⟩ hb_ hon hoff
      refine ⟨_, rfl, fun K hK => ?_⟩
      have e0 : a.tmps[0]? = some ((.pointer (some ⟨R, 0, none⟩))) := by rw [ha]; exact (putSel_off rfl).trans rfl
      replace ha := Aside0.mk ha
      have HA := Aside0.mk Q_HA
      refine value_ (w1 := w') (v := (.pointer (some ⟨R, 0, none⟩))) (by rfl) rfl ?_ ?_
      · go_simp
        (try simp only [i64_w])
        try rfl
      refine hK.out _ _ ⟨v5, (by rw [ha.out]; exact putSel_upk 10 hb_ rfl rfl rfl), Q_HA, Q_H5, fun h0_ => absurd ((hoff 18 (by kernel_rfl)).symm.trans h0_) (by decide)⟩
    refine steps_cons ?_ ?_
    · rintro b a w' ⟨v5, ha, Q_HA, Q_H5, Q_HZ⟩ hb_ hon hoff
      refine ⟨_, rfl, fun K hK => ?_⟩
      have e16 : a.tmps[16]? = some ((.pointer (some ⟨R, 0, none⟩))) := by rw [ha]; exact putSel_on (e := (10, 16, (.pointer (some ⟨R, 0, none⟩)))) 10 rfl rfl (hon 10 (by kernel_rfl)) rfl
      replace ha := Aside0.mk ha
      have HA := Aside0.mk Q_HA
      refine value_ (w1 := w') (v := (.pointer (some ⟨R, 0, none⟩))) (by rfl) rfl ?_ ?_
      · go_simp
        (try simp only [i64_w])
        try rfl
      refine hK.out _ _ ⟨v5, (by rw [ha.out]; exact putSel_upk 11 hb_ rfl rfl rfl), Q_HA, Q_H5, fun h0_ => absurd ((hoff 18 (by kernel_rfl)).symm.trans h0_) (by decide)⟩
    refine steps_cons ?_ ?_
    · rintro b a w' ⟨v5, ha, Q_HA, Q_H5, Q_HZ⟩ hb_ hon hoff
      refine ⟨_, rfl, fun K hK => ?_⟩
      have e17 : a.tmps[17]? = some ((.pointer (some ⟨R, 0, none⟩))) := by rw [ha]; exact putSel_on (e := (11, 17, (.pointer (some ⟨R, 0, none⟩)))) 11 rfl rfl (hon 11 (by kernel_rfl)) rfl
      replace ha := Aside0.mk ha
      have HA := Aside0.mk Q_HA
      refine value_ (w1 := w') (v := (.pointer (some ⟨R, 1, none⟩))) (by rfl) rfl ?_ ?_
      · go_simp
        (try simp only [i64_w])
        try rfl
      refine hK.out _ _ ⟨v5, (by rw [ha.out]; exact putSel_upk 12 hb_ rfl rfl rfl), Q_HA, Q_H5, fun h0_ => absurd ((hoff 18 (by kernel_rfl)).symm.trans h0_) (by decide)⟩
    refine steps_cons ?_ ?_
    · rintro b a w' ⟨v5, ha, Q_HA, Q_H5, Q_HZ⟩ hb_ hon hoff
      refine ⟨_, rfl, fun K hK => ?_⟩
      have e18 : a.tmps[18]? = some ((.pointer (some ⟨R, 1, none⟩))) := by rw [ha]; exact putSel_on (e := (12, 18, (.pointer (some ⟨R, 1, none⟩)))) 12 rfl rfl (hon 12 (by kernel_rfl)) rfl
      replace ha := Aside0.mk ha
      have HA := Aside0.mk Q_HA
      obtain ⟨⟨⟨_, hc_⟩, _⟩, _⟩ := HALL.out _ HA.out
      refine value_ (w1 := w') (v := (.int .i64 at_)) (by rfl) rfl ?_ ?_
      · go_simp
        (try simp only [i64_w])
        try rfl
      refine hK.out _ _ ⟨v5, (by rw [ha.out]; exact putSel_upk 13 hb_ rfl rfl rfl), Q_HA, Q_H5, fun h0_ => absurd ((hoff 18 (by kernel_rfl)).symm.trans h0_) (by decide)⟩
    refine steps_cons ?_ ?_
    · rintro b a w' ⟨v5, ha, Q_HA, Q_H5, Q_HZ⟩ hb_ hon hoff
      refine ⟨_, rfl, fun K hK => ?_⟩
      have e1 : a.tmps[1]? = some ((.int .i64 n)) := by rw [ha]; exact (putSel_off rfl).trans rfl
      replace ha := Aside0.mk ha
      have HA := Aside0.mk Q_HA
      refine value_ (w1 := w') (v := (.int .i64 n)) (by rfl) rfl ?_ ?_
      · go_simp
        (try simp only [i64_w])
        try rfl
      refine hK.out _ _ ⟨v5, (by rw [ha.out]; exact putSel_upk 14 hb_ rfl rfl rfl), Q_HA, Q_H5, fun h0_ => absurd ((hoff 18 (by kernel_rfl)).symm.trans h0_) (by decide)⟩
    refine steps_cons ?_ ?_
    · rintro b a w' ⟨v5, ha, Q_HA, Q_H5, Q_HZ⟩ hb_ hon hoff
      refine ⟨_, rfl, fun K hK => ?_⟩
      have e19 : a.tmps[19]? = some ((.int .i64 at_)) := by rw [ha]; exact putSel_on (e := (13, 19, (.int .i64 at_))) 13 rfl rfl (hon 13 (by kernel_rfl)) rfl
      have e20 : a.tmps[20]? = some ((.int .i64 n)) := by rw [ha]; exact putSel_on (e := (14, 20, (.int .i64 n))) 14 rfl rfl (hon 14 (by kernel_rfl)) rfl
      replace ha := Aside0.mk ha
      have HA := Aside0.mk Q_HA
      refine value_ (w1 := w') (v := (.int .i64 (wrap64 (at_ + n)))) (by rfl) rfl ?_ ?_
      · go_simp
        (try simp only [i64_w])
        try rfl
      refine hK.out _ _ ⟨v5, (by rw [ha.out]; exact putSel_upk 15 hb_ rfl rfl rfl), Q_HA, Q_H5, fun h0_ => absurd ((hoff 18 (by kernel_rfl)).symm.trans h0_) (by decide)⟩
    refine steps_cons ?_ ?_
    · rintro b a w' ⟨v5, ha, Q_HA, Q_H5, Q_HZ⟩ hb_ hon hoff
      refine ⟨_, rfl, fun K hK => ?_⟩
      have e11 : a.tmps[11]? = some ((.agg #[.int .i64 x.f0, .string x.f1, .int .i64 x.f2])) := by rw [ha]; exact putSel_on (e := (5, 11, (.agg #[.int .i64 x.f0, .string x.f1, .int .i64 x.f2]))) 5 rfl rfl (hon 5 (by kernel_rfl)) rfl
      have e15 : a.tmps[15]? = some ((.int .i64 at_)) := by rw [ha]; exact putSel_on (e := (9, 15, (.int .i64 at_))) 9 rfl rfl (hon 9 (by kernel_rfl)) rfl
      have e21 : a.tmps[21]? = some ((.int .i64 (wrap64 (at_ + n)))) := by rw [ha]; exact putSel_on (e := (15, 21, (.int .i64 (wrap64 (at_ + n))))) 15 rfl rfl (hon 15 (by kernel_rfl)) rfl
      replace ha := Aside0.mk ha
      have HA := Aside0.mk Q_HA
      refine goes_ Try.func45 (by kernel_rfl) rfl #[.agg #[.int .i64 x.f0, .string x.f1, .int .i64 x.f2], .int .i64 at_, .int .i64 (wrap64 (at_ + n))] (by rfl) rfl rfl (by first | (simp only [List.map_toArray, List.map_cons, List.map_nil, Act.eval, Array.getD_eq_getD_getElem?, Option.getD_some, e11, e15, e21]; done) | (simp only [List.map_toArray, List.map_cons, List.map_nil, Act.eval, Array.getD_eq_getD_getElem?, Option.getD_some, e11, e15, e21]; rfl)) ?_
      refine (HPt.out _).mono ?_
      rintro e w1_ ⟨rfl, hb⟩
      refine ⟨_, rfl, ?_⟩
      refine hK.out _ _ ⟨v5, (by rw [ha.out]; exact putSel_upk 16 hb_ rfl rfl rfl), below_step HA.out hb, fun h0_ => (Q_H5 h0_).below hb, fun h0_ => absurd ((hoff 18 (by kernel_rfl)).symm.trans h0_) (by decide)⟩
    refine steps_cons ?_ ?_
    · rintro b a w' ⟨v5, ha, Q_HA, Q_H5, Q_HZ⟩ hb_ hon hoff
      refine ⟨_, rfl, fun K hK => ?_⟩
      replace ha := Aside0.mk ha
      have HA := Aside0.mk Q_HA
      obtain ⟨v5, hv5_⟩ : ∃ v5 : Value, v5 = .pointer (some ⟨w'.heap.size, 0, none⟩) := ⟨_, rfl⟩
      obtain ⟨w1_, hw1_⟩ : ∃ w1_, w1_ = w'.alloc (.cells #[.int .i64 0, .string ⟨#[]⟩, .int .i64 0] 43) := ⟨_, rfl⟩
      have hb : Below w'.heap.size w' w1_ := by rw [hw1_]; exact below_alloc (Below.refl _ _) _
      refine value_ (w1 := w1_) (v := v5) (by rfl) rfl (by rw [hv5_, hw1_]; go_simp) ?_
      refine hK.out _ _ ⟨v5, (by rw [ha.out]; exact putSel_upk 17 hb_ rfl rfl rfl), below_step HA.out hb, fun _ => ⟨⟨0, E, 0⟩, _, hv5_, by rw [hw1_]; exact Own.heap_new _ _, HA.out.size⟩, fun h0_ => absurd ((hoff 18 (by kernel_rfl)).symm.trans h0_) (by decide)⟩
    refine steps_cons ?_ ?_
    · rintro b a w' ⟨v5, ha, Q_HA, Q_H5, Q_HZ⟩ hb_ hon hoff
      refine ⟨_, rfl, fun K hK => ?_⟩
      have e5 : a.tmps[5]? = some (v5) := by rw [ha]; exact putSel_on (e := (17, 5, v5)) 17 rfl rfl (hon 17 (by kernel_rfl)) rfl
      have e22 : a.tmps[22]? = some ((.agg #[.int .i64 v.f0, .string v.f1, .int .i64 v.f2])) := by rw [ha]; exact putSel_on (e := (16, 22, (.agg #[.int .i64 v.f0, .string v.f1, .int .i64 v.f2]))) 16 rfl rfl (hon 16 (by kernel_rfl)) rfl
      replace ha := Aside0.mk ha
      have HA := Aside0.mk Q_HA
      have H5 := Aside0.mk (Q_H5 (hon 17 (by kernel_rfl)))
      obtain ⟨r5_, b5_, hv5_, hq_, hB5_⟩ := H5.out
      rw [hv5_] at e5
      obtain ⟨w1_, hw1_⟩ : ∃ w1_, w1_ = ((w'.setCell ⟨b5_, 0, none⟩ (.int .i64 v.f0)).setCell ⟨b5_, 1, none⟩ (.string v.f1)).setCell ⟨b5_, 2, none⟩ (.int .i64 v.f2) := ⟨_, rfl⟩
      refine skip_ (w1 := w1_) (by rfl) rfl (by rw [hw1_]; obtain ⟨q0, q1, q2⟩ := blk_cells hq_; have g0 := frozen_of_row w' _ 0 _ _ hq_; have g1 := frozen_of_row w' _ 1 _ _ hq_; have g2 := frozen_of_row w' _ 2 _ _ hq_; go_simp) ?_
      have hz_ : w1_.heap[b5_]? = some (rcs v.f0 v.f1 v.f2) := by rw [hw1_]; exact blk_put (blk_put (blk_put hq_ 0 _ rfl) 1 _ rfl) 2 _ rfl
      refine hK.out _ _ ⟨v5, (by rw [ha.out]; exact putSel_none (v := undef) rfl), (by rw [hw1_]; exact ((HA.out.setCell (p := ⟨b5_, 0, none⟩) hB5_ _).setCell (p := ⟨b5_, 1, none⟩) hB5_ _).setCell (p := ⟨b5_, 2, none⟩) hB5_ _), fun _ => ⟨v, b5_, hv5_, hz_, hB5_⟩, fun _ => ⟨b5_, hv5_, hz_, hB5_⟩⟩
    exact steps_nil
  rintro b a we hall ⟨v5, ha, Q_HA, Q_H5, Q_HZ⟩
  clear HA
  have hb0_ := hall 0 (by kernel_rfl)
  have hb1_ := hall 1 (by kernel_rfl)
  have hb2_ := hall 2 (by kernel_rfl)
  have hb3_ := hall 3 (by kernel_rfl)
  have hb4_ := hall 4 (by kernel_rfl)
  have hb5_ := hall 5 (by kernel_rfl)
  have hb6_ := hall 6 (by kernel_rfl)
  have hb7_ := hall 7 (by kernel_rfl)
  have hb8_ := hall 8 (by kernel_rfl)
  have hb9_ := hall 9 (by kernel_rfl)
  have hb10_ := hall 10 (by kernel_rfl)
  have hb11_ := hall 11 (by kernel_rfl)
  have hb12_ := hall 12 (by kernel_rfl)
  have hb13_ := hall 13 (by kernel_rfl)
  have hb14_ := hall 14 (by kernel_rfl)
  have hb15_ := hall 15 (by kernel_rfl)
  have hb16_ := hall 16 (by kernel_rfl)
  have hb17_ := hall 17 (by kernel_rfl)
  have hb18_ := hall 18 (by kernel_rfl)
  subst ha
  simp only [putSel, hb0_, hb1_, hb2_, hb3_, hb4_, hb5_, hb6_, hb7_, hb8_, hb9_, hb10_, hb11_, hb12_, hb13_, hb14_, hb15_, hb16_, hb17_, hb18_, if_true, Act.put, List.setIfInBounds_toArray, List.set_cons_zero, List.set_cons_succ]
  have HA := Aside0.mk Q_HA
  clear Q_HA
  have H5 := Aside0.mk (Q_H5 hb17_)
  clear Q_H5
  have HZ := Aside0.mk (Q_HZ hb18_)
  clear Q_HZ
  clear hall hb0_ hb1_ hb2_ hb3_ hb4_ hb5_ hb6_ hb7_ hb8_ hb9_ hb10_ hb11_ hb12_ hb13_ hb14_ hb15_ hb16_ hb17_ hb18_
  obtain ⟨b5, hv5, hq5, hB5⟩ := HZ.out
  subst hv5
  obtain ⟨⟨⟨c0, c1⟩, hre⟩, hq4, hqR, hbe⟩ := HALL.out _ HA.out
  obtain ⟨_, _, g0, g1⟩ := rdr_cells hqR
  obtain ⟨w3, hw3⟩ : ∃ w3, w3 = we.setCell ⟨R, 1, none⟩ (.int .i64 (wrap64 (at_ + n))) := ⟨_, rfl⟩
  have n5 : b5 ≠ R := by have := HRL.out; have := HZ1.out; omega
  have n4 : B4 ≠ R := by have := HRL.out; have := HB4.out; omega
  have nad := row_ne hre hqR
  have hz3 : w3.heap.size = we.heap.size := by rw [hw3]; simp [World.setCell]
  have h3R : w3.heap[R]? = some (rdr (some ad) c (x :: X) (wrap64 (at_ + n))) := by rw [hw3]; exact blk_put hqR 1 _ rfl
  have h35 : w3.heap[b5]? = some (rcs v.f0 v.f1 v.f2) := by rw [hw3, Below.heap_setCell _ _ _ _ n5]; exact hq5
  have h34 : w3.heap[B4]? = some (rcs 0 E 0) := by rw [hw3, Below.heap_setCell _ _ _ _ n4]; exact hq4
  have h3r : RC w3 (some ad) (x :: X) := C_same hre fun ad2 e _ => by
    obtain rfl := Option.some.inj e
    rw [hw3, Below.heap_setCell _ _ _ _ nad]
  have h3b : But R w w3 := by
    refine ⟨by rw [hw3]; exact hbe.os, by rw [hw3]; exact hbe.tape, by rw [hw3]; exact hbe.output, by rw [hz3]; exact hbe.size, fun k hk hn => ?_⟩
    rw [hw3, Below.heap_setCell _ _ _ _ (fun e => hn (by rw [e]))]
    exact hbe.block k hk
  have hall3 : ∀ W, Below w3.heap.size w3 W → ((W.cell? ⟨R, 0, none⟩ = some (.slice (some ad) m c) ∧ W.cell? ⟨R, 1, none⟩ = some (.int .i64 (wrap64 (at_ + n)))) ∧ RC W (some ad) (x :: X)) ∧ W.heap[B4]? = some (rcs 0 E 0) ∧ W.heap[R]? = some (rdr (some ad) c (x :: X) (wrap64 (at_ + n))) ∧ W.heap[b5]? = some (rcs v.f0 v.f1 v.f2) ∧ But R w W := fun W hb => by
    have lt : ∀ {k : Nat} {o : Obj}, w3.heap[k]? = some o → W.heap[k]? = some o := fun hk => (hb.block _ (Array.getElem?_eq_some_iff.1 hk).1).trans hk
    obtain ⟨d0, d1, _, _⟩ := rdr_cells (lt h3R)
    refine ⟨⟨⟨by rw [HM.out]; exact d0, d1⟩, RC.below h3r hb⟩, lt h34, lt h3R, lt h35, h3b.trans ⟨hb.os, hb.tape, hb.output, hb.size, fun k hk _ => hb.block k hk⟩⟩
  have HALL3 := Aside0.mk hall3
  have HW3 := Aside0.mk hw3
  clear hall3 h3b h3r h34 h35 h3R hz3 hq5 hq4 hqR hbe hre g0 nad HZ H5 HALL
  clear HA HB
  go_wp2_with fail
  rw [← HW3.out]
  have HA := Aside0.mk (Below.refl w3.heap.size w3)
  have HN5 := Aside0.mk n5
  have HN4 := Aside0.mk n4
  clear c0 c1 g1 hw3 n5 n4
  have HAL := HALL3
  have hR3 : ∀ W, Below w3.heap.size w3 W → True := fun _ _ => trivial
  clear hR3
  obtain ⟨q, hq⟩ : ∃ q : Bool, q = ((wrap64 (at_ + n)) == sz x) := ⟨_, rfl⟩
  have HQ := Aside0.mk hq
  have hq' : ((wrap64 (at_ + n)) == sz x) = q := hq.symm
  clear hq
  refine start_ (n := 12) (S := fun w' => True) (ds := []) #[false, false, false, false, false, false, false, false, false, false, false, false] (by kernel_rfl) rfl rfl trivial (fun hHeld => ?_); refine with_tabW ComposeK.tab3 ComposeK.bits3 (fun HT_ HW_ => ?_)
  refine inv_at [0, 1, 2, 3, 4, 5, 6, 7, 8, 9, 10, 11] (fun a0_ b a w' => a = putSel a0_ b [(0, 31, (.pointer (some ⟨R, 0, none⟩))), (1, 32, (.pointer (some ⟨R, 0, none⟩))), (2, 33, (.pointer (some ⟨R, 1, none⟩))), (3, 34, (.int .i64 (wrap64 (at_ + n)))), (4, 35, (.pointer (some ⟨R, 0, none⟩))), (5, 36, (.pointer (some ⟨R, 0, none⟩))), (6, 37, (.pointer (some ⟨R, 0, none⟩))), (7, 38, (.slice (some ad) m c)), (8, 39, (.pointer (some ad))), (9, 40, (.agg #[.int .i64 x.f0, .string x.f1, .int .i64 x.f2])), (10, 41, (.int .i64 (sz x))), (11, 42, (.bool q))] ∧ (Below w3.heap.size w3 w')) HT_.out HW_.out (by kernel_rfl) (by kernel_rfl) ?_ ?_ ?_
  · exact ⟨by simp only [putSel, Bool.false_eq_true, if_false], below_drew1 (Below.refl _ _)⟩
  · skip
    clear HA
    refine steps_cons ?_ ?_
    · rintro b a w' ⟨ha, Q_HA⟩ hb_ hon hoff
      refine ⟨_, rfl, fun K hK => ?_⟩
      have e0 : a.tmps[0]? = some ((.pointer (some ⟨R, 0, none⟩))) := by rw [ha]; exact (putSel_off rfl).trans rfl
      replace ha := Aside0.mk ha
      have HA := Aside0.mk Q_HA
      refine value_ (w1 := w') (v := (.pointer (some ⟨R, 0, none⟩))) (by rfl) rfl ?_ ?_
      · go_simp
        (try simp only [i64_w])
        try rfl
      refine hK.out _ _ ⟨(by rw [ha.out]; exact putSel_upk 0 hb_ rfl rfl rfl), Q_HA⟩
    refine steps_cons ?_ ?_
    · rintro b a w' ⟨ha, Q_HA⟩ hb_ hon hoff
      refine ⟨_, rfl, fun K hK => ?_⟩
      have e31 : a.tmps[31]? = some ((.pointer (some ⟨R, 0, none⟩))) := by rw [ha]; exact putSel_on (e := (0, 31, (.pointer (some ⟨R, 0, none⟩)))) 0 rfl rfl (hon 0 (by kernel_rfl)) rfl
      replace ha := Aside0.mk ha
      have HA := Aside0.mk Q_HA
      refine value_ (w1 := w') (v := (.pointer (some ⟨R, 0, none⟩))) (by rfl) rfl ?_ ?_
      · go_simp
        (try simp only [i64_w])
        try rfl
      refine hK.out _ _ ⟨(by rw [ha.out]; exact putSel_upk 1 hb_ rfl rfl rfl), Q_HA⟩
    refine steps_cons ?_ ?_
    · rintro b a w' ⟨ha, Q_HA⟩ hb_ hon hoff
      refine ⟨_, rfl, fun K hK => ?_⟩
      have e32 : a.tmps[32]? = some ((.pointer (some ⟨R, 0, none⟩))) := by rw [ha]; exact putSel_on (e := (1, 32, (.pointer (some ⟨R, 0, none⟩)))) 1 rfl rfl (hon 1 (by kernel_rfl)) rfl
      replace ha := Aside0.mk ha
      have HA := Aside0.mk Q_HA
      refine value_ (w1 := w') (v := (.pointer (some ⟨R, 1, none⟩))) (by rfl) rfl ?_ ?_
      · go_simp
        (try simp only [i64_w])
        try rfl
      refine hK.out _ _ ⟨(by rw [ha.out]; exact putSel_upk 2 hb_ rfl rfl rfl), Q_HA⟩
    refine steps_cons ?_ ?_
    · rintro b a w' ⟨ha, Q_HA⟩ hb_ hon hoff
      refine ⟨_, rfl, fun K hK => ?_⟩
      have e33 : a.tmps[33]? = some ((.pointer (some ⟨R, 1, none⟩))) := by rw [ha]; exact putSel_on (e := (2, 33, (.pointer (some ⟨R, 1, none⟩)))) 2 rfl rfl (hon 2 (by kernel_rfl)) rfl
      replace ha := Aside0.mk ha
      have HA := Aside0.mk Q_HA
      obtain ⟨⟨⟨_, hc_⟩, _⟩, _⟩ := HALL3.out _ HA.out
      refine value_ (w1 := w') (v := (.int .i64 (wrap64 (at_ + n)))) (by rfl) rfl ?_ ?_
      · go_simp
        (try simp only [i64_w])
        try rfl
      refine hK.out _ _ ⟨(by rw [ha.out]; exact putSel_upk 3 hb_ rfl rfl rfl), Q_HA⟩
    refine steps_cons ?_ ?_
    · rintro b a w' ⟨ha, Q_HA⟩ hb_ hon hoff
      refine ⟨_, rfl, fun K hK => ?_⟩
      have e0 : a.tmps[0]? = some ((.pointer (some ⟨R, 0, none⟩))) := by rw [ha]; exact (putSel_off rfl).trans rfl
      replace ha := Aside0.mk ha
      have HA := Aside0.mk Q_HA
      refine value_ (w1 := w') (v := (.pointer (some ⟨R, 0, none⟩))) (by rfl) rfl ?_ ?_
      · go_simp
        (try simp only [i64_w])
        try rfl
      refine hK.out _ _ ⟨(by rw [ha.out]; exact putSel_upk 4 hb_ rfl rfl rfl), Q_HA⟩
    refine steps_cons ?_ ?_
    · rintro b a w' ⟨ha, Q_HA⟩ hb_ hon hoff
      refine ⟨_, rfl, fun K hK => ?_⟩
      have e35 : a.tmps[35]? = some ((.pointer (some ⟨R, 0, none⟩))) := by rw [ha]; exact putSel_on (e := (4, 35, (.pointer (some ⟨R, 0, none⟩)))) 4 rfl rfl (hon 4 (by kernel_rfl)) rfl
      replace ha := Aside0.mk ha
      have HA := Aside0.mk Q_HA
      refine value_ (w1 := w') (v := (.pointer (some ⟨R, 0, none⟩))) (by rfl) rfl ?_ ?_
      · go_simp
        (try simp only [i64_w])
        try rfl
      refine hK.out _ _ ⟨(by rw [ha.out]; exact putSel_upk 5 hb_ rfl rfl rfl), Q_HA⟩
    refine steps_cons ?_ ?_
    · rintro b a w' ⟨ha, Q_HA⟩ hb_ hon hoff
      refine ⟨_, rfl, fun K hK => ?_⟩
      have e36 : a.tmps[36]? = some ((.pointer (some ⟨R, 0, none⟩))) := by rw [ha]; exact putSel_on (e := (5, 36, (.pointer (some ⟨R, 0, none⟩)))) 5 rfl rfl (hon 5 (by kernel_rfl)) rfl
      replace ha := Aside0.mk ha
      have HA := Aside0.mk Q_HA
      refine value_ (w1 := w') (v := (.pointer (some ⟨R, 0, none⟩))) (by rfl) rfl ?_ ?_
      · go_simp
        (try simp only [i64_w])
        try rfl
      refine hK.out _ _ ⟨(by rw [ha.out]; exact putSel_upk 6 hb_ rfl rfl rfl), Q_HA⟩
    refine steps_cons ?_ ?_
    · rintro b a w' ⟨ha, Q_HA⟩ hb_ hon hoff
      refine ⟨_, rfl, fun K hK => ?_⟩
      have e37 : a.tmps[37]? = some ((.pointer (some ⟨R, 0, none⟩))) := by rw [ha]; exact putSel_on (e := (6, 37, (.pointer (some ⟨R, 0, none⟩)))) 6 rfl rfl (hon 6 (by kernel_rfl)) rfl
      replace ha := Aside0.mk ha
      have HA := Aside0.mk Q_HA
      obtain ⟨⟨⟨hc_, _⟩, _⟩, _⟩ := HALL3.out _ HA.out
      refine value_ (w1 := w') (v := (.slice (some ad) m c)) (by rfl) rfl ?_ ?_
      · go_simp
        (try simp only [i64_w])
        try rfl
      refine hK.out _ _ ⟨(by rw [ha.out]; exact putSel_upk 7 hb_ rfl rfl rfl), Q_HA⟩
    refine steps_cons ?_ ?_
    · rintro b a w' ⟨ha, Q_HA⟩ hb_ hon hoff
      refine ⟨_, rfl, fun K hK => ?_⟩
      have e38 : a.tmps[38]? = some ((.slice (some ad) m c)) := by rw [ha]; exact putSel_on (e := (7, 38, (.slice (some ad) m c))) 7 rfl rfl (hon 7 (by kernel_rfl)) rfl
      replace ha := Aside0.mk ha
      have HA := Aside0.mk Q_HA
      refine value_ (w1 := w') (v := (.pointer (some ad))) (by rfl) rfl ?_ ?_
      · go_simp
        (try simp only [i64_w])
        try rfl
      refine hK.out _ _ ⟨(by rw [ha.out]; exact putSel_upk 8 hb_ rfl rfl rfl), Q_HA⟩
    refine steps_cons ?_ ?_
    · rintro b a w' ⟨ha, Q_HA⟩ hb_ hon hoff
      refine ⟨_, rfl, fun K hK => ?_⟩
      have e39 : a.tmps[39]? = some ((.pointer (some ad))) := by rw [ha]; exact putSel_on (e := (8, 39, (.pointer (some ad)))) 8 rfl rfl (hon 8 (by kernel_rfl)) rfl
      replace ha := Aside0.mk ha
      have HA := Aside0.mk Q_HA
      obtain ⟨⟨_, hre_⟩, _⟩ := HALL3.out _ HA.out
      obtain ⟨ad2_, e2_, z0_, z1_, z2_⟩ := first_cells hre_
      cases e2_
      clear hre_
      refine value_ (w1 := w') (v := (.agg #[.int .i64 x.f0, .string x.f1, .int .i64 x.f2])) (by rfl) rfl ?_ ?_
      · go_simp
        (try simp only [i64_w])
        try rfl
      refine hK.out _ _ ⟨(by rw [ha.out]; exact putSel_upk 9 hb_ rfl rfl rfl), Q_HA⟩
    refine steps_cons ?_ ?_
    · rintro b a w' ⟨ha, Q_HA⟩ hb_ hon hoff
      refine ⟨_, rfl, fun K hK => ?_⟩
      have e40 : a.tmps[40]? = some ((.agg #[.int .i64 x.f0, .string x.f1, .int .i64 x.f2])) := by rw [ha]; exact putSel_on (e := (9, 40, (.agg #[.int .i64 x.f0, .string x.f1, .int .i64 x.f2]))) 9 rfl rfl (hon 9 (by kernel_rfl)) rfl
      replace ha := Aside0.mk ha
      have HA := Aside0.mk Q_HA
      refine goes_ Try.func40 (by kernel_rfl) rfl #[.agg #[.int .i64 x.f0, .string x.f1, .int .i64 x.f2]] (by rfl) rfl rfl (by first | (simp only [List.map_toArray, List.map_cons, List.map_nil, Act.eval, Array.getD_eq_getD_getElem?, Option.getD_some, e40]; done) | (simp only [List.map_toArray, List.map_cons, List.map_nil, Act.eval, Array.getD_eq_getD_getElem?, Option.getD_some, e40]; rfl)) ?_
      refine (HSz.out _).mono ?_
      rintro e w1_ ⟨rfl, hb⟩
      refine ⟨_, rfl, ?_⟩
      refine hK.out _ _ ⟨(by rw [ha.out]; exact putSel_upk 10 hb_ rfl rfl rfl), below_step HA.out hb⟩
    refine steps_cons ?_ ?_
    · rintro b a w' ⟨ha, Q_HA⟩ hb_ hon hoff
      refine ⟨_, rfl, fun K hK => ?_⟩
      have e34 : a.tmps[34]? = some ((.int .i64 (wrap64 (at_ + n)))) := by rw [ha]; exact putSel_on (e := (3, 34, (.int .i64 (wrap64 (at_ + n))))) 3 rfl rfl (hon 3 (by kernel_rfl)) rfl
      have e41 : a.tmps[41]? = some ((.int .i64 (sz x))) := by rw [ha]; exact putSel_on (e := (10, 41, (.int .i64 (sz x)))) 10 rfl rfl (hon 10 (by kernel_rfl)) rfl
      replace ha := Aside0.mk ha
      have HA := Aside0.mk Q_HA
      refine value_ (w1 := w') (v := (.bool q)) (by rfl) rfl ?_ ?_
      · go_simp
        (try simp only [i64_w])
        try rfl
      refine hK.out _ _ ⟨(by rw [ha.out]; exact putSel_upk 11 hb_ rfl rfl rfl), Q_HA⟩
    exact steps_nil
  rintro b a we hall ⟨ha, Q_HA⟩
  clear HA
  have hb0_ := hall 0 (by kernel_rfl)
  have hb1_ := hall 1 (by kernel_rfl)
  have hb2_ := hall 2 (by kernel_rfl)
  have hb3_ := hall 3 (by kernel_rfl)
  have hb4_ := hall 4 (by kernel_rfl)
  have hb5_ := hall 5 (by kernel_rfl)
  have hb6_ := hall 6 (by kernel_rfl)
  have hb7_ := hall 7 (by kernel_rfl)
  have hb8_ := hall 8 (by kernel_rfl)
  have hb9_ := hall 9 (by kernel_rfl)
  have hb10_ := hall 10 (by kernel_rfl)
  have hb11_ := hall 11 (by kernel_rfl)
  subst ha
  simp only [putSel, hb0_, hb1_, hb2_, hb3_, hb4_, hb5_, hb6_, hb7_, hb8_, hb9_, hb10_, hb11_, if_true, Act.put, List.setIfInBounds_toArray, List.set_cons_zero, List.set_cons_succ]
  have HA := Aside0.mk Q_HA
  clear Q_HA
  clear hall hb0_ hb1_ hb2_ hb3_ hb4_ hb5_ hb6_ hb7_ hb8_ hb9_ hb10_ hb11_
  obtain ⟨⟨⟨c0, c1⟩, hre⟩, hq4, hqR, hq5, hbt⟩ := HALL3.out _ HA.out
  obtain ⟨_, _, g0, g1⟩ := rdr_cells hqR
  obtain ⟨d0, d1, d2⟩ := blk_cells hq5
  obtain ⟨e0, e1, e2⟩ := blk_cells hq4
  have k0 := frozen_of_row we _ 0 _ _ hq4
  have k1 := frozen_of_row we _ 1 _ _ hq4
  have k2 := frozen_of_row we _ 2 _ _ hq4
  have n5 := HN5.out
  have n4 := HN4.out
  have n5' : R ≠ b5 := fun e => n5 e.symm
  have n4' : R ≠ B4 := fun e => n4 e.symm
  have HE4 := Aside0.mk hq4
  have HER := Aside0.mk hqR
  have HBT := Aside0.mk hbt
  clear hq4 hqR hq5 hbt hre HALL3 HAL HQ HA
  have hqt := hq'
  have hB4lt : B4 < we.heap.size := (Array.getElem?_eq_some_iff.1 HE4.out).1
  have HBL := Aside0.mk hB4lt
  clear hB4lt
  cases q with
  | true =>
    have hend : wrap64 (at_ + n) = sz x := by simpa using hq'
    have HEND := Aside0.mk hend
    have hcut := cut_from (P := Try.prog) 22 43 .i64 Try.underlying22 (info_parts infoRn).choose_spec.1 3 (info_parts infoRn).choose_spec.2.2.1 (some ad) m c 1 (by decide) (by have := HM.out; omega)
    obtain ⟨A2, hA2⟩ : ∃ A2, A2 = (if c = (1 : Int).toNat then some ad else (some ad : Option Addr).map (·.add ((1 : Int).toNat * 3))) := ⟨_, rfl⟩
    rw [← hA2] at hcut
    have HA2 := Aside0.mk hA2
    clear hA2 hend hq' hqt
    have HRW := Aside0.mk (blk_put (blk_put HER.out 0 (.slice A2 (m - 1) (c - 1)) rfl) 1 (.int .i64 0) rfl)
    go_wp2_with fail
    have h4 : ((we.setCell ⟨R, 0, none⟩ (.slice A2 (m - (1 : Int).toNat) (c - (1 : Int).toNat))).setCell ⟨R, 1, none⟩ (.int .i64 0)).heap[B4]? = some (rcs 0 E 0) := by rw [Below.heap_setCell _ _ _ _ n4, Below.heap_setCell _ _ _ _ n4]; exact HE4.out
    refine bodyPost_ret (res_run rfl _ _ _ v rfl (blk_put (blk_put (blk_put h4 0 _ rfl) 1 _ rfl) 2 _ rfl)) rfl ?_
    refine ⟨rfl, ?_, ?_⟩
    · exact but_set (but_set (but_set (but_set (but_set HBT.out _ _ _ (.inl rfl)) _ _ _ (.inl rfl)) _ _ _ (.inr (by have := HB4.out; omega))) _ _ _ (.inr (by have := HB4.out; omega))) _ _ _ (.inr (by have := HB4.out; omega))
    · rw [Below.heap_setCell _ _ _ _ n4', Below.heap_setCell _ _ _ _ n4', Below.heap_setCell _ _ _ _ n4', HRW.out]
      unfold nxt
      rw [if_pos HEND.out]
      show some (Obj.cells #[.slice A2 (m - 1) (c - 1), .int .i64 0] 69 (0, 0)) = some (Obj.cells #[.slice (if c = 1 then some ad else (some ad : Option Addr).map (·.add (1 * 3))) X.length (c - 1), .int .i64 0] 69 (0, 0))
      rw [HA2.out, show m - 1 = X.length by have := HM.out; omega]
      rfl
  | false =>
    have hend : ¬ wrap64 (at_ + n) = sz x := by simpa using hq'
    have HEND := Aside0.mk hend
    clear hend hq' hqt
    go_wp2_with fail
    refine bodyPost_ret (res_run rfl _ _ _ v rfl (blk_put (blk_put (blk_put HE4.out 0 _ rfl) 1 _ rfl) 2 _ rfl)) rfl ?_
    refine ⟨rfl, ?_, ?_⟩
    · exact but_set (but_set (but_set HBT.out _ _ _ (.inr (by have := HB4.out; omega))) _ _ _ (.inr (by have := HB4.out; omega))) _ _ _ (.inr (by have := HB4.out; omega))
    · rw [Below.heap_setCell _ _ _ _ n4', Below.heap_setCell _ _ _ _ n4', Below.heap_setCell _ _ _ _ n4', HER.out]
      unfold nxt
      rw [if_neg HEND.out]
set_option maxHeartbeats 2000000 in
set_option maxRecDepth 100000 in
/-- What takes the whole of a run that is left. -/
theorem whole_c (R : Nat) (A : Option Addr) (c : Nat) (x : Rn) (X : List Rn) (at_ : Int) (w : World) (hx : Fw x) (h : w.heap[R]? = some (rdr A c (x :: X) at_)) (hr : RC w A (x :: X)) (h0 : 0 ≤ at_) (h1 : at_ < sz x) (hl : X.length ≤ 140737488351231) (hc : X.length + 1 ≤ c) :
    Calls Try.prog 38 #[.pointer (some ⟨R, 0, none⟩)] w (TakePost R (ComposeL.part x at_ (sz x)) (nxt A c x X (sz x)) w) := by
  have hz : sz x ≤ 50331648 := by have := hx.a; have := hx.s; have := hx.d; unfold sz; omega
  obtain ⟨w1, hw1⟩ : ∃ w1, w1 = w.alloc (.cells #[.int .i64 0, .string ⟨#[]⟩, .int .i64 0] 43) := ⟨_, rfl⟩
  have hb1 : Below w.heap.size w w1 := by rw [hw1]; exact below_alloc (Below.refl w.heap.size w) _
  have hRlt := (Array.getElem?_eq_some_iff.1 h).1
  have hq1 : w1.heap[w.heap.size]? = some (rcs 0 E 0) := by rw [hw1]; exact Own.heap_new _ _
  have HN := Aside0.mk (now_c R A c x X at_ w1 hx ((hb1.block R hRlt).trans h) (RC.below hr hb1) h0 (by omega) hl)
  obtain ⟨pk, ps⟩ := part_knd hx.k (f := at_) (t := sz x) h0 h1 (Int.le_refl _)
  have pp := knd_pos (r := ComposeL.part x at_ (sz x)) (by rw [pk]; exact hx.k)
  have psz : (ComposeL.part x at_ (sz x)).f0 + ((ComposeL.part x at_ (sz x)).f1.size : Int) + (ComposeL.part x at_ (sz x)).f2 = sz x - at_ := ps
  have HSz := Aside0.mk (size_c (ComposeL.part x at_ (sz x)) ⟨⟨pp.1, by
    rcases knd_three hx.k with k | k | k
    · have := sz_keep k; have := hx.a; rw [part_keep k]; show sz x - at_ ≤ _; omega
    · rw [part_add k]; show (0 : Int) ≤ _; omega
    · rw [part_drop k]; show (0 : Int) ≤ _; omega⟩, by
    rcases knd_three hx.k with k | k | k
    · rw [part_keep k]; show ((E.size : Nat) : Int) ≤ _; rw [E_size]; omega
    · have := sz_add k; have := hx.s; rw [part_add k]; show ((x.f1.extract at_.toNat (sz x).toNat).size : Int) ≤ _; rw [ext_size]; omega
    · rw [part_drop k]; show ((E.size : Nat) : Int) ≤ _; rw [E_size]; omega, pp.2, by
    rcases knd_three hx.k with k | k | k
    · rw [part_keep k]; show (0 : Int) ≤ _; omega
    · rw [part_add k]; show (0 : Int) ≤ _; omega
    · have := sz_drop k; have := hx.d; rw [part_drop k]; show sz x - at_ ≤ _; omega⟩)
  rw [ps] at HSz
  have HT := Aside0.mk (fun (W : World) (hb : Below w1.heap.size w1 W) => take_c R A c x X at_ (sz x - at_) W hx (((below_step hb1 hb).block R hRlt).trans h) (RC.below hr (below_step hb1 hb)) h0 (by omega) (by omega) hl hc)
  rw [show at_ + (sz x - at_) = sz x by omega] at HT
  obtain ⟨v, hv⟩ : ∃ v, v = ComposeL.part x at_ (sz x) := ⟨_, rfl⟩
  rw [← hv] at HN HSz HT ⊢
  obtain ⟨d, hd⟩ : ∃ d, d = sz x - at_ := ⟨_, rfl⟩
  rw [← hd] at HSz HT
  obtain ⟨o, ho⟩ : ∃ o, o = nxt A c x X (sz x) := ⟨_, rfl⟩
  rw [← ho] at HT ⊢
  have HW1 := Aside0.mk hw1
  have HB1 := Aside0.mk hb1
  have HRL := Aside0.mk hRlt
  have HQ1 := Aside0.mk hq1
  clear h hr hx h0 h1 hl hc hz hw1 hb1 hRlt hq1 pk ps pp psz hv hd ho
  unfold rv at HSz
  go_enter Try.func38, Try.ntmps38
  go_wp2_with fail
  rw [← HW1.out]
  refine HN.out.mono ?_
  rintro e w2 ⟨rfl, hb2⟩
  have HB2 := Aside0.mk hb2
  clear hb2
  go_wp2_with fail
  refine (HSz.out _).mono ?_
  rintro e w3 ⟨rfl, hb3⟩
  have HB3 := Aside0.mk (below_step HB2.out hb3)
  clear hb3
  go_wp2_with fail
  refine (HT.out _ HB3.out).mono ?_
  rintro e w4 ⟨rfl, hb4, ho4⟩
  have hq4 : w4.heap[w.heap.size]? = some (rcs 0 E 0) := (hb4.block _ (by have := HB3.out.size; have := (Array.getElem?_eq_some_iff.1 HQ1.out).1; omega) (fun e => by injection e with e; have := HRL.out; omega)).trans ((HB3.out.block _ (Array.getElem?_eq_some_iff.1 HQ1.out).1).trans HQ1.out)
  obtain ⟨e0, e1, e2⟩ := blk_cells hq4
  have k0 := frozen_of_row w4 _ 0 _ _ hq4
  have k1 := frozen_of_row w4 _ 1 _ _ hq4
  have k2 := frozen_of_row w4 _ 2 _ _ hq4
  have HQ4 := Aside0.mk hq4
  have HB4 := Aside0.mk hb4
  have HO4 := Aside0.mk ho4
  clear hq4 hb4 ho4
  go_wp2_with fail
  refine bodyPost_ret (res_run rfl _ _ _ v rfl (blk_put (blk_put (blk_put HQ4.out 0 _ rfl) 1 _ rfl) 2 _ rfl)) rfl ?_
  have hne : R ≠ w.heap.size := by have := HRL.out; omega
  refine ⟨rfl, ?_, ?_⟩
  · have h3 : But R w w3 := by
      have := below_step HB1.out HB3.out
      exact ⟨this.os, this.tape, this.output, this.size, fun k hk _ => this.block k hk⟩
    exact but_set (but_set (but_set (h3.trans HB4.out) _ _ _ (.inr (Nat.le_refl _))) _ _ _ (.inr (Nat.le_refl _))) _ _ _ (.inr (Nat.le_refl _))
  · rw [Below.heap_setCell _ _ _ _ hne, Below.heap_setCell _ _ _ _ hne, Below.heap_setCell _ _ _ _ hne]
    exact HO4.out
end Go.Proofs.Ytbfdplmgefcogaa.ComposeK
end

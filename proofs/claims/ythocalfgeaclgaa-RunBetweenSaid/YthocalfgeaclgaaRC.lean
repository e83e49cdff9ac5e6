import Derived.Test.YthocalfgeaclgaaRA
import Derived.Shelf.Strings.BuilderK
import Derived.Test.YthocalfgeaclgaaRB
-- MERGED YthocalfgeaclgaaBld
section
/- strings.Builder: the kit's contracts, at our numbers. -/
namespace Go.Proofs.Ythocalfgeaclgaa.Bld
open Go.RowKit Go.Shelf Go.Proofs
def rf : Nat → Nat
  | 166 => 60
  | 169 => 61
  | 240 => 68
  | 276 => 70
  | x => x
def rt : Nat → Nat
  | 37 => 86
  | 70 => 85
  | 72 => 88
  | 75 => 90
  | 80 => 93
  | 127 => 99
  | 164 => 101
  | x => x
def ρ : Ren := ⟨rf, rt, fun x => x⟩
theorem extra : Builder.Extra Try.prog ρ where
  sizeBuilder := by kernel_rfl
  liesBuilder := by kernel_rfl
  t5 := Try.underlying5
  a5 := Try.isAgg5
  z5 := Try.sizeOf5
  v5 := Try.zeroValue5
  infoByte := by kernel_rfl
  cellsByte := by kernel_rfl
  sizeByte := by kernel_rfl
  neB5 := by decide
theorem l166 : Lays.n166 Try.prog ρ where
  mixed := by kernel_rfl
  f166 := by kernel_rfl
  f240 := by kernel_rfl
  f276 := by kernel_rfl
  t0 := Try.underlying0
  a0 := Try.isAgg0
  z0 := Try.sizeOf0
  v0 := Try.zeroValue0
  t3 := Try.underlying3
  a3 := Try.isAgg3
  z3 := Try.sizeOf3
  v3 := Try.zeroValue3
  t4 := Try.underlying4
  a4 := Try.isAgg4
  z4 := Try.sizeOf4
  v4 := Try.zeroValue4
  t9 := Try.underlying9
  a9 := Try.isAgg9
  z9 := Try.sizeOf9
  v9 := Try.zeroValue9
  t20 := Try.underlying20
  a20 := Try.isAgg20
  z20 := Try.sizeOf20
  v20 := Try.zeroValue20
  t37 := Try.underlying86
  a37 := Try.isAgg86
  z37 := Try.sizeOf86
  v37 := Try.zeroValue86
  t70 := Try.underlying85
  a70 := Try.isAgg85
  z70 := Try.sizeOf85
  v70 := Try.zeroValue85
  t72 := Try.underlying88
  a72 := Try.isAgg88
  z72 := Try.sizeOf88
  v72 := Try.zeroValue88
  t75 := Try.underlying90
  a75 := Try.isAgg90
  z75 := Try.sizeOf90
  v75 := Try.zeroValue90
  t164 := Try.underlying101
  a164 := Try.isAgg101
  z164 := Try.sizeOf101
  v164 := Try.zeroValue101
theorem l169 : Lays.n169 Try.prog ρ where
  mixed := by kernel_rfl
  f169 := by kernel_rfl
  t0 := Try.underlying0
  a0 := Try.isAgg0
  z0 := Try.sizeOf0
  v0 := Try.zeroValue0
  t3 := Try.underlying3
  a3 := Try.isAgg3
  z3 := Try.sizeOf3
  v3 := Try.zeroValue3
  t9 := Try.underlying9
  a9 := Try.isAgg9
  z9 := Try.sizeOf9
  v9 := Try.zeroValue9
  t37 := Try.underlying86
  a37 := Try.isAgg86
  z37 := Try.sizeOf86
  v37 := Try.zeroValue86
  t70 := Try.underlying85
  a70 := Try.isAgg85
  z70 := Try.sizeOf85
  v70 := Try.zeroValue85
  t72 := Try.underlying88
  a72 := Try.isAgg88
  z72 := Try.sizeOf88
  v72 := Try.zeroValue88
  t127 := Try.underlying99
  a127 := Try.isAgg99
  z127 := Try.sizeOf99
  v127 := Try.zeroValue99
/-- The text so far in the builder in block b (all of it above B). -/
def Bl (B b : Nat) (s : ByteArray) (w : World) : Prop := Lib.IsBuilderF 88 5 B b (Lib.strCells s) w
theorem strCells_app (a b : ByteArray) : Lib.strCells a ++ Lib.strCells b = Lib.strCells (a ++ b) := by
  rw [Lib.strCells_eq, Lib.strCells_eq, Lib.strCells_eq, ← Lib.byteCells_append, ByteArray.data_append, Array.toList_append]
theorem write_c (B b : Nat) (s t : ByteArray) (w : World) (h : Bl B b s w) (hl : s.size + t.size ≤ 140737488355328) (hB : B ≤ w.heap.size) :
    Calls Try.prog 60 #[.pointer (some ⟨b, 0, none⟩), .string t] w fun e w' => e = .returned (.tuple #[.int .i64 t.size, .nilIface]) ∧ Bl B b (s ++ t) w' ∧ Below B w w' ∧ Lib.OthersKept 5 (some b) w w' := by
  refine (Any.Builder_WriteString_k (P := Try.prog) (ρ := ρ) l166 extra B b (Lib.strCells s) t w h (by rw [Lib.strCells_length]; exact hl) hB).mono ?_
  rintro e w' ⟨rfl, h1, h2, h3⟩
  refine ⟨rfl, .inr ?_, h2, h3⟩
  rw [← strCells_app]
  exact h1
theorem text_c (B b : Nat) (s : ByteArray) (w : World) (h : Bl B b s w) (hB : B ≤ w.heap.size) :
    Calls Try.prog 61 #[.pointer (some ⟨b, 0, none⟩)] w fun e w' => e = .returned (.string s) ∧ Below B w w' := by
  refine (Any.Builder_String_any_k (P := Try.prog) (ρ := ρ) l169 extra B b s.data.toList w h hB).mono ?_
  rintro e w' ⟨rfl, h1, h2, h3⟩
  refine ⟨?_, h2⟩
  rfl
end Go.Proofs.Ythocalfgeaclgaa.Bld
end
-- MERGED YthocalfgeaclgaaEditG
section
/- The plain law of the edit of any runs: it is in order, of as many bytes; an edit is that of its own runs, parted anywhere. -/
namespace Go.Proofs.Ythocalfgeaclgaa.EditG
open Go.RowKit Go.Proofs.Ythocalfgeaclgaa.P Go.Proofs.Ythocalfgeaclgaa.EditL
set_option linter.unusedSimpArgs false
set_option linter.unusedVariables false

theorem E_add (s : ByteArray) : E ++ s = s := by
  apply ByteArray.ext
  simp [E]
theorem add_E (s : ByteArray) : s ++ E = s := by
  apply ByteArray.ext
  simp [E]
theorem size_add (a b : ByteArray) : (a ++ b).size = a.size + b.size := ByteArray.size_append ..
theorem jn_flush {r : Rn} {l : List Rn} {k d : Int} {a : ByteArray} (h1 : knd r = 1) (h2 : a.size ≠ 0 ∨ 0 < d) : jn (r :: l) k a d = fl k a d ++ jn l r.f0 r.f1 r.f2 := by
  show (if _ then _ else _) = _; rw [if_pos ⟨h1, h2⟩]
theorem jn_on {r : Rn} {l : List Rn} {k d : Int} {a : ByteArray} (h : ¬ (knd r = 1 ∧ (a.size ≠ 0 ∨ 0 < d))) : jn (r :: l) k a d = jn l (k + r.f0) (a ++ r.f1) (d + r.f2) := by
  show (if _ then _ else _) = _; rw [if_neg h]
theorem fl_len (k d : Int) (a : ByteArray) : (fl k a d).length ≤ 3 := by unfold fl; simp only [List.length_append]; (repeat' split) <;> simp
theorem jn_len (l : List Rn) : ∀ k a d, (jn l k a d).length ≤ 3 * l.length + 3 := by
  induction l with
  | nil => intro k a d; have := fl_len k d a; simpa [jn] using this
  | cons r l ih =>
    intro k a d
    by_cases h : knd r = 1 ∧ (a.size ≠ 0 ∨ 0 < d)
    · rw [jn_flush h.1 h.2, List.length_append, List.length_cons]
      have := fl_len k d a
      have := ih r.f0 r.f1 r.f2
      omega
    · rw [jn_on h, List.length_cons]
      have := ih (k + r.f0) (a ++ r.f1) (d + r.f2)
      omega
theorem run_eq {r : Rn} (h : knd r = 1) : r = ⟨r.f0, E, 0⟩ ∧ 0 < r.f0 ∧ r.f1 = E ∧ r.f2 = 0 := by
  obtain ⟨f0, f1, f2⟩ := r
  rcases knd_cases ⟨f0, f1, f2⟩ with ⟨h1, h2, h3, h4⟩ | ⟨h1, h2, h3, h4⟩ | ⟨h1, h2, h3, h4⟩ | ⟨h4, _⟩
  · have := eq_E h2
    simp only at h1 h3 this ⊢
    subst this; subst h3
    exact ⟨rfl, h1, rfl, rfl⟩
  all_goals rw [h4] at h; cases h
theorem run_eq2 {r : Rn} (h : knd r = 2) : r = ⟨0, r.f1, 0⟩ ∧ r.f0 = 0 ∧ r.f1.size ≠ 0 ∧ r.f2 = 0 := by
  obtain ⟨f0, f1, f2⟩ := r
  rcases knd_cases ⟨f0, f1, f2⟩ with ⟨h1, h2, h3, h4⟩ | ⟨h1, h2, h3, h4⟩ | ⟨h1, h2, h3, h4⟩ | ⟨h4, _⟩
  · rw [h4] at h; cases h
  · simp only at h1 h2 h3 ⊢
    subst h1; subst h3
    exact ⟨rfl, rfl, by omega, rfl⟩
  all_goals rw [h4] at h; cases h
theorem run_eq3 {r : Rn} (h : knd r = 3) : r = ⟨0, E, r.f2⟩ ∧ r.f0 = 0 ∧ r.f1 = E ∧ 0 < r.f2 := by
  obtain ⟨f0, f1, f2⟩ := r
  rcases knd_cases ⟨f0, f1, f2⟩ with ⟨h1, h2, h3, h4⟩ | ⟨h1, h2, h3, h4⟩ | ⟨h1, h2, h3, h4⟩ | ⟨h4, _⟩
  · rw [h4] at h; cases h
  · rw [h4] at h; cases h
  · have := eq_E h2
    simp only at h1 h3 this ⊢
    subst this; subst h1
    exact ⟨rfl, rfl, rfl, h3⟩
  · rw [h4] at h; cases h
theorem knd_three {r : Rn} (h : knd r ≠ 0) : knd r = 1 ∨ knd r = 2 ∨ knd r = 3 := by
  rcases knd_cases r with ⟨_, _, _, h4⟩ | ⟨_, _, _, h4⟩ | ⟨_, _, _, h4⟩ | ⟨h4, _⟩
  · exact .inl h4
  · exact .inr (.inl h4)
  · exact .inr (.inr h4)
  · exact absurd h4 h
theorem sums_fl {k d : Int} (hk : 0 ≤ k) (hd : 0 ≤ d) (a : ByteArray) : inL (fl k a d) = k + d ∧ outL (fl k a d) = k + (a.size : Int) := by
  unfold fl
  by_cases h1 : 0 < k <;> by_cases h2 : a.size ≠ 0 <;> by_cases h3 : 0 < d <;> simp [h1, h2, h3, inL, outL, E_size] <;> omega
theorem sums_jn (l : List Rn) (h : ∀ r ∈ l, knd r ≠ 0) : ∀ (k : Int) (a : ByteArray) (d : Int), 0 ≤ k → 0 ≤ d → inL (jn l k a d) = k + d + inL l ∧ outL (jn l k a d) = k + (a.size : Int) + outL l := by
  induction l with
  | nil =>
    intro k a d hk hd
    have := sums_fl hk hd a
    simp only [jn, inL, outL]
    omega
  | cons r l ih =>
    intro k a d hk hd
    have hp := knd_pos (h r List.mem_cons_self)
    have h2 : ∀ x ∈ l, knd x ≠ 0 := fun x hx => h x (List.mem_cons_of_mem _ hx)
    by_cases c : knd r = 1 ∧ (a.size ≠ 0 ∨ 0 < d)
    · have h3 := ih h2 r.f0 r.f1 r.f2 hp.1 hp.2
      have h4 := sums_fl hk hd a
      rw [jn_flush c.1 c.2, inL_append, outL_append]
      simp only [inL, outL]
      omega
    · have h3 := ih h2 (k + r.f0) (a ++ r.f1) (d + r.f2) (by omega) (by omega)
      rw [jn_on c]
      simp only [inL, outL]
      rw [size_add] at h3
      omega
theorem ord_jn (l : List Rn) (h : ∀ r ∈ l, knd r ≠ 0) : ∀ (k : Int) (a : ByteArray) (d last : Int), 0 ≤ k → 0 ≤ d → last ≠ 1 → (k = 0 → last = 0) → ord (jn l k a d) last = true := by
  induction l with
  | nil =>
    intro k a d last hk hd hl h0
    simp only [jn, fl]
    by_cases h1 : 0 < k
    · by_cases h2 : a.size ≠ 0 <;> by_cases h3 : 0 < d <;> simp [h1, h2, h3, ord, knd_keep, knd_add, knd_drop] <;> omega
    · have := h0 (by omega)
      subst this
      by_cases h2 : a.size ≠ 0 <;> by_cases h3 : 0 < d <;> simp [h1, h2, h3, ord, knd_keep, knd_add, knd_drop]
  | cons r l ih =>
    intro k a d last hk hd hl h0
    have hp := knd_pos (h r List.mem_cons_self)
    have h2 : ∀ x ∈ l, knd x ≠ 0 := fun x hx => h x (List.mem_cons_of_mem _ hx)
    by_cases c : knd r = 1 ∧ (a.size ≠ 0 ∨ 0 < d)
    · have hr := run_eq c.1
      have i2 := ih h2 r.f0 r.f1 r.f2 2 hp.1 hp.2 (by decide) (fun e => by omega)
      have i3 := ih h2 r.f0 r.f1 r.f2 3 hp.1 hp.2 (by decide) (fun e => by omega)
      rw [jn_flush c.1 c.2]
      unfold fl
      by_cases h1 : 0 < k
      · by_cases h2 : a.size ≠ 0 <;> by_cases h3 : 0 < d
        · simp [h1, h2, h3, ord, knd_keep, knd_add, knd_drop, i2, i3]; omega
        · simp [h1, h2, h3, ord, knd_keep, knd_add, knd_drop, i2, i3]; omega
        · simp [h1, h2, h3, ord, knd_keep, knd_add, knd_drop, i2, i3]; omega
        · exact absurd c.2 (by omega)
      · have := h0 (by omega)
        subst this
        by_cases h2 : a.size ≠ 0 <;> by_cases h3 : 0 < d
        · simp [h1, h2, h3, ord, knd_keep, knd_add, knd_drop, i2, i3]
        · simp [h1, h2, h3, ord, knd_keep, knd_add, knd_drop, i2, i3]
        · simp [h1, h2, h3, ord, knd_keep, knd_add, knd_drop, i2, i3]
        · exact absurd c.2 (by omega)
    · rw [jn_on c]
      refine ih h2 _ _ _ last (by omega) (by omega) hl (fun e => h0 (by omega))
theorem good_out {l : List Rn} (hf : fits (fine l) 0 0 = true) (hl : (out l).length ≤ 65536) : good (out l) = true := by
  have hok := fine_ok l
  have ho := ord_jn (fine l) hok 0 E 0 0 (by decide) (by decide) (by decide) (fun _ => rfl)
  have hs := sums_jn (fine l) hok 0 E 0 (by decide) (by decide)
  have hi := (fits_iff hok 0 0 (by decide) (by decide)).1 hf
  unfold good
  rw [show ord (out l) 0 = true from ho, decide_eq_true hl, Bool.true_and, Bool.true_and]
  refine (fits_iff (ord_ok ho) 0 0 (by decide) (by decide)).2 ?_
  rw [hs.1, hs.2, E_size]
  omega
theorem out_len (l : List Rn) : (out l).length ≤ 3 * l.length + 3 := by
  have h1 := jn_len (fine l) 0 E 0
  have h2 := fine_len l
  unfold out
  omega
/-- The edit of runs that fit. -/
theorem norm_fits {l : List Rn} (hf : fits (fine l) 0 0 = true) (hl : 3 * l.length + 3 ≤ 65536) : norm l = out l ∧ good (out l) = true := by
  have h := good_out hf (by have := out_len l; omega)
  unfold norm
  rw [if_pos hf, if_pos h]
  exact ⟨rfl, h⟩
theorem norm_sums {l : List Rn} (hf : fits (fine l) 0 0 = true) (hl : 3 * l.length + 3 ≤ 65536) : good (norm l) = true ∧ inL (norm l) = inL (fine l) ∧ outL (norm l) = outL (fine l) := by
  obtain ⟨h1, h2⟩ := norm_fits hf hl
  have hs := sums_jn (fine l) (fine_ok l) 0 E 0 (by decide) (by decide)
  rw [h1]
  refine ⟨h2, ?_, ?_⟩
  · unfold out; rw [hs.1]; omega
  · unfold out; rw [hs.2, E_size]; omega
theorem norm_good (l : List Rn) : good (norm l) = true := by
  unfold norm
  split
  · split
    · assumption
    · exact good_nil
  · exact good_nil
theorem norm_nofit {l : List Rn} (hf : fits (fine l) 0 0 = false) : norm l = [] := by unfold norm; rw [hf]; rfl
/-! An edit is the edit of its own runs. -/
theorem ord_zero {r : Rn} {l : List Rn} {last : Int} (h : ord (r :: l) last = true) : ord (r :: l) 0 = true := by
  simp only [ord, Bool.and_eq_true, decide_eq_true_eq] at h ⊢
  exact ⟨⟨⟨h.1.1.1, h.1.1.1⟩, by omega⟩, h.2⟩
theorem ord_tail {a l : List Rn} : ∀ {last : Int}, ord (a ++ l) last = true → ord l 0 = true := by
  induction a with
  | nil =>
    intro last h
    cases l with
    | nil => rfl
    | cons r l => exact ord_zero h
  | cons r a ih =>
    intro last h
    rw [List.cons_append] at h
    simp only [ord, Bool.and_eq_true] at h
    exact ih h.2
theorem fl_one {k : Int} (h : 0 < k) : fl k E 0 = [⟨k, E, 0⟩] := by unfold fl; rw [if_pos h]; rfl
theorem jn_self (l : List Rn) : ∀ (k : Int) (a : ByteArray) (d : Int), 0 ≤ k → 0 ≤ d → ord (fl k a d ++ l) 0 = true → jn l k a d = fl k a d ++ l := by
  induction l with
  | nil => intro k a d _ _ _; rw [List.append_nil]; rfl
  | cons r l ih =>
    intro k a d hk hd h
    have hr : knd r ≠ 0 := ord_ok h r (List.mem_append_right _ List.mem_cons_self)
    rcases knd_three hr with c | c | c
    · obtain ⟨e, e0, e1, e2⟩ := run_eq c
      have i1 := ih r.f0 r.f1 r.f2 (by omega) (by omega) (by
        rw [e1, e2, fl_one e0]
        have := ord_tail h
        rw [e] at this
        exact this)
      by_cases c2 : a.size ≠ 0 ∨ 0 < d
      · rw [jn_flush c c2, i1, e1, e2, fl_one e0, ← e]; rfl
      · have ha : a = E := eq_E (by omega)
        have hd0 : d = 0 := by omega
        subst ha; subst hd0
        have hk0 : k = 0 := by
          apply Classical.byContradiction
          intro hne
          rw [fl_one (by omega)] at h
          simp only [List.cons_append, List.nil_append, ord, knd_keep (show 0 < k by omega), c] at h
          simp at h
        subst hk0
        rw [jn_on (fun h => c2 h.2), Int.zero_add, Int.zero_add, E_add, i1, e1, e2, fl_one e0, ← e]
        rfl
    · obtain ⟨e, e0, e1, e2⟩ := run_eq2 c
      have hd0 : d = 0 := by
        apply Classical.byContradiction
        intro hne
        have hp : 0 < d := by omega
        unfold fl at h
        rw [if_pos hp, ← List.append_assoc, List.append_assoc] at h
        have h2 : ∀ (x : List Rn) (last : Int), ord (x ++ ([⟨0, E, d⟩] ++ r :: l)) last = true → False := by
          intro x
          induction x with
          | nil =>
            intro last h
            simp [ord, knd_drop hp, c] at h
          | cons y x ihx =>
            intro last h
            rw [List.cons_append] at h
            simp only [ord, Bool.and_eq_true] at h
            exact ihx _ h.2
        exact h2 _ _ h
      subst hd0
      have ha : a = E := by
        refine eq_E (Classical.byContradiction fun hne => ?_)
        unfold fl at h
        rw [if_pos hne, if_neg (show ¬ (0 : Int) < 0 by decide), List.append_nil] at h
        have h2 : ∀ (x : List Rn) (last : Int), ord ((x ++ [⟨0, a, 0⟩]) ++ r :: l) last = true → False := by
          intro x
          induction x with
          | nil =>
            intro last h
            simp [ord, knd_add hne, c] at h
          | cons y x ihx =>
            intro last h
            rw [List.cons_append, List.cons_append] at h
            simp only [ord, Bool.and_eq_true] at h
            exact ihx _ h.2
        exact h2 _ _ h
      subst ha
      have hfl : fl k E 0 ++ r :: l = fl k r.f1 0 ++ l := by
        unfold fl
        rw [if_pos e1, if_neg (show ¬ E.size ≠ 0 by decide), if_neg (show ¬ (0 : Int) < 0 by decide)]
        conv => lhs; rw [e]
        simp
      rw [jn_on (fun h => absurd (c.symm.trans h.1) (by decide)), e0, e2, Int.add_zero, Int.add_zero, E_add, hfl]
      exact ih _ _ _ hk (by decide) (by rw [← hfl]; exact h)
    · obtain ⟨e, e0, e1, e2⟩ := run_eq3 c
      have hd0 : d = 0 := by
        apply Classical.byContradiction
        intro hne
        have hp : 0 < d := by omega
        unfold fl at h
        rw [if_pos hp, ← List.append_assoc, List.append_assoc] at h
        have h2 : ∀ (x : List Rn) (last : Int), ord (x ++ ([⟨0, E, d⟩] ++ r :: l)) last = true → False := by
          intro x
          induction x with
          | nil =>
            intro last h
            simp [ord, knd_drop hp, c] at h
          | cons y x ihx =>
            intro last h
            rw [List.cons_append] at h
            simp only [ord, Bool.and_eq_true] at h
            exact ihx _ h.2
        exact h2 _ _ h
      subst hd0
      have hfl : fl k a 0 ++ r :: l = fl k a r.f2 ++ l := by
        unfold fl
        rw [if_pos e2, if_neg (show ¬ (0 : Int) < 0 by decide)]
        conv => lhs; rw [e]
        simp
      rw [jn_on (fun h => absurd (c.symm.trans h.1) (by decide)), e0, e1, Int.add_zero, Int.zero_add, add_E, hfl]
      exact ih _ _ _ hk (by omega) (by rw [← hfl]; exact h)
theorem out_self {l : List Rn} (h : ord l 0 = true) : out l = l := by
  unfold out
  rw [fine_self (ord_ok h)]
  exact jn_self l 0 E 0 (by decide) (by decide) h
theorem norm_self {l : List Rn} (h : good l = true) : norm l = l := by
  obtain ⟨h1, h2, h3, h4⟩ := good_ok h
  unfold norm
  rw [fine_self h4, if_pos h3, out_self h1, if_pos h]
end Go.Proofs.Ythocalfgeaclgaa.EditG
end
-- MERGED YthocalfgeaclgaaPrunfits
section
-- Written by wip/myprint.py of this session, over the kit's print.py: a Lean function for each Go function, and the proof that the code comes to it.
namespace Go.Proofs.Ythocalfgeaclgaa.P
open Go.RowKit Go.Proofs.YthocalfgeaclgaaW.PrintWords Go.Proofs.YthocalfgeaclgaaW.PrintLast Go.Proofs.YthocalfgeaclgaaW.PrintMore
attribute [local go_sem] max2_int min2_int max_two min_two max_three min_three max_four min_four   -- for this text's walks alone
set_option linter.unusedVariables false
set_option linter.unusedSimpArgs false

/-! ### run_fits: function 59 -/
def run_fits.f (k : Nat) (l0 : List (S37)) (a1 : Int) : Option (Bool) := (edit_Good.f k l0).bind fun t573 => (if t573 = true then ((edit_In.f k l0).bind fun t574 => (some (t574 == a1))) else (some false))
theorem run_fits.mono : ∀ a0 a1 k, LeO (run_fits.f k a0 a1) (run_fits.f (k + 1) a0 a1) := by
  intro a0 a1 k
  unfold run_fits.f
  repeat' first
      | (with_reducible exact edit_Good.mono _ _)
      | (with_reducible exact edit_In.mono _ _)
      | (with_reducible exact LeO.refl _)
      | (with_reducible exact LeO.none _)
      | (with_reducible refine LeO.ite ?_ ?_)
      | (with_reducible refine LeO.bind ?_ (fun _ => ?_))
      | exact edit_Good.mono _ _
      | exact edit_In.mono _ _
      | exact LeO.none _
      | refine LeO.ite ?_ ?_
      | refine LeO.bind ?_ (fun _ => ?_)
set_option maxHeartbeats 8000000 in
set_option maxRecDepth 100000 in
theorem run_fits.calls (k : Nat) (A0 : Option Addr) (c0 : Nat) (l0 : List (S37)) (a1 : Int) (r : Bool) (w : World) (hr0 : Kd.C k37 w A0 l0.length l0) (hc0 : l0.length ≤ c0) (h : run_fits.f k l0 a1 = some r) :
    Calls Try.prog 59 #[.slice A0 l0.length c0, .int .i64 a1] w fun e w' => e = .returned (.bool r) ∧ Below w.heap.size w w' := by
  have HR0 := Aside0.mk hr0
  have HC0 := Aside0.mk hc0
  clear hr0 hc0
  have HB := Aside0.mk (Below.refl w.heap.size w)
  have H : ((edit_Good.f k l0).bind fun t573 => (if t573 = true then ((edit_In.f k l0).bind fun t574 => (some (t574 == a1))) else (some false))) = some r := h
  clear h
  replace H := Option.bind_eq_some_iff.mp H
  obtain ⟨t573, A30, H⟩ := H
  replace H : (if t573 = true then ((edit_In.f k l0).bind fun t574 => (some (t574 == a1))) else (some false)) = some r := H
  have A3 := Aside0.mk A30
  clear A30
  by_cases c4 : t573 = true
  · subst c4
    have H1 : ((edit_In.f k l0).bind fun t574 => (some (t574 == a1))) = some r := by rw [if_pos rfl] at H; exact H
    clear H
    have H := H1
    clear H1
    replace H := Option.bind_eq_some_iff.mp H
    obtain ⟨t574, A50, H⟩ := H
    replace H : (some (t574 == a1)) = some r := H
    have A5 := Aside0.mk A50
    clear A50
    obtain rfl := Option.some.inj H
    go_enter Try.func59, Try.ntmps59
    go_wp2_with (first | ((with_reducible refine gate_callee (f := 24) rfl ?_); refine goesL_ (some 6) rfl rfl Try.func24 (by kernel_rfl) rfl #[.slice A0 l0.length c0] rfl (by (try simp only [List.map_toArray, List.map_cons, List.map_nil]); first | done | rfl | (simp only [List.length_drop, List.length_take]; rfl)) ?_; (with_reducible refine (edit_Good.calls k _ _ l0 true _ ?side1 ?side2 A3.out).mono ?_); (case side1 => repeat (first | exact HR0.out | (with_reducible refine Kd.C_alloc ?_ _) | (with_reducible refine Kd.C_drewN ?_ _) | (with_reducible refine Kd.C_drew ?_))); (case side2 => exact HC0.out); rintro e w6 ⟨rfl, hb⟩; refine ⟨_, rfl, ?_⟩; have n0_ := Aside0.mk (below_step (by repeat (first | (with_reducible first | exact HB.out | apply below_alloc | apply pw_below_drewN | apply below_drew1) | exact HB.out)) hb); clear HB; have HB := n0_; clear n0_; (try clear hb); (try clear hb2); (try clear hk); (try clear hi)) | (go_at_call 26; (with_reducible refine (edit_In.calls k _ _ l0 t574 _ ?side1 ?side2 A5.out).mono ?_); (case side1 => repeat (first | exact (Kd.C_below HR0.out HB.out) | (with_reducible refine Kd.C_alloc ?_ _) | (with_reducible refine Kd.C_drewN ?_ _) | (with_reducible refine Kd.C_drew ?_))); (case side2 => exact HC0.out); rintro e w7 ⟨rfl, hb⟩; have n0_ := Aside0.mk (below_step (by repeat (first | (with_reducible first | exact HB.out | apply below_alloc | apply pw_below_drewN | apply below_drew1) | exact HB.out)) hb); clear HB; have HB := n0_; clear n0_; (try clear hb); (try clear hb2); (try clear hk); (try clear hi)))
    go_ret
    exact ⟨by first | rfl | (simp [errW_none, errW_some] <;> rfl) | (simp [*, errW_none, errW_some] <;> rfl), by repeat (first | (with_reducible first | exact HB.out | apply below_alloc | apply pw_below_drewN | apply below_drew1) | exact HB.out)⟩
  · replace c4 := Bool.eq_false_iff.mpr c4
    subst c4
    have H1 : (some false) = some r := by rw [if_neg (show ¬ (false = true) by decide)] at H; exact H
    clear H
    have H := H1
    clear H1
    obtain rfl := Option.some.inj H
    go_enter Try.func59, Try.ntmps59
    go_wp2_with (first | ((with_reducible refine gate_callee (f := 24) rfl ?_); refine goesL_ (some 6) rfl rfl Try.func24 (by kernel_rfl) rfl #[.slice A0 l0.length c0] rfl (by (try simp only [List.map_toArray, List.map_cons, List.map_nil]); first | done | rfl | (simp only [List.length_drop, List.length_take]; rfl)) ?_; (with_reducible refine (edit_Good.calls k _ _ l0 false _ ?side1 ?side2 A3.out).mono ?_); (case side1 => repeat (first | exact HR0.out | (with_reducible refine Kd.C_alloc ?_ _) | (with_reducible refine Kd.C_drewN ?_ _) | (with_reducible refine Kd.C_drew ?_))); (case side2 => exact HC0.out); rintro e w8 ⟨rfl, hb⟩; refine ⟨_, rfl, ?_⟩; have n0_ := Aside0.mk (below_step (by repeat (first | (with_reducible first | exact HB.out | apply below_alloc | apply pw_below_drewN | apply below_drew1) | exact HB.out)) hb); clear HB; have HB := n0_; clear n0_; (try clear hb); (try clear hb2); (try clear hk); (try clear hi)))
    go_ret
    exact ⟨by first | rfl | (simp [errW_none, errW_some] <;> rfl) | (simp [*, errW_none, errW_some] <;> rfl), by repeat (first | (with_reducible first | exact HB.out | apply below_alloc | apply pw_below_drewN | apply below_drew1) | exact HB.out)⟩

end Go.Proofs.Ythocalfgeaclgaa.P
end
-- MERGED YthocalfgeaclgaaRunA
section
/- The walk of run.Apply: an edit done. -/
namespace Go.Proofs.Ythocalfgeaclgaa.RunA
open Go.RowKit Go.Shelf Go.Proofs.Ythocalfgeaclgaa.P Go.Proofs.YthocalfgeaclgaaW.PrintWords Go.Proofs.YthocalfgeaclgaaW.PrintLast Go.Proofs.YthocalfgeaclgaaW.PrintMore Go.Proofs.Ythocalfgeaclgaa.Own Go.Proofs.Ythocalfgeaclgaa.EditL Go.Proofs.Ythocalfgeaclgaa.EditK Go.Proofs.Ythocalfgeaclgaa.EditF Go.Proofs.Ythocalfgeaclgaa.EditG Go.Proofs.Ythocalfgeaclgaa.EditR Go.Proofs.Ythocalfgeaclgaa.Bld Go.Proofs.Ythocalfgeaclgaa.EditJ
attribute [local go_sem] max2_int min2_int max_two min_two
set_option linter.unusedSimpArgs false
set_option linter.unusedVariables false

/-- What an edit makes of a text. -/
def apL : List Rn → ByteArray → ByteArray
  | [], _ => E
  | r :: l, s => (s.extract 0 r.f0.toNat ++ r.f1) ++ apL l (s.extract (r.f0 + r.f2).toNat s.size)
def fitsL (op : List Rn) (n : Int) : Bool := good op && decide (inL op = n)
theorem fits_f {op : List Rn} (hl : op.length ≤ 140737488351232) (n : Int) (k : Nat) (hk : op.length < k) : run_fits.f k op n = some (fitsL op n) := by
  unfold run_fits.f fitsL
  rw [good_f hl k hk, Option.bind_some]
  cases hg : good op with
  | false => rw [if_neg Bool.false_ne_true]; rfl
  | true =>
    rw [if_pos rfl, in_f hl k hk, Option.bind_some, hg, if_pos rfl, Bool.true_and]
    rfl
theorem fits_c (A0 : Option Addr) (c0 : Nat) (l0 : List Rn) (n : Int) (hc : l0.length ≤ c0) (hl : l0.length ≤ 140737488351232) (W : World) (h : RC W A0 l0) : Calls Try.prog 59 #[.slice A0 l0.length c0, .int .i64 n] W fun e w' => e = .returned (.bool (fitsL l0 n)) ∧ Below W.heap.size W w' :=
  run_fits.calls (l0.length + 1) A0 c0 l0 n _ W h hc (fits_f hl n _ (Nat.lt_succ_self _))
def ApPost (v : ByteArray × Int) (w : World) (e : Ending) (w' : World) : Prop := e = .returned (.tuple #[.string v.1, .int .i64 v.2]) ∧ Below w.heap.size w w'
set_option maxHeartbeats 4000000 in
set_option maxRecDepth 100000 in
theorem apply_no (A0 : Option Addr) (c0 : Nat) (l0 : List Rn) (s : ByteArray) (w : World) (h : RC w A0 l0) (hc : l0.length ≤ c0) (hl : l0.length ≤ 140737488351232) (hs : s.size ≤ 140737488351232) (hf : fitsL l0 s.size = false) :
    Calls Try.prog 39 #[.slice A0 l0.length c0, .string s] w (ApPost (E, 60) w) := by
  have HG := Aside0.mk (fits_c A0 c0 l0 s.size hc hl)
  rw [hf] at HG
  have H0 := Aside0.mk h
  clear h hc hl hf
  go_enter Try.func39, Try.ntmps39
  go_wp2_with (first | (go_at_call 59; refine (HG.out _ H0.out).mono ?_; rintro e w1 ⟨rfl, hb⟩; have HB := Aside0.mk hb; clear hb))
  go_ret2
  exact ⟨rfl, HB.out⟩
theorem grown_alloc (w : World) (o : Obj) : w.grownBy (w.alloc o) none := ⟨rfl, rfl, rfl, by simp, fun k hk _ => Own.heap_old w o k hk⟩
theorem Bl.alloc {B b : Nat} {s : ByteArray} {w : World} (h : Bl B b s w) (o : Obj) : Bl B b s (w.alloc o) := by
  have hat : ∀ p bs, Lib.BuilderAtF 88 5 B b p bs w → Lib.BuilderAtF 88 5 B b p bs (w.alloc o) := by
    rintro p bs ⟨hB, v, hb, hr, hne⟩
    exact ⟨hB, v, (Own.heap_old w o b (Array.getElem?_eq_some_iff.1 hb).1).trans hb, hr.kept (grown_alloc w o) (by cases v.ownBlock <;> simp), hne⟩
  exact h.elim (fun x => .inl (hat _ _ x)) (fun x => .inr (hat _ _ x))
theorem Bl.lt {B b : Nat} {s : ByteArray} {w : World} (h : Bl B b s w) : b < w.heap.size := by
  rcases h with ⟨_, v, hb, _⟩ | ⟨_, v, hb, _⟩ <;> exact (Array.getElem?_eq_some_iff.1 hb).1
theorem Bl.new (w : World) : Bl w.heap.size w.heap.size E (w.alloc (.cells #[.pointer none, .slice none 0 0] 88)) := Lib.IsBuilderF.of (Lib.fresh_isBuilder 88 5 w)
theorem ext_all (s : ByteArray) : s.extract 0 s.size = s := by
  apply ByteArray.ext; simp
theorem ext_none (s : ByteArray) : s.extract 0 0 = E := by
  apply ByteArray.ext; simp [E]
theorem ext_size (s : ByteArray) (a b : Nat) : (s.extract a b).size = min b s.size - a := ByteArray.size_extract
theorem app_assoc (a b c : ByteArray) : a ++ b ++ c = a ++ (b ++ c) := ByteArray.append_assoc
set_option maxHeartbeats 8000000 in
set_option maxRecDepth 100000 in
theorem apply_yes (A0 : Option Addr) (c0 : Nat) (l0 : List Rn) (s : ByteArray) (w : World) (h : RC w A0 l0) (hc : l0.length ≤ c0) (hl : l0.length ≤ 140737488351232) (hs : s.size ≤ 140737488351232) (hf : fitsL l0 s.size = true) :
    Calls Try.prog 39 #[.slice A0 l0.length c0, .string s] w (ApPost (apL l0 s, 0) w) := by
  have HG := Aside0.mk (fits_c A0 c0 l0 s.size hc hl)
  rw [hf] at HG
  unfold fitsL at hf
  simp only [Bool.and_eq_true, decide_eq_true_eq] at hf
  obtain ⟨hg, hin⟩ := hf
  have HI := Aside0.mk hin
  obtain ⟨_, hll, hfit, hk⟩ := good_ok hg
  have HO := Aside0.mk ((fits_iff hk 0 0 (by omega) (by omega)).1 hfit)
  have HK := Aside0.mk hk
  have H0 := Aside0.mk h
  clear h hc hl hg hin hfit hk
  go_enter Try.func39, Try.ntmps39
  go_wp2_with (first | (go_at_call 59; refine (HG.out _ H0.out).mono ?_; rintro e w1 ⟨rfl, hb⟩; have HB1 := Aside0.mk hb; clear hb))
  have HN := Aside0.mk (Bl.new w1)
  have HB2 := Aside0.mk (below_alloc HB1.out (.cells #[.pointer none, .slice none 0 0] 88))
  have HL2 := Aside0.mk (show w1.heap.size < (w1.alloc (.cells #[.pointer none, .slice none 0 0] 88)).heap.size by simp)
  obtain ⟨w2, hw2⟩ : ∃ w2, w2 = w1.alloc (.cells #[.pointer none, .slice none 0 0] 88) := ⟨_, rfl⟩
  have HB0 := Aside0.mk HB1.out.size
  rw [← hw2] at HN HB2 HL2 ⊢
  obtain ⟨B0, hB0⟩ : ∃ b, b = w1.heap.size := ⟨_, rfl⟩
  rw [← hB0] at HN HL2 HB0 ⊢
  clear hw2 hB0 HB1 HG
  go_loopw [1, 16] (fun sv iv wr => ∃ (j : Nat) (acc rest : ByteArray), j ≤ l0.length ∧ sv = .string rest ∧ iv = .int .i64 (j : Int) ∧ Bl B0 B0 acc wr ∧ acc ++ apL (l0.drop j) rest = apL l0 s ∧ inL (l0.drop j) = (rest.size : Int) ∧ (acc.size : Int) + outL (l0.drop j) ≤ 16777216 ∧ rest.size ≤ s.size ∧ Below w.heap.size w wr) (fun _ iv _ => l0.length - (intOf iv).toNat)
  case atStart => exact ⟨0, E, s, Nat.zero_le _, rfl, rfl, HN.out, E_add _, HI.out, by rw [E_size, List.drop_zero]; have := HO.out; omega, Nat.le_refl _, HB2.out⟩
  case round =>
    obtain ⟨j, acc, rest, hj, rfl, rfl, hbl, ha, hi, ho, hz, hb⟩ := hrel
    have HBL := Aside0.mk hbl
    have HA := Aside0.mk ha
    have HI1 := Aside0.mk hi
    have HO1 := Aside0.mk ho
    have HB := Aside0.mk hb
    clear hbl ha hi ho hb HN HB2 HI HO
    by_cases hlt : j < l0.length
    · have hlt' : (j : Int) < (l0.length : Int) := by omega
      obtain ⟨ad, rfl, x0, x1, x2⟩ := at_nat (Kd.C_below H0.out HB.out) j hlt
      have hd := drop_get hlt
      have hmem : l0.getD j z37 ∈ l0 := by rw [List.getD_eq_getElem?_getD, List.getElem?_eq_getElem hlt]; exact List.getElem_mem hlt
      obtain ⟨r, hr⟩ : ∃ r, r = l0.getD j z37 := ⟨_, rfl⟩
      rw [← hr] at x0 x1 x2 hd hmem
      have h1 := HI1.out
      have h2 := HO1.out
      have h3 := HA.out
      rw [hd] at h1 h2 h3
      have h4 := inL_nonneg (l := l0.drop (j + 1)) (fun x hx => HK.out x (List.mem_of_mem_drop hx))
      have hne := HK.out r hmem
      clear hd hr
      obtain ⟨T, hT⟩ : ∃ T, T = l0.drop (j + 1) := ⟨_, rfl⟩
      have HT := Aside0.mk hT
      rw [← hT] at h1 h2 h3 h4
      clear hT hmem
      simp only [inL, outL, apL] at h1 h2 h3
      rcases knd_three hne with hk1 | hk1 | hk1
      · obtain ⟨hre, hp, he1, he2⟩ := run_eq hk1
        clear hk1 hne
        obtain ⟨a, b, d⟩ := r
        simp only at x0 x1 x2 h1 h2 h3 hp he1 he2
        subst he1 he2
        clear hre
        have hsz : (rest.extract 0 a.toNat).size = a.toNat := by rw [ext_size]; omega
        have haR : a ≤ (rest.size : Int) := by omega
        have ha0 : 0 ≤ a := by omega
        have hw : wrap64 a = a := w64 (by omega) (by omega)
        have HAC := Aside0.mk (show acc.size + (rest.extract 0 a.toNat).size ≤ 140737488355328 by rw [hsz]; omega)
        have PA := Aside0.mk (show (acc ++ rest.extract 0 a.toNat) ++ apL (l0.drop (j + 1)) (rest.extract a.toNat rest.size) = apL l0 s by
          rw [Int.add_zero, add_E] at h3
          rw [← HT.out, app_assoc]; exact h3)
        have PI := Aside0.mk (show inL (l0.drop (j + 1)) = ((rest.extract a.toNat rest.size).size : Int) by rw [← HT.out, ext_size]; omega)
        have PZ := Aside0.mk (show (rest.extract a.toNat rest.size).size ≤ s.size by rw [ext_size]; omega)
        have PO := Aside0.mk (show ((acc ++ rest.extract 0 a.toNat).size : Int) + outL (l0.drop (j + 1)) ≤ 16777216 by rw [← HT.out, size_add, hsz]; rw [E_size] at h2; omega)
        have hbx : (wr.alloc (.cells #[.int .i64 a, .string E, .int .i64 0] 37)).heap[wr.heap.size]? = some (rcs a E 0) := Own.heap_new _ _
        have HBX := Aside0.mk hbx
        clear h1 h2 h3 h4 hsz hbx hz
        go_wp2_with (first | (go_at_call 60; refine (write_c B0 B0 acc _ _ (Bl.alloc HBL.out _) HAC.out (by have := (Bl.lt HBL.out); simp; omega)).mono ?_; rintro e w3 ⟨rfl, hbl, hb, hk⟩; have HBL3 := Aside0.mk hbl; have HBB := Aside0.mk ((below_alloc HB.out (.cells #[.int .i64 a, .string E, .int .i64 0] 37)).trans (hb.mono HB0.out)); obtain ⟨y0, y1, y2⟩ := blk_cells (hk _ _ HBX.out (by have := (Bl.lt HBL.out); intro e; injection e; omega) (by intro c fz e; unfold rcs at e; injection e; contradiction)); clear hbl hb hk x0 x1 x2))
        go_roundw
        case rel => exact ⟨j + 1, _, _, by omega, rfl, by go_num, HBL3.out, PA.out, PI.out, PO.out, PZ.out, HBB.out⟩
        case measure => simp [intOf]; omega
      · obtain ⟨hre, hp, he1, he2⟩ := run_eq2 hk1
        clear hk1 hne
        obtain ⟨a, b, d⟩ := r
        simp only at x0 x1 x2 h1 h2 h3 hp he1 he2
        subst hp he2
        clear hre
        have HAC := Aside0.mk (show acc.size + b.size ≤ 140737488355328 by omega)
        have PA := Aside0.mk (show (acc ++ b) ++ apL (l0.drop (j + 1)) rest = apL l0 s by
          rw [show Int.toNat 0 = 0 from rfl, ext_none, E_add, show ((0 : Int) + 0).toNat = 0 from rfl, ext_all] at h3
          rw [← HT.out, app_assoc]; exact h3)
        have PI := Aside0.mk (show inL (l0.drop (j + 1)) = (rest.size : Int) by rw [← HT.out]; omega)
        have PZ := Aside0.mk hz
        have PO := Aside0.mk (show ((acc ++ b).size : Int) + outL (l0.drop (j + 1)) ≤ 16777216 by rw [← HT.out, size_add]; omega)
        clear h1 h2 h3 h4 hz
        go_wp2_with (first | (go_at_call 60; refine (write_c B0 B0 acc _ _ (Bl.alloc HBL.out _) HAC.out (by have := (Bl.lt HBL.out); simp; omega)).mono ?_; rintro e w3 ⟨rfl, hbl, hb, hk⟩; have HBL3 := Aside0.mk hbl; have HBB := Aside0.mk ((below_alloc HB.out (.cells #[.int .i64 0, .string b, .int .i64 0] 37)).trans (hb.mono HB0.out)); clear hbl hb hk x0 x1 x2))
        go_roundw
        case rel => exact ⟨j + 1, _, _, by omega, rfl, by go_num, HBL3.out, PA.out, PI.out, PO.out, PZ.out, HBB.out⟩
        case measure => simp [intOf]; omega
      · obtain ⟨hre, hp, he1, he2⟩ := run_eq3 hk1
        clear hk1 hne
        obtain ⟨a, b, d⟩ := r
        simp only at x0 x1 x2 h1 h2 h3 hp he1 he2
        subst hp he1
        clear hre
        have hdR : d ≤ (rest.size : Int) := by omega
        have hd0 : 0 ≤ d := by omega
        have hw : wrap64 d = d := w64 (by omega) (by omega)
        have PA := Aside0.mk (show acc ++ apL (l0.drop (j + 1)) (rest.extract d.toNat rest.size) = apL l0 s by
          rw [show Int.toNat 0 = 0 from rfl, ext_none, E_add, E_add, Int.zero_add] at h3
          rw [← HT.out]; exact h3)
        have PI := Aside0.mk (show inL (l0.drop (j + 1)) = ((rest.extract d.toNat rest.size).size : Int) by rw [← HT.out, ext_size]; omega)
        have PZ := Aside0.mk (show (rest.extract d.toNat rest.size).size ≤ s.size by rw [ext_size]; omega)
        have PO := Aside0.mk (show (acc.size : Int) + outL (l0.drop (j + 1)) ≤ 16777216 by rw [← HT.out]; rw [E_size] at h2; omega)
        clear h1 h2 h3 h4 hz
        go_wp2_with fail
        go_roundw
        case rel => exact ⟨j + 1, _, _, by omega, rfl, by go_num, Bl.alloc HBL.out _, PA.out, PI.out, PO.out, PZ.out, below_alloc HB.out _⟩
        case measure => simp [intOf]; omega
    · obtain rfl : j = l0.length := by omega
      have h3 := HA.out
      rw [List.drop_length] at h3
      have HE := Aside0.mk (show acc = apL l0 s by rw [← h3]; exact (add_E _).symm)
      clear h3
      have hlt' : ¬ ((l0.length : Int) < (l0.length : Int)) := by omega
      go_wp2_with (first | (go_at_call 61; refine (text_c B0 B0 acc _ HBL.out (by have := (Bl.lt HBL.out); omega)).mono ?_; rintro e w3 ⟨rfl, hb⟩; have HBB := Aside0.mk (HB.out.trans (hb.mono HB0.out)); clear hb))
      go_ret2
      exact ⟨by rw [HE.out]; rfl, HBB.out⟩
def app (l : List Rn) (s : ByteArray) : ByteArray × Int := if fitsL l s.size = true then (apL l s, 0) else (E, 60)
theorem apply_c (A0 : Option Addr) (c0 : Nat) (l0 : List Rn) (s : ByteArray) (w : World) (h : Kd.C k37 w A0 l0.length l0) (hc : l0.length ≤ c0) (hl : l0.length ≤ 140737488351232) (hs : s.size ≤ 140737488351232) :
    Calls Try.prog 39 #[.slice A0 l0.length c0, .string s] w fun e w' => e = .returned (.tuple #[.string (app l0 s).1, .int .i64 (app l0 s).2]) ∧ Below w.heap.size w w' := by
  unfold app
  by_cases hf : fitsL l0 s.size = true
  · rw [if_pos hf]; exact apply_yes A0 c0 l0 s w h hc hl hs hf
  · rw [if_neg hf]; exact apply_no A0 c0 l0 s w h hc hl hs (by simpa using hf)
end Go.Proofs.Ythocalfgeaclgaa.RunA
end
-- MERGED YthocalfgeaclgaaRunL
section
/- The plain law of edits done: the edit of any runs makes what the runs make; what undoes an edit gives the text again. -/
namespace Go.Proofs.Ythocalfgeaclgaa.RunL
open Go.RowKit Go.Proofs.Ythocalfgeaclgaa.P Go.Proofs.Ythocalfgeaclgaa.EditL Go.Proofs.Ythocalfgeaclgaa.EditK Go.Proofs.Ythocalfgeaclgaa.EditG Go.Proofs.Ythocalfgeaclgaa.RunA
set_option linter.unusedSimpArgs false
set_option linter.unusedVariables false

def L (s : ByteArray) : List UInt8 := s.data.toList
theorem L_len (s : ByteArray) : (L s).length = s.size := by unfold L; rw [Array.length_toList]; rfl
theorem L_app (a b : ByteArray) : L (a ++ b) = L a ++ L b := by unfold L; rw [ByteArray.data_append, Array.toList_append]
theorem L_cut (s : ByteArray) (a b : Nat) : L (s.extract a b) = ((L s).drop a).take (b - a) := by unfold L; rw [ByteArray.data_extract, Array.toList_extract, List.extract_eq_take_drop]
theorem L_take (s : ByteArray) (n : Nat) : L (s.extract 0 n) = (L s).take n := by rw [L_cut]; simp
theorem L_drop (s : ByteArray) (n : Nat) : L (s.extract n s.size) = (L s).drop n := by
  rw [L_cut, List.take_of_length_le]; rw [List.length_drop, L_len]; omega
theorem L_inj {a b : ByteArray} (h : L a = L b) : a = b := by
  apply ByteArray.ext
  exact Array.toList_inj.1 h
theorem L_E : L E = [] := rfl
theorem L_nil {a : ByteArray} (h : a.size = 0) : L a = [] := List.eq_nil_of_length_eq_zero (by rw [L_len]; exact h)
/-- What runs make of bytes. -/
def apW : List Rn → List UInt8 → List UInt8
  | [], _ => []
  | r :: l, w => (w.take r.f0.toNat ++ L r.f1) ++ apW l (w.drop (r.f0 + r.f2).toNat)
theorem apW_eq (l : List Rn) : ∀ s : ByteArray, L (apL l s) = apW l (L s) := by
  induction l with
  | nil => intro s; rfl
  | cons r l ih =>
    intro s
    simp only [apL, apW]
    rw [L_app, L_app, L_take, ih, L_drop]
def nn (r : Rn) : Prop := 0 ≤ r.f0 ∧ 0 ≤ r.f2
theorem sums_nn {l : List Rn} (h : ∀ r ∈ l, nn r) : 0 ≤ inL l ∧ 0 ≤ outL l := by
  induction l with
  | nil => exact ⟨Int.le_refl _, Int.le_refl _⟩
  | cons r l ih =>
    have h1 := h r List.mem_cons_self
    have h2 := ih fun x hx => h x (List.mem_cons_of_mem _ hx)
    unfold nn at h1
    simp only [inL, outL]
    omega
theorem apW_len (l : List Rn) : ∀ w : List UInt8, (∀ r ∈ l, nn r) → inL l = (w.length : Int) → ((apW l w).length : Int) = outL l := by
  induction l with
  | nil => intro w _ _; rfl
  | cons r l ih =>
    intro w h hi
    have h1 := h r List.mem_cons_self
    have h2 : ∀ x ∈ l, nn x := fun x hx => h x (List.mem_cons_of_mem _ hx)
    have h3 := sums_nn h2
    unfold nn at h1
    simp only [inL] at hi
    simp only [outL, apW]
    rw [List.length_append, List.length_append, List.length_take, L_len]
    have := ih (w.drop (r.f0 + r.f2).toNat) h2 (by rw [List.length_drop]; omega)
    omega
theorem ap_keep {k : Int} (hk : 0 ≤ k) (m : List Rn) (w : List UInt8) : apW ((if 0 < k then [⟨k, E, 0⟩] else []) ++ m) w = w.take k.toNat ++ apW m (w.drop k.toNat) := by
  by_cases h : 0 < k
  · rw [if_pos h]
    show (w.take k.toNat ++ L E) ++ apW m (w.drop (k + 0).toNat) = _
    rw [L_E, List.append_nil, Int.add_zero]
  · obtain rfl : k = 0 := by omega
    rw [if_neg h]; rfl
theorem ap_add (a : ByteArray) (m : List Rn) (w : List UInt8) : apW ((if a.size ≠ 0 then [⟨0, a, 0⟩] else []) ++ m) w = L a ++ apW m w := by
  by_cases h : a.size = 0
  · rw [if_neg (fun e => e h), L_nil h]; rfl
  · rw [if_pos h]; rfl
theorem ap_drop {d : Int} (hd : 0 ≤ d) (m : List Rn) (w : List UInt8) : apW ((if 0 < d then [⟨0, E, d⟩] else []) ++ m) w = apW m (w.drop d.toNat) := by
  by_cases h : 0 < d
  · rw [if_pos h]
    show (w.take (0 : Int).toNat ++ L E) ++ apW m (w.drop (0 + d).toNat) = _
    rw [L_E, List.append_nil, Int.zero_add]; rfl
  · obtain rfl : d = 0 := by omega
    rw [if_neg h]; rfl
theorem ap_fl {k d : Int} (hk : 0 ≤ k) (hd : 0 ≤ d) (a : ByteArray) (m : List Rn) (w : List UInt8) : apW (fl k a d ++ m) w = apW (⟨k, a, d⟩ :: m) w := by
  unfold fl
  rw [List.append_assoc, List.append_assoc, ap_keep hk, ap_add, ap_drop hd, List.drop_drop]
  show _ = (w.take k.toNat ++ L a) ++ apW m (w.drop (k + d).toNat)
  rw [List.append_assoc, show (k + d).toNat = k.toNat + d.toNat by omega]
theorem ap_jn (l : List Rn) (h : ∀ r ∈ l, knd r ≠ 0) : ∀ (k : Int) (a : ByteArray) (d : Int) (w : List UInt8), 0 ≤ k → 0 ≤ d → apW (jn l k a d) w = apW (⟨k, a, d⟩ :: l) w := by
  induction l with
  | nil =>
    intro k a d w hk hd
    show apW (fl k a d) w = _
    rw [← ap_fl hk hd a [] w, List.append_nil]
  | cons r l ih =>
    intro k a d w hk hd
    have ih := ih fun x hx => h x (List.mem_cons_of_mem _ hx)
    have hr := h r List.mem_cons_self
    have hp := knd_pos hr
    by_cases hf : knd r = 1 ∧ (a.size ≠ 0 ∨ 0 < d)
    · rw [jn_flush hf.1 hf.2, ap_fl hk hd]
      show (w.take k.toNat ++ L a) ++ apW (jn l r.f0 r.f1 r.f2) _ = (w.take k.toNat ++ L a) ++ apW (r :: l) _
      rw [ih _ _ _ _ hp.1 hp.2]
    · rw [jn_on hf, ih _ _ _ _ (by omega) (by omega)]
      show (w.take (k + r.f0).toNat ++ L (a ++ r.f1)) ++ apW l (w.drop ((k + r.f0) + (d + r.f2)).toNat) = (w.take k.toNat ++ L a) ++ (((w.drop (k + d).toNat).take r.f0.toNat ++ L r.f1) ++ apW l ((w.drop (k + d).toNat).drop (r.f0 + r.f2).toNat))
      rw [List.drop_drop, show (k + d).toNat + (r.f0 + r.f2).toNat = ((k + r.f0) + (d + r.f2)).toNat by omega, L_app]
      by_cases h1 : knd r = 1
      · obtain ⟨_, _, e1, e2⟩ := run_eq h1
        have ha : a.size = 0 ∧ d = 0 := by
          refine ⟨Classical.byContradiction fun e => hf ⟨h1, .inl e⟩, ?_⟩
          have : ¬ 0 < d := fun e => hf ⟨h1, .inr e⟩
          omega
        rw [L_nil ha.1, e1, L_E, ha.2, Int.add_zero, List.append_nil, List.append_nil, List.append_nil, List.append_nil, show (k + r.f0).toNat = k.toNat + r.f0.toNat by omega, List.take_add, List.append_assoc]
      · have e0 : r.f0 = 0 := by
          rcases knd_three hr with h2 | h2 | h2
          · exact absurd h2 h1
          · exact (run_eq2 h2).2.1
          · exact (run_eq3 h2).2.1
        rw [e0, Int.add_zero, show Int.toNat 0 = 0 from rfl, List.take_zero, List.nil_append, List.append_assoc, List.append_assoc, List.append_assoc]
/-- A run that is right, or nothing. -/
def plain (r : Rn) : Prop := knd r ≠ 0 ∨ (r.f0 = 0 ∧ r.f1.size = 0 ∧ r.f2 = 0)
theorem plain_keep {k : Int} (h : 0 ≤ k) : plain ⟨k, E, 0⟩ := by
  by_cases h1 : 0 < k
  · exact .inl (by rw [knd_keep h1]; decide)
  · exact .inr ⟨by show k = 0; omega, rfl, rfl⟩
theorem plain_add (a : ByteArray) : plain ⟨0, a, 0⟩ := by
  by_cases h : a.size = 0
  · exact .inr ⟨rfl, h, rfl⟩
  · exact .inl (by rw [knd_add h]; decide)
theorem plain_drop {d : Int} (h : 0 ≤ d) : plain ⟨0, E, d⟩ := by
  by_cases h1 : 0 < d
  · exact .inl (by rw [knd_drop h1]; decide)
  · exact .inr ⟨rfl, rfl, by show d = 0; omega⟩
theorem sums_fine {l : List Rn} (h : ∀ r ∈ l, plain r) : inL (fine l) = inL l ∧ outL (fine l) = outL l := by
  induction l with
  | nil => exact ⟨rfl, rfl⟩
  | cons r l ih =>
    have h1 := ih fun x hx => h x (List.mem_cons_of_mem _ hx)
    have h2 := h r List.mem_cons_self
    rw [fine_cons]
    by_cases c : knd r = 0
    · rw [if_neg (fun h => h c)]
      rcases h2 with h2 | h2
      · exact absurd c h2
      · simp only [inL, outL]; omega
    · rw [if_pos c]
      simp only [inL, outL]; omega
theorem ap_fine {l : List Rn} (h : ∀ r ∈ l, plain r) : ∀ w, apW (fine l) w = apW l w := by
  induction l with
  | nil => intro w; rfl
  | cons r l ih =>
    intro w
    have h1 := ih fun x hx => h x (List.mem_cons_of_mem _ hx)
    have h2 := h r List.mem_cons_self
    rw [fine_cons]
    by_cases c : knd r = 0
    · rw [if_neg (fun h => h c)]
      rcases h2 with h2 | ⟨e0, e1, e2⟩
      · exact absurd c h2
      · simp only [apW]
        rw [e0, e2, L_nil e1, h1]; rfl
    · rw [if_pos c]
      simp only [apW]
      rw [h1]
structure Normed (l : List Rn) (m : List Rn) : Prop where
  good : good m = true
  i : inL m = inL l
  o : outL m = outL l
  ap : ∀ w, apW m w = apW l w
  len : m.length ≤ 3 * l.length + 3
theorem norm_ok {l : List Rn} (h : ∀ r ∈ l, plain r) (hi : inL l ≤ 16777216) (ho : outL l ≤ 16777216) (hl : 3 * l.length + 3 ≤ 65536) : Normed l (norm l) := by
  have h1 := sums_fine h
  have hf : fits (fine l) 0 0 = true := (fits_iff (fine_ok l) 0 0 (by decide) (by decide)).2 (by omega)
  have h2 := norm_sums (l := l) hf hl
  refine ⟨h2.1, h2.2.1.trans h1.1, h2.2.2.trans h1.2, fun w => ?_, ?_⟩
  · rw [(norm_fits hf hl).1]
    unfold out
    rw [ap_jn _ (fine_ok l) _ _ _ _ (Int.le_refl _) (Int.le_refl _)]
    show (w.take (0 : Int).toNat ++ L E) ++ apW (fine l) (w.drop (0 + 0 : Int).toNat) = _
    exact ap_fine h w
  · rw [(norm_fits hf hl).1]; exact out_len l
/-- What undoes runs. -/
def backL : List Rn → ByteArray → List Rn
  | [], _ => []
  | r :: l, s => [⟨r.f0, E, 0⟩, ⟨0, E, (r.f1.size : Int)⟩, ⟨0, s.extract r.f0.toNat (r.f0 + r.f2).toNat, 0⟩] ++ backL l (s.extract (r.f0 + r.f2).toNat s.size)
theorem back_len (l : List Rn) : ∀ s, (backL l s).length = 3 * l.length := by
  induction l with
  | nil => intro s; rfl
  | cons r l ih => intro s; simp only [backL]; rw [List.length_append, ih]; simp; omega
theorem back_in (l : List Rn) : ∀ s, inL (backL l s) = outL l := by
  induction l with
  | nil => intro s; rfl
  | cons r l ih =>
    intro s
    simp only [backL, outL]
    rw [inL_append, ih]
    simp only [inL]; omega
theorem back_out (l : List Rn) : ∀ s : ByteArray, (∀ r ∈ l, nn r) → inL l = (s.size : Int) → outL (backL l s) = inL l := by
  induction l with
  | nil => intro s _ _; rfl
  | cons r l ih =>
    intro s h hi
    have h1 := h r List.mem_cons_self
    have h2 : ∀ x ∈ l, nn x := fun x hx => h x (List.mem_cons_of_mem _ hx)
    have h3 := sums_nn h2
    unfold nn at h1
    simp only [inL] at hi
    simp only [backL, inL]
    rw [outL_append, ih _ h2 (by rw [ext_size]; omega)]
    simp only [outL]
    rw [ext_size, E_size]
    omega
theorem back_plain (l : List Rn) : ∀ s : ByteArray, (∀ r ∈ l, nn r) → ∀ r ∈ backL l s, plain r := by
  induction l with
  | nil => intro s _ r hr; cases hr
  | cons r l ih =>
    intro s h x hx
    simp only [backL] at hx
    rcases List.mem_append.1 hx with hx | hx
    · simp only [List.mem_cons, List.not_mem_nil, or_false] at hx
      rcases hx with rfl | rfl | rfl
      · exact plain_keep (h r List.mem_cons_self).1
      · exact plain_drop (by omega)
      · exact plain_add _
    · exact ih _ (fun x hx => h x (List.mem_cons_of_mem _ hx)) x hx
theorem back_ap (l : List Rn) : ∀ s : ByteArray, (∀ r ∈ l, nn r) → inL l = (s.size : Int) → apW (backL l s) (apW l (L s)) = L s := by
  induction l with
  | nil =>
    intro s _ hi
    exact (L_nil (by have : (0 : Int) = (s.size : Int) := hi; omega)).symm
  | cons r l ih =>
    intro s h hi
    have h1 := h r List.mem_cons_self
    have h2 : ∀ x ∈ l, nn x := fun x hx => h x (List.mem_cons_of_mem _ hx)
    have h3 := sums_nn h2
    unfold nn at h1
    simp only [inL] at hi
    have hl := L_len s
    have e := ih (s.extract (r.f0 + r.f2).toNat s.size) h2 (by rw [ext_size]; omega)
    rw [L_drop] at e
    have ha : r.f0.toNat ≤ (L s).length := by omega
    show (((((L s).take r.f0.toNat ++ L r.f1) ++ apW l ((L s).drop (r.f0 + r.f2).toNat)).take r.f0.toNat ++ L E) ++ apW ([⟨0, E, (r.f1.size : Int)⟩, ⟨0, s.extract r.f0.toNat (r.f0 + r.f2).toNat, 0⟩] ++ backL l (s.extract (r.f0 + r.f2).toNat s.size)) ((((L s).take r.f0.toNat ++ L r.f1) ++ apW l ((L s).drop (r.f0 + r.f2).toNat)).drop (r.f0 + 0).toNat)) = L s
    rw [Int.add_zero, L_E, List.append_nil, List.append_assoc, List.take_append_of_le_length (by rw [List.length_take]; omega), List.take_take, Nat.min_self, List.drop_append_of_le_length (by rw [List.length_take]; omega), List.drop_eq_nil_of_le (by rw [List.length_take]; omega), List.nil_append]
    generalize hV : apW l ((L s).drop (r.f0 + r.f2).toNat) = V at e ⊢
    show _ ++ (((L r.f1 ++ V).take (0 : Int).toNat ++ L E) ++ (((((L r.f1 ++ V).drop (0 + (r.f1.size : Int)).toNat).take (0 : Int).toNat) ++ L (s.extract r.f0.toNat (r.f0 + r.f2).toNat)) ++ apW (backL l (s.extract (r.f0 + r.f2).toNat s.size)) (((L r.f1 ++ V).drop (0 + (r.f1.size : Int)).toNat).drop ((0 : Int) + 0).toNat))) = L s
    rw [show (0 : Int).toNat = 0 from rfl, show ((0 : Int) + 0).toNat = 0 from rfl, List.take_zero, List.take_zero, List.drop_zero, L_E, List.nil_append, List.nil_append, Int.zero_add, Int.toNat_natCast, ← L_len r.f1, List.drop_left, e, L_cut]
    rw [show (r.f0 + r.f2).toNat = r.f0.toNat + ((r.f0 + r.f2).toNat - r.f0.toNat) by omega, ← List.drop_drop, Nat.add_sub_cancel_left, List.nil_append, List.take_append_drop, List.take_append_drop]
theorem nn_good {l : List Rn} (h : good l = true) : ∀ r ∈ l, nn r := fun r hr => knd_pos ((good_ok h).2.2.2 r hr)
theorem sums_good {l : List Rn} (h : good l = true) : 0 ≤ inL l ∧ inL l ≤ 16777216 ∧ 0 ≤ outL l ∧ outL l ≤ 16777216 := by
  obtain ⟨_, _, h2, h3⟩ := good_ok h
  have h4 := (fits_iff h3 0 0 (by decide) (by decide)).1 h2
  have h5 := inL_nonneg h3
  omega
theorem ap_size {l : List Rn} (h : good l = true) {s : ByteArray} (hi : inL l = (s.size : Int)) : ((apL l s).size : Int) = outL l := by
  rw [← L_len, apW_eq]
  exact apW_len l (L s) (nn_good h) (by rw [L_len]; exact hi)
/-- What undoes an edit is an edit of what it makes, and gives the text again. -/
theorem undo {l : List Rn} (h : good l = true) {s : ByteArray} (hi : inL l = (s.size : Int)) (hl : l.length ≤ 5000) :
    Normed (backL l s) (norm (backL l s)) ∧ inL (norm (backL l s)) = ((apL l s).size : Int) ∧ apL (norm (backL l s)) (apL l s) = s := by
  have hn := nn_good h
  have hs := sums_good h
  have ho := back_out l s hn hi
  have hN : Normed (backL l s) (norm (backL l s)) := norm_ok (back_plain l s hn) (by rw [back_in]; omega) (by rw [ho]; omega) (by rw [back_len]; omega)
  refine ⟨hN, by rw [hN.i, back_in, ap_size h hi], L_inj ?_⟩
  rw [apW_eq, hN.ap, apW_eq, back_ap l s hn hi]
end Go.Proofs.Ythocalfgeaclgaa.RunL
end
-- MERGED YthocalfgeaclgaaEditH1
section
/- What the reference's Good, In and Out come to. -/
namespace Go.Proofs.Ythocalfgeaclgaa.EditH1
open Go.RowKit Go.Proofs.Ythocalfgeaclgaa.P Go.Proofs.YthocalfgeaclgaaW.PrintWords Go.Proofs.YthocalfgeaclgaaW.PrintLast Go.Proofs.YthocalfgeaclgaaW.PrintMore Go.Proofs.Ythocalfgeaclgaa.EditL Go.Proofs.Ythocalfgeaclgaa.EditK Go.Proofs.Ythocalfgeaclgaa.EditF Go.Proofs.Ythocalfgeaclgaa.EditG
set_option linter.unusedSimpArgs false
set_option linter.unusedVariables false

theorem rgood_f {l : List Rn} (hb : l.length ≤ 140737488351232) : variorumref06_Good.f l = some (good l) := by unfold variorumref06_Good.f; rw [if_pos hb]
theorem rin_f {l : List Rn} (hb : l.length ≤ 140737488351232) (k : Nat) (hk : l.length < k) : variorumref06_In.f k l = some (if good l then inL l else 0) := by
  unfold variorumref06_In.f
  rw [rgood_f hb, Option.bind_some]
  cases h : good l with
  | false => rfl
  | true =>
    obtain ⟨_, _, h2, h3⟩ := good_ok h
    rw [if_pos rfl, rsums_f hb h3 k hk, Option.bind_some, h2]; rfl
theorem rout_f {l : List Rn} (hb : l.length ≤ 140737488351232) (k : Nat) (hk : l.length < k) : variorumref06_Out.f k l = some (if good l then outL l else 0) := by
  unfold variorumref06_Out.f
  rw [rgood_f hb, Option.bind_some]
  cases h : good l with
  | false => rfl
  | true =>
    obtain ⟨_, _, h2, h3⟩ := good_ok h
    rw [if_pos rfl, rsums_f hb h3 k hk, Option.bind_some, h2]; rfl
end Go.Proofs.Ythocalfgeaclgaa.EditH1
end
-- MERGED YthocalfgeaclgaaSameF
section
/- Whether two rows of runs are the same (the reference's). -/
namespace Go.Proofs.Ythocalfgeaclgaa.SameF
open Go.RowKit Go.Proofs.Ythocalfgeaclgaa.P Go.Proofs.YthocalfgeaclgaaW.PrintWords Go.Proofs.YthocalfgeaclgaaW.PrintLast Go.Proofs.YthocalfgeaclgaaW.PrintMore Go.Proofs.Ythocalfgeaclgaa.EditL Go.Proofs.Ythocalfgeaclgaa.EditK
set_option linter.unusedSimpArgs false
set_option linter.unusedVariables false

theorem tl_inj {a b : ByteArray} (h : a.toList = b.toList) : a = b := by
  rw [ByteArray.toList_eq, ByteArray.toList_eq] at h
  obtain ⟨⟨x⟩⟩ := a
  obtain ⟨⟨y⟩⟩ := b
  have : x = y := h
  rw [this]
theorem run_ne {x y : Rn} : (!(x.f0 == y.f0) || (!(x.f1.toList == y.f1.toList) || (!(x.f2 == y.f2)))) = true ↔ x ≠ y := by
  rw [Bool.or_eq_true, Bool.or_eq_true, Bool.not_eq_true', Bool.not_eq_true', Bool.not_eq_true', beq_eq_false_iff_ne, beq_eq_false_iff_ne, beq_eq_false_iff_ne]
  obtain ⟨a, b, c⟩ := x
  obtain ⟨a', b', c'⟩ := y
  simp only
  constructor
  · rintro h e
    injection e with e1 e2 e3
    subst e1; subst e2; subst e3
    rcases h with h | h | h <;> exact h rfl
  · intro h
    by_cases h1 : a = a'
    · by_cases h3 : c = c'
      · refine .inr (.inl fun e => h ?_)
        rw [h1, h3, tl_inj e]
      · exact .inr (.inr h3)
    · exact .inl h1
theorem same_l (x y : List Rn) (hx : x.length ≤ 140737488351232) : ∀ (s t pre pre' : List Rn) (k : Nat), x = pre ++ s → y = pre' ++ t → pre.length = pre'.length → s.length = t.length → s.length < k →
    ∃ b, variorumref06_Same.l0 k x y (pre.length : Int) = some b ∧ (b = true ↔ s = t) := by
  intro s
  induction s with
  | nil =>
    intro t pre pre' k hxe hye hpp hst hk
    obtain ⟨k, rfl⟩ : ∃ m, k = m + 1 := ⟨k - 1, by omega⟩
    obtain rfl : t = [] := List.eq_nil_of_length_eq_zero hst.symm
    have : x.length = pre.length := by rw [hxe]; simp
    simp only [variorumref06_Same.l0]
    rw [if_neg (by omega)]
    exact ⟨true, rfl, by simp⟩
  | cons r s ih =>
    intro t pre pre' k hxe hye hpp hst hk
    obtain ⟨k, rfl⟩ : ∃ m, k = m + 1 := ⟨k - 1, by omega⟩
    cases t with
    | nil => simp at hst
    | cons q t =>
      obtain ⟨hl2, hn, hlt⟩ := snoc hxe
      obtain ⟨hl2', hn', hlt'⟩ := snoc hye
      obtain ⟨b, hb, hb2⟩ := ih t (pre ++ [r]) (pre' ++ [q]) k hl2 hl2' (by simp [hpp]) (by simpa using hst) (by simp at hk; omega)
      rw [hn] at hb
      simp only [variorumref06_Same.l0]
      rw [if_pos hlt, if_pos (by omega), if_pos (by omega), rd_at hxe, w64 (x := (pre.length : Int) + 1) (by omega) (by omega), hb]
      have e2 : rd_T37 y (pre.length : Int) = q := by rw [hpp]; exact rd_at hye
      rw [e2]
      by_cases h : r = q
      · rw [if_neg (fun h2 => run_ne.1 h2 h)]
        exact ⟨b, rfl, by rw [hb2]; simp [h]⟩
      · rw [if_pos (run_ne.2 h)]
        exact ⟨false, rfl, by simp [h]⟩
theorem same_f {x y : List Rn} (hx : x.length ≤ 140737488351232) (k : Nat) (hk : x.length < k) : ∃ b, variorumref06_Same.f k x y = some b ∧ (b = true ↔ x = y) := by
  unfold variorumref06_Same.f
  by_cases h : x.length = y.length
  · rw [if_pos (by omega)]
    exact same_l x y hx x y [] [] k rfl rfl rfl h hk
  · rw [if_neg (by omega)]
    exact ⟨false, rfl, by simp; intro e; exact h (by rw [e])⟩
theorem same_eq (x : List Rn) (hx : x.length ≤ 140737488351232) (k : Nat) (hk : x.length < k) : variorumref06_Same.f k x x = some true := by
  obtain ⟨b, h1, h2⟩ := same_f (y := x) hx k hk
  rw [h1, h2.2 rfl]
end Go.Proofs.Ythocalfgeaclgaa.SameF
end
-- MERGED YthocalfgeaclgaaPeditNorm
section
-- Written by wip/myprint.py of this session, over the kit's print.py: a Lean function for each Go function, and the proof that the code comes to it.
namespace Go.Proofs.Ythocalfgeaclgaa.P
open Go.RowKit Go.Proofs.YthocalfgeaclgaaW.PrintWords Go.Proofs.YthocalfgeaclgaaW.PrintLast Go.Proofs.YthocalfgeaclgaaW.PrintMore
attribute [local go_sem] max2_int min2_int max_two min_two max_three min_three max_four min_four   -- for this text's walks alone
set_option linter.unusedVariables false
set_option linter.unusedSimpArgs false

/-! ### edit_Norm: function 23 -/
-- NEEDS Derived.Test.YthocalfgeaclgaaEditN
def edit_Norm.f (l0 : List (S37)) : Option (List (S37)) := if l0.length ≤ 4000000 then some (EditL.norm l0) else none
theorem edit_Norm.calls (A0 : Option Addr) (c0 : Nat) (l0 : List (S37)) (r : List (S37)) (w : World) (hr0 : Kd.C k37 w A0 l0.length l0) (hc0 : l0.length ≤ c0) (h : edit_Norm.f l0 = some r) :
    Calls Try.prog 23 #[.slice A0 l0.length c0] w fun e w' => ∃ v0_ : Value, e = .returned (v0_) ∧ Kd.R k37 37 w' w.heap.size (fun _ => True) v0_ r ∧ Below w.heap.size w w' := by
  unfold edit_Norm.f at h
  by_cases hl : l0.length ≤ 4000000
  · rw [if_pos hl] at h
    obtain rfl := Option.some.inj h
    exact EditN.norm_c A0 c0 l0 w hr0 hc0 hl
  · rw [if_neg hl] at h; cases h

end Go.Proofs.Ythocalfgeaclgaa.P
end
-- MERGED YthocalfgeaclgaaPrunBack
section
-- Written by wip/myprint.py of this session, over the kit's print.py: a Lean function for each Go function, and the proof that the code comes to it.
namespace Go.Proofs.Ythocalfgeaclgaa.P
open Go.RowKit Go.Proofs.YthocalfgeaclgaaW.PrintWords Go.Proofs.YthocalfgeaclgaaW.PrintLast Go.Proofs.YthocalfgeaclgaaW.PrintMore
attribute [local go_sem] max2_int min2_int max_two min_two max_three min_three max_four min_four   -- for this text's walks alone
set_option linter.unusedVariables false
set_option linter.unusedSimpArgs false

/-! ### run_Back: function 48 -/
def run_Back.l0 : Nat → ByteArray → List (S37) → List (S37) → Int → Int → Option ((List (S37)) × Int)
  | 0, _, _, _, _, _ => none
  | k + 1, x1, x6, x14, x15, x16 => if x16 < x15 then (if 0 ≤ x16 then (if x16 < (x14.length : Int) then (if 0 ≤ ((rd_T37 x14 x16).f0) then (if ((rd_T37 x14 x16).f0) ≤ (wrap64 (((rd_T37 x14 x16).f0) + ((rd_T37 x14 x16).f2))) then (if (wrap64 (((rd_T37 x14 x16).f0) + ((rd_T37 x14 x16).f2))) ≤ (x1.size : Int) then ((some (([(⟨(rd_T37 x14 x16).f0, (⟨#[]⟩ : ByteArray), 0⟩ : S37), (⟨0, (⟨#[]⟩ : ByteArray), (((rd_T37 x14 x16).f1).size : Int)⟩ : S37), (⟨0, x1.extract (((rd_T37 x14 x16).f0) : Int).toNat ((wrap64 (((rd_T37 x14 x16).f0) + ((rd_T37 x14 x16).f2))) : Int).toNat, 0⟩ : S37)] : List (S37)) : List (S37))).bind fun y578 => (if x6.length + y578.length < 4398046511104 then (if 0 ≤ (wrap64 (((rd_T37 x14 x16).f0) + ((rd_T37 x14 x16).f2))) then (run_Back.l0 k (x1.extract ((wrap64 (((rd_T37 x14 x16).f0) + ((rd_T37 x14 x16).f2))) : Int).toNat x1.size) (x6 ++ y578) x14 x15 (wrap64 (x16 + 1))) else (none)) else (none))) else (none)) else (none)) else (none)) else (none)) else (none)) else ((edit_Norm.f x6).bind fun t584 => (some (t584, 0)))
def run_Back.f (k : Nat) (l0 : List (S37)) (a1 : ByteArray) : Option ((List (S37)) × Int) := (run_fits.f k l0 (a1.size : Int)).bind fun t575 => (if t575 = true then (run_Back.l0 k a1 ([] : List (S37)) l0 (l0.length : Int) 0) else (some (([] : List (S37)), 60)))
theorem run_Back.mono_l : ∀ k, (∀ y0 y1 y2 y3 y4, LeO (run_Back.l0 k y0 y1 y2 y3 y4) (run_Back.l0 (k + 1) y0 y1 y2 y3 y4))
  | 0 => fun _ _ _ _ _ r h => by simp [run_Back.l0] at h
  | k + 1 => by
    have ih0 := run_Back.mono_l k
    · intro y0 y1 y2 y3 y4
      unfold run_Back.l0
      repeat' first
      | (with_reducible exact ih0 _ _ _ _ _)
      | (with_reducible exact run_fits.mono _ _ _)
      | (with_reducible exact LeO.refl _)
      | (with_reducible exact LeO.none _)
      | (with_reducible refine LeO.ite ?_ ?_)
      | (with_reducible refine LeO.bind ?_ (fun _ => ?_))
      | exact ih0 _ _ _ _ _
      | exact run_fits.mono _ _ _
      | exact LeO.none _
      | refine LeO.ite ?_ ?_
      | refine LeO.bind ?_ (fun _ => ?_)
theorem run_Back.mono : ∀ a0 a1 k, LeO (run_Back.f k a0 a1) (run_Back.f (k + 1) a0 a1) := by
  intro a0 a1 k
  have ih0 := run_Back.mono_l k
  unfold run_Back.f
  repeat' first
      | (with_reducible exact ih0 _ _ _ _ _)
      | (with_reducible exact run_fits.mono _ _ _)
      | (with_reducible exact LeO.refl _)
      | (with_reducible exact LeO.none _)
      | (with_reducible refine LeO.ite ?_ ?_)
      | (with_reducible refine LeO.bind ?_ (fun _ => ?_))
      | exact ih0 _ _ _ _ _
      | exact run_fits.mono _ _ _
      | exact LeO.none _
      | refine LeO.ite ?_ ?_
      | refine LeO.bind ?_ (fun _ => ?_)
def run_Back.T7 : Bool × List (List Nat × List Nat) := (true, [([], []), ([], []), ([1], [1]), ([2], [2]), ([], []), ([4], [4]), ([5], [5]), ([6], [6]), ([], []), ([], []), ([9], [9]), ([], []), ([11], [11]), ([], []), ([13], [13]), ([12, 14], [12, 14]), ([8, 10, 15], [8, 10, 15]), ([16], [16]), ([3, 7, 17], [3, 7, 17]), ([0, 18], [0, 18]), ([19, 19, 0, 1, 2, 3, 4, 5, 6, 7, 8, 9, 10, 11, 12, 13, 14, 15, 16, 17, 18, 19], [0, 19])])
def run_Back.B7 : List Nat := [0, 0, 2, 6, 0, 16, 48, 112, 0, 0, 512, 0, 2048, 0, 8192, 30720, 65280, 130816, 262142, 524287, 1048575]
theorem run_Back.tab7 : rtab .any (opsOf Try.f48 7) = run_Back.T7 := by kernel_rfl
theorem run_Back.bits7 : waitsOk run_Back.T7.2 run_Back.B7 = true := by kernel_rfl
set_option maxHeartbeats 8000000 in
set_option maxRecDepth 100000 in
theorem run_Back.calls (k : Nat) (A0 : Option Addr) (c0 : Nat) (l0 : List (S37)) (a1 : ByteArray) (r1 : List (S37)) (r2 : Int) (w : World) (hr0 : Kd.C k37 w A0 l0.length l0) (hc0 : l0.length ≤ c0) (h : run_Back.f k l0 a1 = some (r1, r2)) :
    Calls Try.prog 48 #[.slice A0 l0.length c0, .string a1] w fun e w' => ∃ v0_ : Value, e = .returned (.tuple #[v0_, .int .i64 r2]) ∧ Kd.R k37 37 w' w.heap.size (fun _ => True) v0_ r1 ∧ Below w.heap.size w w' := by
  have hu37 := Try.underlying37
  have HR0 := Aside0.mk hr0
  have HC0 := Aside0.mk hc0
  clear hr0 hc0
  have HB := Aside0.mk (Below.refl w.heap.size w)
  have H : ((run_fits.f k l0 (a1.size : Int)).bind fun t575 => (if t575 = true then (run_Back.l0 k a1 ([] : List (S37)) l0 (l0.length : Int) 0) else (some (([] : List (S37)), 60)))) = some (r1, r2) := h
  clear h
  replace H := Option.bind_eq_some_iff.mp H
  obtain ⟨t575, A30, H⟩ := H
  replace H : (if t575 = true then (run_Back.l0 k a1 ([] : List (S37)) l0 (l0.length : Int) 0) else (some (([] : List (S37)), 60))) = some (r1, r2) := H
  have A3 := Aside0.mk A30
  clear A30
  by_cases c4 : t575 = true
  · subst c4
    have H1 : (run_Back.l0 k a1 ([] : List (S37)) l0 (l0.length : Int) 0) = some (r1, r2) := by rw [if_pos rfl] at H; exact H
    clear H
    have H := H1
    clear H1
    have H' := Aside0.mk H
    clear H
    go_enter Try.func48, Try.ntmps48
    go_wp2_with (first | ((with_reducible refine gate_callee (f := 59) rfl ?_); refine goesL_ (some 12) rfl rfl Try.func59 (by kernel_rfl) rfl #[.slice A0 l0.length c0, .int .i64 (a1.size : Int)] rfl (by (try simp only [List.map_toArray, List.map_cons, List.map_nil]); first | done | rfl | (simp only [List.length_drop, List.length_take]; rfl)) ?_; (with_reducible refine (run_fits.calls k _ _ l0 (a1.size : Int) true _ ?side1 ?side2 A3.out).mono ?_); (case side1 => repeat (first | exact HR0.out | (with_reducible refine Kd.C_alloc ?_ _) | (with_reducible refine Kd.C_drewN ?_ _) | (with_reducible refine Kd.C_drew ?_))); (case side2 => exact HC0.out); rintro e w5 ⟨rfl, hb⟩; refine ⟨_, rfl, ?_⟩; have n0_ := Aside0.mk (below_step (by repeat (first | (with_reducible first | exact HB.out | apply below_alloc | apply pw_below_drewN | apply below_drew1) | exact HB.out)) hb); clear HB; have HB := n0_; clear n0_; (try clear hb); (try clear hb2); (try clear hk); (try clear hi)))
    go_loopg [1, 6, 16] k (fun kq v1 v6 v16 w' => ∃ (x1_1 : ByteArray) (x6_1 : List (S37)) (x16_1 : Int), v1 = .string x1_1 ∧ v16 = .int .i64 x16_1 ∧ Aside0 (run_Back.l0 kq x1_1 x6_1 l0 (l0.length : Int) x16_1 = some (r1, r2)) ∧ Aside0 (kq ≤ k) ∧ Aside0 (Kd.R k37 37 w' w.heap.size (fun _ => True) v6 x6_1) ∧ Aside0 (Below w.heap.size w w'))
    case atStart => exact ⟨(a1), (([] : List (S37))), (0), (by first | rfl | (simp; done) | (simp [*]; done)), (by first | rfl | (simp; done) | (simp [*]; done)), H', ⟨Nat.le_refl _⟩, ⟨by first | exact Kd.R_nil _ _ _ _ _ | exact Kd.N_nil _ _ _ _ _ | exact Kd.V_nil _ _ _ _ _ | exact Kd.Q_nil _ _ _ _ _ | exact Kd.S_nil _ _ _ _ _⟩, ⟨by repeat (first | (with_reducible first | exact HB.out | apply below_alloc | apply pw_below_drewN | apply below_drew1) | exact HB.out)⟩⟩
    case round =>
      clear H'
      try clear p2
      try clear c4
      try clear c5
      obtain ⟨x1_1, x6_1, x16_1, rfl, rfl, HA, HK1, HO_6, HB⟩ := hrel
      cases gk with
      | zero => exact absurd HA.out (by simp [run_Back.l0])
      | succ k1 =>
        have H := HA.out
        clear HA
        simp only [run_Back.l0] at H
        by_cases c6 : x16_1 < (l0.length : Int)
        · rw [if_pos c6] at H
          have c6b0 : decide (x16_1 < (l0.length : Int)) = true := decide_eq_true c6
          clear c6
          by_cases c7 : 0 ≤ x16_1
          · rw [if_pos c7] at H
            have c7b0 : decide (0 ≤ x16_1) = true := decide_eq_true c7
            clear c7
            by_cases c8 : x16_1 < (l0.length : Int)
            · rw [if_pos c8] at H
              have c8b0 : decide (x16_1 < (l0.length : Int)) = true := decide_eq_true c8
              clear c8
              by_cases c9 : 0 ≤ ((rd_T37 l0 x16_1).f0)
              · rw [if_pos c9] at H
                have c9b0 := eq_true c9
                have c9b1 : decide (0 ≤ ((rd_T37 l0 x16_1).f0)) = true := decide_eq_true c9
                clear c9
                by_cases c10 : ((rd_T37 l0 x16_1).f0) ≤ (wrap64 (((rd_T37 l0 x16_1).f0) + ((rd_T37 l0 x16_1).f2)))
                · rw [if_pos c10] at H
                  have c10b0 := eq_true c10
                  have c10b1 : decide (((rd_T37 l0 x16_1).f0) ≤ (wrap64 (((rd_T37 l0 x16_1).f0) + ((rd_T37 l0 x16_1).f2)))) = true := decide_eq_true c10
                  by_cases c11 : (wrap64 (((rd_T37 l0 x16_1).f0) + ((rd_T37 l0 x16_1).f2))) ≤ (x1_1.size : Int)
                  · rw [if_pos c11] at H
                    have c11b0 := eq_true c11
                    have c11b1 : decide ((wrap64 (((rd_T37 l0 x16_1).f0) + ((rd_T37 l0 x16_1).f2))) ≤ (x1_1.size : Int)) = true := decide_eq_true c11
                    obtain ⟨y578, hy578⟩ : ∃ y_ : List (S37), y_ = (([(⟨(rd_T37 l0 x16_1).f0, (⟨#[]⟩ : ByteArray), 0⟩ : S37), (⟨0, (⟨#[]⟩ : ByteArray), (((rd_T37 l0 x16_1).f1).size : Int)⟩ : S37), (⟨0, x1_1.extract (((rd_T37 l0 x16_1).f0) : Int).toNat ((wrap64 (((rd_T37 l0 x16_1).f0) + ((rd_T37 l0 x16_1).f2))) : Int).toNat, 0⟩ : S37)] : List (S37))) := ⟨_, rfl⟩
                    replace H : (if x6_1.length + y578.length < 4398046511104 then (if 0 ≤ (wrap64 (((rd_T37 l0 x16_1).f0) + ((rd_T37 l0 x16_1).f2))) then (run_Back.l0 k1 (x1_1.extract ((wrap64 (((rd_T37 l0 x16_1).f0) + ((rd_T37 l0 x16_1).f2))) : Int).toNat x1_1.size) (x6_1 ++ y578) l0 (l0.length : Int) (wrap64 (x16_1 + 1))) else (none)) else (none)) = some (r1, r2) := by first | (rw [hy578]; with_reducible exact H) | (have H2_ := (Option.bind_some _ _).symm.trans H; rw [hy578]; with_reducible exact H2_) | (have H2_ := (Option.bind_some _ _).symm.trans H; with_reducible exact H2_) | with_reducible exact H | (rw [hy578]; exact H) | exact H
                    have Ny578 := Aside0.mk hy578
                    clear hy578
                    by_cases c12 : x6_1.length + y578.length < 4398046511104
                    · rw [if_pos c12] at H
                      have LMc12 := Aside0.mk c12
                      clear c12
                      obtain ⟨y581, hy581⟩ : ∃ y_ : List (S37), y_ = (x6_1 ++ y578) := ⟨_, rfl⟩
                      replace H : (if 0 ≤ (wrap64 (((rd_T37 l0 x16_1).f0) + ((rd_T37 l0 x16_1).f2))) then (run_Back.l0 k1 (x1_1.extract ((wrap64 (((rd_T37 l0 x16_1).f0) + ((rd_T37 l0 x16_1).f2))) : Int).toNat x1_1.size) y581 l0 (l0.length : Int) (wrap64 (x16_1 + 1))) else (none)) = some (r1, r2) := by first | (rw [hy581]; with_reducible exact H) | (have H2_ := (Option.bind_some _ _).symm.trans H; rw [hy581]; with_reducible exact H2_) | (have H2_ := (Option.bind_some _ _).symm.trans H; with_reducible exact H2_) | with_reducible exact H | (rw [hy581]; exact H) | exact H
                      have Ny581 := Aside0.mk hy581
                      clear hy581
                      obtain ⟨ji13, hji13⟩ : ∃ j_ : Int, (wrap64 (((rd_T37 l0 x16_1).f0) + ((rd_T37 l0 x16_1).f2))) = j_ := ⟨_, rfl⟩
                      replace H : (if 0 ≤ (ji13) then (run_Back.l0 k1 (x1_1.extract ((ji13) : Int).toNat x1_1.size) y581 l0 (l0.length : Int) (wrap64 (x16_1 + 1))) else (none)) = some (r1, r2) := by first | (rw [hji13] at H; exact H) | (simp only [hji13] at H ⊢; exact H)
                      (try rw [hji13] at c10b0)
                      (try rw [hji13] at c10b1)
                      (try rw [hji13] at c10)
                      (try rw [hji13] at c11b0)
                      (try rw [hji13] at c11b1)
                      (try rw [hji13] at c11)
                      (try rw [hji13] at Ny578)
                      (try rw [hji13] at Ny578)
                      have hji13w : (IntKind.i64.wrap (((rd_T37 l0 x16_1).f0) + ((rd_T37 l0 x16_1).f2))) = ji13 := (i64_w _).trans hji13
                      by_cases c14 : 0 ≤ (ji13)
                      · rw [if_pos c14] at H
                        have c14b0 := eq_true c14
                        have c14b1 : decide (0 ≤ (ji13)) = true := decide_eq_true c14
                        clear c14
                        have c15b0 := eq_true (of_decide_eq_true (by first | (with_reducible assumption) | assumption) : (ji13) ≤ (x1_1.size : Int))
                        have H' := Aside0.mk H
                        clear H
                        have p576 : 0 ≤ (x16_1 : Int) := of_decide_eq_true (by first | (with_reducible assumption) | assumption)
                        have q576 : x16_1 < (l0.length : Int) := of_decide_eq_true (by first | (with_reducible assumption) | assumption)
                        obtain ⟨ad576, e576, hx576_0, hx576_1, hx576_2⟩ := at_T37 HR0.out x16_1 p576 q576
                        cases e576
                        replace hx576_0 := (HB.out.cell (World.block_lt_of_cell? w _ hx576_0)).trans hx576_0
                        replace hx576_1 := (HB.out.cell (World.block_lt_of_cell? w _ hx576_1)).trans hx576_1
                        replace hx576_2 := (HB.out.cell (World.block_lt_of_cell? w _ hx576_2)).trans hx576_2
                        replace p576 := eq_true p576
                        replace q576 := eq_true q576
                        try go_wp2_with (first | ((with_reducible refine gate_dst (N := 8) rfl ?_); refine box_event ?hg (N := 8) ?hd (cs := #[.int .i64 0, .string (⟨#[]⟩ : ByteArray), .int .i64 0]) (t := 37) ?hr ?_; (case hd => rfl); (case hg => rfl); (case hr => first | (go_simp; done) | (go_simp; rfl)); intro gb577 hg w16 hbox hb; have n0_ := Aside0.mk (Kd.R_below (Kd.R_elderB (by (with_reducible repeat (first | apply Kd.R_alloc | apply Kd.R_drewN | apply Kd.R_drew)); exact HO_6.out) gb577 (Nat.le_of_eq hg.symm)) hb); have n1_ := Aside0.mk (below_step (by repeat (first | (with_reducible first | exact HB.out | apply below_alloc | apply pw_below_drewN | apply below_drew1) | exact HB.out)) hb); have n2_ := Aside0.mk (hbox); have n3_ := Aside0.mk ((by rw [hg]; exact (below_size (by repeat (first | (with_reducible first | exact HB.out | apply below_alloc | apply pw_below_drewN | apply below_drew1) | exact HB.out))) : w.heap.size ≤ gb577)); have n4_ := Aside0.mk ((by rw [hg]; exact (below_size (by repeat (first | (with_reducible first | exact HB.out | apply below_alloc | apply pw_below_drewN | apply below_drew1) | exact HB.out))) : w.heap.size ≤ gb577)); clear HO_6; clear HB; have HO_6 := n0_; have HB := n1_; have BK577 := n2_; have GW577 := n3_; have GE577 := n4_; clear n0_ n1_ n2_ n3_ n4_; clear hb hbox hg; have hcz17_0 : w16.cell? ⟨gb577, 0, none⟩ = some (.int .i64 0) := (blk_cell BK577.out 0).trans rfl; have hcz17_1 : w16.cell? ⟨gb577, 1, none⟩ = some (.string (⟨#[]⟩ : ByteArray)) := (blk_cell BK577.out 1).trans rfl; have hcz17_2 : w16.cell? ⟨gb577, 2, none⟩ = some (.int .i64 0) := (blk_cell BK577.out 2).trans rfl; have hfz17_0 := blk_frozen BK577.out 0; have hfz17_1 := blk_frozen BK577.out 1; have hfz17_2 := blk_frozen BK577.out 2))
                        have n0_ : Aside0 (Kd.R k37 37 (((w16.setCell ⟨gb577, 0, none⟩ (.int .i64 ((rd_T37 l0 x16_1).f0))).setCell ⟨gb577, 1, none⟩ (.string ((rd_T37 l0 x16_1).f1))).setCell ⟨gb577, 2, none⟩ (.int .i64 ((rd_T37 l0 x16_1).f2))) w.heap.size (fun k_ => k_ ≠ gb577) u6 x6_1) := ⟨by (with_reducible repeat (first | apply Kd.R_alloc | apply Kd.R_drewN | apply Kd.R_drew)); exact Kd.R_mono (Kd.R_far (p := ⟨gb577, 2, none⟩) (Kd.R_far (p := ⟨gb577, 1, none⟩) (Kd.R_far (p := ⟨gb577, 0, none⟩) (Kd.R_mono HO_6.out (fun k_ hk => (⟨hk, hk.2⟩ : _ ∧ k_ ≠ gb577))) (fun _ hk => hk.2) (.int .i64 ((rd_T37 l0 x16_1).f0))) (fun _ hk => hk.2) (.string ((rd_T37 l0 x16_1).f1))) (fun _ hk => hk.2) (.int .i64 ((rd_T37 l0 x16_1).f2))) (fun _ hk => hk.1.2)⟩
                        have n1_ : Aside0 ((((w16.setCell ⟨gb577, 0, none⟩ (.int .i64 ((rd_T37 l0 x16_1).f0))).setCell ⟨gb577, 1, none⟩ (.string ((rd_T37 l0 x16_1).f1))).setCell ⟨gb577, 2, none⟩ (.int .i64 ((rd_T37 l0 x16_1).f2))).heap[gb577]? = some (.cells #[.int .i64 ((rd_T37 l0 x16_1).f0), .string ((rd_T37 l0 x16_1).f1), .int .i64 ((rd_T37 l0 x16_1).f2)] 37 (0, 0))) := ⟨by (with_reducible repeat (first | refine blk_drewN ?_ _ | refine blk_drew ?_ | refine blk_alloc ?_ _)); refine blk_put (cs := #[.int .i64 ((rd_T37 l0 x16_1).f0), .string ((rd_T37 l0 x16_1).f1), .int .i64 0]) ?_ 2 _ rfl; (with_reducible repeat (first | refine blk_drewN ?_ _ | refine blk_drew ?_ | refine blk_alloc ?_ _)); refine blk_put (cs := #[.int .i64 ((rd_T37 l0 x16_1).f0), .string (⟨#[]⟩ : ByteArray), .int .i64 0]) ?_ 1 _ rfl; (with_reducible repeat (first | refine blk_drewN ?_ _ | refine blk_drew ?_ | refine blk_alloc ?_ _)); refine blk_put (cs := #[.int .i64 0, .string (⟨#[]⟩ : ByteArray), .int .i64 0]) ?_ 0 _ rfl; (with_reducible repeat (first | refine blk_drewN ?_ _ | refine blk_drew ?_ | refine blk_alloc ?_ _)); exact BK577.out⟩
                        have n2_ : Aside0 (Below w.heap.size w (((w16.setCell ⟨gb577, 0, none⟩ (.int .i64 ((rd_T37 l0 x16_1).f0))).setCell ⟨gb577, 1, none⟩ (.string ((rd_T37 l0 x16_1).f1))).setCell ⟨gb577, 2, none⟩ (.int .i64 ((rd_T37 l0 x16_1).f2)))) := ⟨by repeat (first | (with_reducible first | exact HB.out | apply below_alloc | apply pw_below_drewN | apply below_drew1 | refine below_set ?_ GE577.out) | exact HB.out)⟩
                        (try clear HO_6)
                        (try clear BK577)
                        (try clear HB)
                        generalize (((w16.setCell ⟨gb577, 0, none⟩ (.int .i64 ((rd_T37 l0 x16_1).f0))).setCell ⟨gb577, 1, none⟩ (.string ((rd_T37 l0 x16_1).f1))).setCell ⟨gb577, 2, none⟩ (.int .i64 ((rd_T37 l0 x16_1).f2))) = w18 at n0_ n1_ n2_ ⊢
                        have HO_6 := n0_
                        have BK577 := n1_
                        have HB := n2_
                        clear n0_ n1_ n2_
                        have n0_ := Aside0.mk (Kd.R_drew HO_6.out)
                        have n1_ := Aside0.mk (blk_drew BK577.out)
                        have n2_ := Aside0.mk (below_drew1 HB.out)
                        clear HO_6
                        clear BK577
                        clear HB
                        have HO_6 := n0_
                        have BK577 := n1_
                        have HB := n2_
                        clear n0_ n1_ n2_
                        refine start_ (n := 21) (S := fun w' => w'.cell? ⟨gb577, 0, none⟩ = some (.int .i64 ((rd_T37 l0 x16_1).f0)) ∧ w'.cell? ⟨gb577, 1, none⟩ = some (.string ((rd_T37 l0 x16_1).f1)) ∧ w'.cell? ⟨gb577, 2, none⟩ = some (.int .i64 ((rd_T37 l0 x16_1).f2))) (ds := []) #[false, false, false, false, false, false, false, false, false, false, false, false, false, false, false, false, false, false, false, false, false] (by kernel_rfl) rfl rfl ⟨(blk_cell BK577.out 0).trans rfl, (blk_cell BK577.out 1).trans rfl, (blk_cell BK577.out 2).trans rfl⟩ (fun hHeld => ?_); refine with_tabW run_Back.tab7 run_Back.bits7 (fun HT_ HW_ => ?_)
                        generalize w18.drew = w19 at HO_6 BK577 HB hHeld ⊢
                        refine pure_ (i := 0) (N := some 20) (v := ?_) (a' := ?_) #[true, false, false, false, false, false, false, false, false, false, false, false, false, false, false, false, false, false, false, false, false] rfl rfl (any_of HT_.out (by kernel_rfl)) (fun _ _ _ h => h) (Or.inl ⟨by rfl, ?_⟩) ?_ ?_
                        rotate_left
                        · intro w'
                          go_simp
                          with_reducible rfl
                        rotate_left
                        · simp only [Act.put, List.setIfInBounds_toArray, List.set_cons_zero, List.set_cons_succ, i64_w, i32_w]
                          rfl
                        refine pure_ (i := 1) (N := some 21) (v := ?_) (a' := ?_) #[true, true, false, false, false, false, false, false, false, false, false, false, false, false, false, false, false, false, false, false, false] rfl rfl (any_of HT_.out (by kernel_rfl)) (fun _ _ _ h => h) (Or.inl ⟨by rfl, ?_⟩) ?_ ?_
                        rotate_left
                        · intro w'
                          go_simp
                          with_reducible rfl
                        rotate_left
                        · simp only [Act.put, List.setIfInBounds_toArray, List.set_cons_zero, List.set_cons_succ, i64_w, i32_w]
                          rfl
                        refine pure_ (i := 4) (N := some 24) (v := ?_) (a' := ?_) #[true, true, false, false, true, false, false, false, false, false, false, false, false, false, false, false, false, false, false, false, false] rfl rfl (any_of HT_.out (by kernel_rfl)) (fun _ _ _ h => h) (Or.inl ⟨by rfl, ?_⟩) ?_ ?_
                        rotate_left
                        · intro w'
                          go_simp
                          with_reducible rfl
                        rotate_left
                        · simp only [Act.put, List.setIfInBounds_toArray, List.set_cons_zero, List.set_cons_succ, i64_w, i32_w]
                          rfl
                        refine pure_ (i := 8) (N := some 28) (v := ?_) (a' := ?_) #[true, true, false, false, true, false, false, false, true, false, false, false, false, false, false, false, false, false, false, false, false] rfl rfl (any_of HT_.out (by kernel_rfl)) (fun _ _ _ h => h) (Or.inl ⟨by rfl, ?_⟩) ?_ ?_
                        rotate_left
                        · intro w'
                          go_simp
                          with_reducible rfl
                        rotate_left
                        · simp only [Act.put, List.setIfInBounds_toArray, List.set_cons_zero, List.set_cons_succ, i64_w, i32_w]
                          rfl
                        refine pure_ (i := 9) (N := some 29) (v := ?_) (a' := ?_) #[true, true, false, false, true, false, false, false, true, true, false, false, false, false, false, false, false, false, false, false, false] rfl rfl (any_of HT_.out (by kernel_rfl)) (fun _ _ _ h => h) (Or.inl ⟨by rfl, ?_⟩) ?_ ?_
                        rotate_left
                        · intro w'
                          go_simp
                          with_reducible rfl
                        rotate_left
                        · simp only [Act.put, List.setIfInBounds_toArray, List.set_cons_zero, List.set_cons_succ, i64_w, i32_w]
                          rfl
                        refine pure_ (i := 11) (N := some 31) (v := ?_) (a' := ?_) #[true, true, false, false, true, false, false, false, true, true, false, true, false, false, false, false, false, false, false, false, false] rfl rfl (any_of HT_.out (by kernel_rfl)) (fun _ _ _ h => h) (Or.inl ⟨by rfl, ?_⟩) ?_ ?_
                        rotate_left
                        · intro w'
                          go_simp
                          with_reducible rfl
                        rotate_left
                        · simp only [Act.put, List.setIfInBounds_toArray, List.set_cons_zero, List.set_cons_succ, i64_w, i32_w]
                          rfl
                        refine pure_ (i := 13) (N := some 33) (v := ?_) (a' := ?_) #[true, true, false, false, true, false, false, false, true, true, false, true, false, true, false, false, false, false, false, false, false] rfl rfl (any_of HT_.out (by kernel_rfl)) (fun _ _ _ h => h) (Or.inl ⟨by rfl, ?_⟩) ?_ ?_
                        rotate_left
                        · intro w'
                          go_simp
                          with_reducible rfl
                        rotate_left
                        · simp only [Act.put, List.setIfInBounds_toArray, List.set_cons_zero, List.set_cons_succ, i64_w, i32_w]
                          rfl
                        refine take_ (i := 2) (N := some 22) (v := ?_) (a' := ?_) #[true, true, true, false, true, false, false, false, true, true, false, true, false, true, false, false, false, false, false, false, false] rfl rfl (take_ofW HT_.out HW_.out (by kernel_rfl)) (fun _ _ _ h => h) (Or.inl ⟨by rfl, ?_⟩) hHeld ?_ ?_
                        rotate_left
                        · rintro w' ⟨s0, s1, s2⟩
                          go_simp
                          with_reducible rfl
                        rotate_left
                        · simp only [Act.put, List.setIfInBounds_toArray, List.set_cons_zero, List.set_cons_succ, i64_w, i32_w]
                          rfl
                        refine pure_ (i := 3) (N := some 23) (v := ?_) (a' := ?_) #[true, true, true, true, true, false, false, false, true, true, false, true, false, true, false, false, false, false, false, false, false] rfl rfl (any_of HT_.out (by kernel_rfl)) (fun _ _ _ h => h) (Or.inl ⟨by rfl, ?_⟩) ?_ ?_
                        rotate_left
                        · intro w'
                          go_simp
                          with_reducible rfl
                        rotate_left
                        · simp only [Act.put, List.setIfInBounds_toArray, List.set_cons_zero, List.set_cons_succ, i64_w, i32_w]
                          rfl
                        refine take_ (i := 5) (N := some 25) (v := ?_) (a' := ?_) #[true, true, true, true, true, true, false, false, true, true, false, true, false, true, false, false, false, false, false, false, false] rfl rfl (take_ofW HT_.out HW_.out (by kernel_rfl)) (fun _ _ _ h => h) (Or.inl ⟨by rfl, ?_⟩) hHeld ?_ ?_
                        rotate_left
                        · rintro w' ⟨s0, s1, s2⟩
                          go_simp
                          with_reducible rfl
                        rotate_left
                        · simp only [Act.put, List.setIfInBounds_toArray, List.set_cons_zero, List.set_cons_succ, i64_w, i32_w]
                          rfl
                        refine pure_ (i := 6) (N := some 26) (v := ?_) (a' := ?_) #[true, true, true, true, true, true, true, false, true, true, false, true, false, true, false, false, false, false, false, false, false] rfl rfl (any_of HT_.out (by kernel_rfl)) (fun _ _ _ h => h) (Or.inl ⟨by rfl, ?_⟩) ?_ ?_
                        rotate_left
                        · intro w'
                          go_simp
                          with_reducible rfl
                        rotate_left
                        · simp only [Act.put, List.setIfInBounds_toArray, List.set_cons_zero, List.set_cons_succ, i64_w, i32_w]
                          rfl
                        refine pure_ (i := 7) (N := some 27) (v := ?_) (a' := ?_) #[true, true, true, true, true, true, true, true, true, true, false, true, false, true, false, false, false, false, false, false, false] rfl rfl (any_of HT_.out (by kernel_rfl)) (fun _ _ _ h => h) (Or.inl ⟨by rfl, ?_⟩) ?_ ?_
                        rotate_left
                        · intro w'
                          go_simp
                          with_reducible rfl
                        rotate_left
                        · simp only [Act.put, List.setIfInBounds_toArray, List.set_cons_zero, List.set_cons_succ, i64_w, i32_w]
                          rfl
                        refine take_ (i := 10) (N := some 30) (v := ?_) (a' := ?_) #[true, true, true, true, true, true, true, true, true, true, true, true, false, true, false, false, false, false, false, false, false] rfl rfl (take_ofW HT_.out HW_.out (by kernel_rfl)) (fun _ _ _ h => h) (Or.inl ⟨by rfl, ?_⟩) hHeld ?_ ?_
                        rotate_left
                        · rintro w' ⟨s0, s1, s2⟩
                          go_simp
                          with_reducible rfl
                        rotate_left
                        · simp only [Act.put, List.setIfInBounds_toArray, List.set_cons_zero, List.set_cons_succ, i64_w, i32_w]
                          rfl
                        refine take_ (i := 12) (N := some 32) (v := ?_) (a' := ?_) #[true, true, true, true, true, true, true, true, true, true, true, true, true, true, false, false, false, false, false, false, false] rfl rfl (take_ofW HT_.out HW_.out (by kernel_rfl)) (fun _ _ _ h => h) (Or.inl ⟨by rfl, ?_⟩) hHeld ?_ ?_
                        rotate_left
                        · rintro w' ⟨s0, s1, s2⟩
                          go_simp
                          with_reducible rfl
                        rotate_left
                        · simp only [Act.put, List.setIfInBounds_toArray, List.set_cons_zero, List.set_cons_succ, i64_w, i32_w]
                          rfl
                        refine take_ (i := 14) (N := some 34) (v := ?_) (a' := ?_) #[true, true, true, true, true, true, true, true, true, true, true, true, true, true, true, false, false, false, false, false, false] rfl rfl (take_ofW HT_.out HW_.out (by kernel_rfl)) (fun _ _ _ h => h) (Or.inl ⟨by rfl, ?_⟩) hHeld ?_ ?_
                        rotate_left
                        · rintro w' ⟨s0, s1, s2⟩
                          go_simp
                          with_reducible rfl
                        rotate_left
                        · simp only [Act.put, List.setIfInBounds_toArray, List.set_cons_zero, List.set_cons_succ, i64_w, i32_w]
                          rfl
                        refine pure_ (i := 15) (N := some 35) (v := ?_) (a' := ?_) #[true, true, true, true, true, true, true, true, true, true, true, true, true, true, true, true, false, false, false, false, false] rfl rfl (any_of HT_.out (by kernel_rfl)) (fun _ _ _ h => h) (Or.inl ⟨by rfl, ?_⟩) ?_ ?_
                        rotate_left
                        · intro w'
                          go_simp
                          with_reducible rfl
                        rotate_left
                        · simp only [Act.put, List.setIfInBounds_toArray, List.set_cons_zero, List.set_cons_succ, i64_w, i32_w]
                          rfl
                        refine pure_ (i := 16) (N := some 36) (v := ?_) (a' := ?_) #[true, true, true, true, true, true, true, true, true, true, true, true, true, true, true, true, true, false, false, false, false] rfl rfl (any_of HT_.out (by kernel_rfl)) (fun _ _ _ h => h) (Or.inl ⟨by rfl, ?_⟩) ?_ ?_
                        rotate_left
                        · intro w'
                          go_simp
                          with_reducible rfl
                        rotate_left
                        · simp only [Act.put, List.setIfInBounds_toArray, List.set_cons_zero, List.set_cons_succ, i64_w, i32_w]
                          rfl
                        refine pure_ (i := 17) (N := some 37) (v := ?_) (a' := ?_) #[true, true, true, true, true, true, true, true, true, true, true, true, true, true, true, true, true, true, false, false, false] rfl rfl (any_of HT_.out (by kernel_rfl)) (fun _ _ _ h => h) (Or.inl ⟨by rfl, ?_⟩) ?_ ?_
                        rotate_left
                        · intro w'
                          go_simp
                          with_reducible rfl
                        rotate_left
                        · simp only [Act.put, List.setIfInBounds_toArray, List.set_cons_zero, List.set_cons_succ, i64_w, i32_w]
                          rfl
                        refine one_ (i := 18) (N := some 38) #[true, true, true, true, true, true, true, true, true, true, true, true, true, true, true, true, true, true, true, false, false] rfl rfl (one_of HT_.out (by kernel_rfl)) (by decide) (fun K hK => ?_)
                        refine Kd.R_lit_step k37 _ 37 ?hg (N := 38) ?hd (xs := ([(⟨(rd_T37 l0 x16_1).f0, (⟨#[]⟩ : ByteArray), 0⟩ : S37), (⟨0, (⟨#[]⟩ : ByteArray), (((rd_T37 l0 x16_1).f1).size : Int)⟩ : S37), (⟨0, x1_1.extract (((rd_T37 l0 x16_1).f0) : Int).toNat ((ji13) : Int).toNat, 0⟩ : S37)] : List (S37))) (inner := [.int .i64 ((rd_T37 l0 x16_1).f0), .string (⟨#[]⟩ : ByteArray), .int .i64 0, .int .i64 0, .string (⟨#[]⟩ : ByteArray), .int .i64 (((rd_T37 l0 x16_1).f1).size : Int), .int .i64 0, .string (x1_1.extract (((rd_T37 l0 x16_1).f0) : Int).toNat ((ji13) : Int).toNat), .int .i64 0]) (ok := fun _ => True) (okp := fun _ => True) ?hr ?hp (fun _ hk => hk) trivial (Below.refl _ _) (Nat.le_refl _) (by simp) ?_; (case hd => rfl); (case hg => rfl); (case hr => first | (go_simp; done) | (go_simp; rfl)); (case hp => exact (Reps.c3 (show Kd.M k37 _ _ _ (⟨(rd_T37 l0 x16_1).f0, (⟨#[]⟩ : ByteArray), 0⟩ : S37) [.int .i64 ((rd_T37 l0 x16_1).f0), .string (⟨#[]⟩ : ByteArray), .int .i64 0] from (k37_mkM _ _ _ (⟨(rd_T37 l0 x16_1).f0, (⟨#[]⟩ : ByteArray), 0⟩ : S37) )) (Reps.c3 (show Kd.M k37 _ _ _ (⟨0, (⟨#[]⟩ : ByteArray), (((rd_T37 l0 x16_1).f1).size : Int)⟩ : S37) [.int .i64 0, .string (⟨#[]⟩ : ByteArray), .int .i64 (((rd_T37 l0 x16_1).f1).size : Int)] from (k37_mkM _ _ _ (⟨0, (⟨#[]⟩ : ByteArray), (((rd_T37 l0 x16_1).f1).size : Int)⟩ : S37) )) (Reps.c3 (show Kd.M k37 _ _ _ (⟨0, x1_1.extract (((rd_T37 l0 x16_1).f0) : Int).toNat ((ji13) : Int).toNat, 0⟩ : S37) [.int .i64 0, .string (x1_1.extract (((rd_T37 l0 x16_1).f0) : Int).toNat ((ji13) : Int).toNat), .int .i64 0] from (k37_mkM _ _ _ (⟨0, x1_1.extract (((rd_T37 l0 x16_1).f0) : Int).toNat ((ji13) : Int).toNat, 0⟩ : S37) )) (Reps.none _ _)))))
                        intro v579 w20 ho21 hb hg_ hnew_
                        clear hg_ hnew_
                        (first | rw [← Ny578.out] at ho21 | (simp only [Int.reduceToNat] at ho21; rw [← Ny578.out] at ho21))
                        have n0_ := Aside0.mk (Kd.R_elder' (by (with_reducible repeat (first | apply Kd.R_alloc | apply Kd.R_drewN | apply Kd.R_drew)); exact HO_6.out) (Kd.R_base ho21) hb)
                        have n1_ := Aside0.mk (Kd.R_lower (Kd.R_newB (Kd.R_new' ho21 (Kd.R_lt (by (with_reducible repeat (first | apply Kd.R_alloc | apply Kd.R_drewN | apply Kd.R_drew)); exact HO_6.out))) (g := gb577) (o := .cells #[.int .i64 ((rd_T37 l0 x16_1).f0), .string ((rd_T37 l0 x16_1).f1), .int .i64 ((rd_T37 l0 x16_1).f2)] 37 (0, 0)) (by (with_reducible repeat (first | refine blk_drewN ?_ _ | refine blk_drew ?_ | refine blk_alloc ?_ _)); exact BK577.out)) (below_size (by repeat (first | (with_reducible first | exact HB.out | apply below_alloc | apply pw_below_drewN | apply below_drew1 | refine below_set ?_ GE577.out) | exact HB.out))))
                        have n2_ := Aside0.mk (blk_below (g := gb577) (o := .cells #[.int .i64 ((rd_T37 l0 x16_1).f0), .string ((rd_T37 l0 x16_1).f1), .int .i64 ((rd_T37 l0 x16_1).f2)] 37 (0, 0)) (by (with_reducible repeat (first | refine blk_drewN ?_ _ | refine blk_drew ?_ | refine blk_alloc ?_ _)); exact BK577.out) hb)
                        have n3_ := Aside0.mk (below_step (by repeat (first | (with_reducible first | exact HB.out | apply below_alloc | apply pw_below_drewN | apply below_drew1 | refine below_set ?_ GE577.out) | exact HB.out)) hb)
                        clear HO_6
                        clear BK577
                        clear HB
                        have HO_6 := n0_
                        have HO580 := n1_
                        have BK577 := n2_
                        have HB := n3_
                        clear n0_ n1_ n2_ n3_
                        clear hb ho21
                        obtain ⟨Ao23, co23, eo23⟩ := Kd.R_slice HO580.out
                        (first | subst eo23 | (injection eo23 with f1_ f2_ f3_; have f4_ := f1_.symm; have f5_ := f3_.symm; clear f1_ f2_ f3_; subst f4_; subst f5_))
                        refine hK.out _ _ ⟨(blk_cell BK577.out 0).trans rfl, (blk_cell BK577.out 1).trans rfl, (blk_cell BK577.out 2).trans rfl⟩ (fun hHeld => ?_)
                        clear hK K
                        refine norm_ (a' := ?_) ?_ ?_
                        rotate_left
                        · show Act.put _ (some 38) _ = _
                          simp only [Act.put, List.setIfInBounds_toArray, List.set_cons_zero, List.set_cons_succ, i64_w, i32_w]
                          rfl
                        refine one_ (i := 19) (N := some 39) #[true, true, true, true, true, true, true, true, true, true, true, true, true, true, true, true, true, true, true, true, false] rfl rfl (one_of HT_.out (by kernel_rfl)) (by decide) (fun K hK => ?_)
                        refine Kd.R_append_rows_step k37 (w0 := w) w.heap.size (by rfl) (.tmp 20) (.tmp 38) 22 37 (.agg #[(.int .i64 0), (.string ⟨#[]⟩), (.int .i64 0)]) 32 rfl Try.underlying22 info37 rfl (by decide) (by omega) u6 x6_1 y578 _ _ _ (fun k_ => some k_ ≠ (.slice Ao23 y578.length co23 : Value).ownBlock ∧ k_ ≠ gb577) (fun _ => False) rfl rfl ?aO ?aR (fun _ _ h => h) (fun _ h => h.elim) ?aF ?aB ?aS ?aL ?_
                        (case aR => repeat (first | exact (Kd.R_reads' HO580.out).2.2 | (with_reducible refine Kd.C_alloc ?_ _) | (with_reducible refine Kd.C_drewN ?_ _) | (with_reducible refine Kd.C_drew ?_)))
                        (case aB => exact (by repeat (first | (with_reducible first | exact HB.out | apply below_alloc | apply pw_below_drewN | apply below_drew1 | refine below_set ?_ GE577.out) | exact HB.out)))
                        (case aF => exact (fun k_ hk => ⟨Kd.fresh' (Kd.R_lt (by (with_reducible repeat (first | apply Kd.R_alloc | apply Kd.R_drewN | apply Kd.R_drew)); exact HO580.out)) k_ hk, Kd.freshB (g := gb577) (o := .cells #[.int .i64 ((rd_T37 l0 x16_1).f0), .string ((rd_T37 l0 x16_1).f1), .int .i64 ((rd_T37 l0 x16_1).f2)] 37 (0, 0)) (by (with_reducible repeat (first | refine blk_drewN ?_ _ | refine blk_drew ?_ | refine blk_alloc ?_ _)); exact BK577.out) k_ hk⟩))
                        (case aO => exact (by (with_reducible repeat (first | apply Kd.R_alloc | apply Kd.R_drewN | apply Kd.R_drew)); exact Kd.R_mono HO_6.out (fun _ hk => ⟨hk.2, hk.1⟩)))
                        (case aS => exact (below_size (by repeat (first | (with_reducible first | exact HB.out | apply below_alloc | apply pw_below_drewN | apply below_drew1 | refine below_set ?_ GE577.out) | exact HB.out))))
                        (case aL => have := LMc12.out; omega)
                        intro v582 w22 ho hb hg hat
                        rw [← Ny581.out] at ho
                        have n0_ := Aside0.mk (blk_grown (g := gb577) (o := .cells #[.int .i64 ((rd_T37 l0 x16_1).f0), .string ((rd_T37 l0 x16_1).f1), .int .i64 ((rd_T37 l0 x16_1).f2)] 37 (0, 0)) (by (with_reducible repeat (first | refine blk_drewN ?_ _ | refine blk_drew ?_ | refine blk_alloc ?_ _)); exact BK577.out) hg (Kd.R_away HO_6.out (fun _ hk => hk.1)))
                        have n1_ := Aside0.mk (Kd.R_after (ok := (fun k_ => k_ ≠ gb577)) (by (with_reducible repeat (first | apply Kd.R_alloc | apply Kd.R_drewN | apply Kd.R_drew)); exact Kd.R_mono HO580.out (fun _ hk => ⟨hk.2, hk.1.2⟩)) hg hat)
                        have n2_ := Aside0.mk (hb)
                        have n3_ := Aside0.mk (ho)
                        clear BK577
                        clear HO580
                        clear HB
                        clear HO_6
                        have BK577 := n0_
                        have HO580 := n1_
                        have HB := n2_
                        have HO583 := n3_
                        clear n0_ n1_ n2_ n3_
                        clear ho hb hg hat
                        refine hK.out _ _ ⟨(blk_cell BK577.out 0).trans rfl, (blk_cell BK577.out 1).trans rfl, (blk_cell BK577.out 2).trans rfl⟩ (fun hHeld => ?_)
                        clear hK K
                        refine norm_ (a' := ?_) ?_ ?_
                        rotate_left
                        · show Act.put _ (some 39) _ = _
                          simp only [Act.put, List.setIfInBounds_toArray, List.set_cons_zero, List.set_cons_succ, i64_w, i32_w]
                          rfl
                        refine pure_ (i := 20) (N := some 6) (v := ?_) (a' := ?_) #[true, true, true, true, true, true, true, true, true, true, true, true, true, true, true, true, true, true, true, true, true] rfl rfl (any_of HT_.out (by kernel_rfl)) (fun _ _ _ h => h) (Or.inl ⟨by rfl, ?_⟩) ?_ ?_
                        rotate_left
                        · intro w'
                          go_simp
                          with_reducible rfl
                        rotate_left
                        · simp only [Act.put, List.setIfInBounds_toArray, List.set_cons_zero, List.set_cons_succ, i64_w, i32_w]
                          rfl
                        refine done_ (done_of HT_.out (by kernel_rfl)) ?_
                        have hcz24_0 : w22.cell? ⟨gb577, 0, none⟩ = some (.int .i64 ((rd_T37 l0 x16_1).f0)) := (blk_cell BK577.out 0).trans rfl
                        have hcz24_1 : w22.cell? ⟨gb577, 1, none⟩ = some (.string ((rd_T37 l0 x16_1).f1)) := (blk_cell BK577.out 1).trans rfl
                        have hcz24_2 : w22.cell? ⟨gb577, 2, none⟩ = some (.int .i64 ((rd_T37 l0 x16_1).f2)) := (blk_cell BK577.out 2).trans rfl
                        have hfz24_0 := blk_frozen BK577.out 0
                        have hfz24_1 := blk_frozen BK577.out 1
                        have hfz24_2 := blk_frozen BK577.out 2
                        try go_wp2
                        go_roundg k1
                        case measure => have := HK1.out; omega
                        case rel => exact ⟨(x1_1.extract ((ji13) : Int).toNat x1_1.size), (y581), (wrap64 (x16_1 + 1)), (by first | rfl | (simp; done) | (simp only [← hji13] <;> (first | rfl | simp)) | (simp [*]; done)), (by first | rfl | (simp; done) | (simp [*]; done)), H', ⟨by have := HK1.out; omega⟩, ⟨by (with_reducible repeat (first | apply Kd.R_alloc | apply Kd.R_drewN | apply Kd.R_drew)); exact Kd.R_mono HO583.out (fun _ hk => trivial)⟩, ⟨by repeat (first | (with_reducible first | exact HB.out | apply below_alloc | apply pw_below_drewN | apply below_drew1 | refine below_set ?_ GE577.out) | exact HB.out)⟩⟩
                      · rw [if_neg c14] at H
                        exact absurd H (by simp)
                    · rw [if_neg c12] at H
                      exact absurd H (by simp)
                  · rw [if_neg c11] at H
                    exact absurd H (by simp)
                · rw [if_neg c10] at H
                  exact absurd H (by simp)
              · rw [if_neg c9] at H
                exact absurd H (by simp)
            · rw [if_neg c8] at H
              exact absurd H (by simp)
          · rw [if_neg c7] at H
            exact absurd H (by simp)
        · rw [if_neg c6] at H
          have c6b0 : decide (x16_1 < (l0.length : Int)) = false := decide_eq_false c6
          clear c6
          replace H := Option.bind_eq_some_iff.mp H
          obtain ⟨t584, A250, H⟩ := H
          replace H : (some (t584, 0)) = some (r1, r2) := H
          have A25 := Aside0.mk A250
          clear A250
          simp only [Option.some.injEq, Prod.mk.injEq] at H
          obtain ⟨rfl, rfl⟩ := H
          obtain ⟨Ao26, co26, eo26⟩ := Kd.R_slice HO_6.out
          subst eo26
          go_wp2_with (first | ((with_reducible refine gate_callee (f := 23) rfl ?_); refine goesL_ (some 49) rfl rfl Try.func23 (by kernel_rfl) rfl #[.slice Ao26 x6_1.length co26] rfl (by (try simp only [List.map_toArray, List.map_cons, List.map_nil]); first | done | rfl | (simp only [List.length_drop, List.length_take]; rfl)) ?_; (with_reducible refine (edit_Norm.calls _ _ x6_1 t584 _ ?side1 ?side2 A25.out).mono ?_); (case side1 => repeat (first | exact (Kd.R_reads' HO_6.out).2.2 | (with_reducible refine Kd.C_alloc ?_ _) | (with_reducible refine Kd.C_drewN ?_ _) | (with_reducible refine Kd.C_drew ?_))); (case side2 => exact (Kd.R_reads' HO_6.out).2.1); rintro e w27 ⟨v585, rfl, ho0, hb⟩; refine ⟨_, rfl, ?_⟩; have n0_ := Aside0.mk (Kd.R_elder' (by (with_reducible repeat (first | apply Kd.R_alloc | apply Kd.R_drewN | apply Kd.R_drew)); exact HO_6.out) (Kd.R_base ho0) hb); have n1_ := Aside0.mk (Kd.R_lower (Kd.R_new' ho0 (Kd.R_lt (by (with_reducible repeat (first | apply Kd.R_alloc | apply Kd.R_drewN | apply Kd.R_drew)); exact HO_6.out))) (below_size (by repeat (first | (with_reducible first | exact HB.out | apply below_alloc | apply pw_below_drewN | apply below_drew1) | exact HB.out)))); have n2_ := Aside0.mk (below_step (by repeat (first | (with_reducible first | exact HB.out | apply below_alloc | apply pw_below_drewN | apply below_drew1) | exact HB.out)) hb); clear HO_6; clear HB; have HO_6 := n0_; have HO586 := n1_; have HB := n2_; clear n0_ n1_ n2_; (try clear hb); (try clear hb2); (try clear hk); (try clear hi); (try clear ho0)))
          go_ret2
          exact ⟨_, by first | rfl | (simp [errW_none, errW_some] <;> rfl) | (simp [*, errW_none, errW_some] <;> rfl), by (with_reducible repeat (first | apply Kd.R_alloc | apply Kd.R_drewN | apply Kd.R_drew)); exact Kd.R_mono HO586.out (fun _ hk => trivial), by repeat (first | (with_reducible first | exact HB.out | apply below_alloc | apply pw_below_drewN | apply below_drew1) | exact HB.out)⟩
  · replace c4 := Bool.eq_false_iff.mpr c4
    subst c4
    have H1 : (some (([] : List (S37)), 60)) = some (r1, r2) := by rw [if_neg (show ¬ (false = true) by decide)] at H; exact H
    clear H
    have H := H1
    clear H1
    simp only [Option.some.injEq, Prod.mk.injEq] at H
    obtain ⟨rfl, rfl⟩ := H
    go_enter Try.func48, Try.ntmps48
    go_wp2_with (first | ((with_reducible refine gate_callee (f := 59) rfl ?_); refine goesL_ (some 12) rfl rfl Try.func59 (by kernel_rfl) rfl #[.slice A0 l0.length c0, .int .i64 (a1.size : Int)] rfl (by (try simp only [List.map_toArray, List.map_cons, List.map_nil]); first | done | rfl | (simp only [List.length_drop, List.length_take]; rfl)) ?_; (with_reducible refine (run_fits.calls k _ _ l0 (a1.size : Int) false _ ?side1 ?side2 A3.out).mono ?_); (case side1 => repeat (first | exact HR0.out | (with_reducible refine Kd.C_alloc ?_ _) | (with_reducible refine Kd.C_drewN ?_ _) | (with_reducible refine Kd.C_drew ?_))); (case side2 => exact HC0.out); rintro e w28 ⟨rfl, hb⟩; refine ⟨_, rfl, ?_⟩; have n0_ := Aside0.mk (below_step (by repeat (first | (with_reducible first | exact HB.out | apply below_alloc | apply pw_below_drewN | apply below_drew1) | exact HB.out)) hb); clear HB; have HB := n0_; clear n0_; (try clear hb); (try clear hb2); (try clear hk); (try clear hi)))
    go_ret2
    exact ⟨_, by first | rfl | (simp [errW_none, errW_some] <;> rfl) | (simp [*, errW_none, errW_some] <;> rfl), by first | exact Kd.R_nil _ _ _ _ _ | exact Kd.N_nil _ _ _ _ _ | exact Kd.V_nil _ _ _ _ _ | exact Kd.Q_nil _ _ _ _ _ | exact Kd.S_nil _ _ _ _ _, by repeat (first | (with_reducible first | exact HB.out | apply below_alloc | apply pw_below_drewN | apply below_drew1) | exact HB.out)⟩

end Go.Proofs.Ythocalfgeaclgaa.P
end
-- MERGED YthocalfgeaclgaaPrunBetween
section
-- Written by wip/myprint.py of this session, over the kit's print.py: a Lean function for each Go function, and the proof that the code comes to it.
namespace Go.Proofs.Ythocalfgeaclgaa.P
open Go.RowKit Go.Proofs.YthocalfgeaclgaaW.PrintWords Go.Proofs.YthocalfgeaclgaaW.PrintLast Go.Proofs.YthocalfgeaclgaaW.PrintMore
attribute [local go_sem] max2_int min2_int max_two min_two max_three min_three max_four min_four   -- for this text's walks alone
set_option linter.unusedVariables false
set_option linter.unusedSimpArgs false

/-! ### run_Between: function 43 -/
mutual
def run_Between.j0 : Nat → ByteArray → ByteArray → Bool → Option ((List (S37)))
  | 0, _, _, _ => none
  | k + 1, x0, x1, x15 => if x15 = true then (some ([] : List (S37))) else (run_Between.l0 k x0 x1 (mn (x0.size : Int) (x1.size : Int)) 0 0)
def run_Between.j2 : Nat → ByteArray → ByteArray → Int → Int → Int → Option ((List (S37)))
  | 0, _, _, _, _, _ => none
  | k + 1, x0, x1, x5, x6, x7 => run_Between.l1 k x0 x1 x5 x6 x7
def run_Between.l1 : Nat → ByteArray → ByteArray → Int → Int → Int → Option ((List (S37)))
  | 0, _, _, _, _, _ => none
  | k + 1, x0, x1, x5, x6, x7 => if x7 < (wrap64 (x5 - x6)) then (if 0 ≤ (wrap64 ((wrap64 ((x0.size : Int) - 1)) - x7)) then (if (wrap64 ((wrap64 ((x0.size : Int) - 1)) - x7)) < (x0.size : Int) then (if 0 ≤ (wrap64 ((wrap64 ((x1.size : Int) - 1)) - x7)) then (if (wrap64 ((wrap64 ((x1.size : Int) - 1)) - x7)) < (x1.size : Int) then (if (bt x0 (wrap64 ((wrap64 ((x0.size : Int) - 1)) - x7))) = (bt x1 (wrap64 ((wrap64 ((x1.size : Int) - 1)) - x7))) then (run_Between.l1 k x0 x1 x5 x6 (wrap64 (x7 + 1))) else (if 0 ≤ x6 then (if x6 ≤ (wrap64 ((x1.size : Int) - x7)) then (if (wrap64 ((x1.size : Int) - x7)) ≤ (x1.size : Int) then ((edit_Norm.f (([(⟨x6, (⟨#[]⟩ : ByteArray), 0⟩ : S37), (⟨0, x1.extract (x6 : Int).toNat ((wrap64 ((x1.size : Int) - x7)) : Int).toNat, 0⟩ : S37), (⟨0, (⟨#[]⟩ : ByteArray), wrap64 ((wrap64 ((x0.size : Int) - x7)) - x6)⟩ : S37), (⟨x7, (⟨#[]⟩ : ByteArray), 0⟩ : S37)] : List (S37)))).bind fun t487 => (some t487)) else (none)) else (none)) else (none))) else (none)) else (none)) else (none)) else (none)) else (if 0 ≤ x6 then (if x6 ≤ (wrap64 ((x1.size : Int) - x7)) then (if (wrap64 ((x1.size : Int) - x7)) ≤ (x1.size : Int) then ((edit_Norm.f (([(⟨x6, (⟨#[]⟩ : ByteArray), 0⟩ : S37), (⟨0, x1.extract (x6 : Int).toNat ((wrap64 ((x1.size : Int) - x7)) : Int).toNat, 0⟩ : S37), (⟨0, (⟨#[]⟩ : ByteArray), wrap64 ((wrap64 ((x0.size : Int) - x7)) - x6)⟩ : S37), (⟨x7, (⟨#[]⟩ : ByteArray), 0⟩ : S37)] : List (S37)))).bind fun t493 => (some t493)) else (none)) else (none)) else (none))
def run_Between.l0 : Nat → ByteArray → ByteArray → Int → Int → Int → Option ((List (S37)))
  | 0, _, _, _, _, _ => none
  | k + 1, x0, x1, x5, x6, x7 => if x6 < x5 then (if 0 ≤ x6 then (if x6 < (x0.size : Int) then (if x6 < (x1.size : Int) then (if (bt x0 x6) = (bt x1 x6) then (run_Between.l0 k x0 x1 x5 (wrap64 (x6 + 1)) x7) else (run_Between.j2 k x0 x1 x5 x6 x7)) else (none)) else (none)) else (none)) else (run_Between.j2 k x0 x1 x5 x6 x7)
end
def run_Between.f (k : Nat) (a0 : ByteArray) (a1 : ByteArray) : Option ((List (S37))) := if (a0.size : Int) > 16777216 then (run_Between.j0 k a0 a1 true) else (run_Between.j0 k a0 a1 (decide ((a1.size : Int) > 16777216)))
theorem run_Between.mono_l : ∀ k, (∀ y0 y1 y2, LeO (run_Between.j0 k y0 y1 y2) (run_Between.j0 (k + 1) y0 y1 y2)) ∧ (∀ y0 y1 y2 y3 y4, LeO (run_Between.j2 k y0 y1 y2 y3 y4) (run_Between.j2 (k + 1) y0 y1 y2 y3 y4)) ∧ (∀ y0 y1 y2 y3 y4, LeO (run_Between.l1 k y0 y1 y2 y3 y4) (run_Between.l1 (k + 1) y0 y1 y2 y3 y4)) ∧ (∀ y0 y1 y2 y3 y4, LeO (run_Between.l0 k y0 y1 y2 y3 y4) (run_Between.l0 (k + 1) y0 y1 y2 y3 y4))
  | 0 => ⟨fun _ _ _ r h => by simp [run_Between.j0] at h, fun _ _ _ _ _ r h => by simp [run_Between.j2] at h, fun _ _ _ _ _ r h => by simp [run_Between.l1] at h, fun _ _ _ _ _ r h => by simp [run_Between.l0] at h⟩
  | k + 1 => by
    obtain ⟨ih0, ih1, ih2, ih3⟩ := run_Between.mono_l k
    refine ⟨?_, ?_, ?_, ?_⟩
    · intro y0 y1 y2
      unfold run_Between.j0
      repeat' first
      | (with_reducible exact ih0 _ _ _)
      | (with_reducible exact ih1 _ _ _ _ _)
      | (with_reducible exact ih2 _ _ _ _ _)
      | (with_reducible exact ih3 _ _ _ _ _)
      | (with_reducible exact LeO.refl _)
      | (with_reducible exact LeO.none _)
      | (with_reducible refine LeO.ite ?_ ?_)
      | (with_reducible refine LeO.bind ?_ (fun _ => ?_))
      | exact ih0 _ _ _
      | exact ih1 _ _ _ _ _
      | exact ih2 _ _ _ _ _
      | exact ih3 _ _ _ _ _
      | exact LeO.none _
      | refine LeO.ite ?_ ?_
      | refine LeO.bind ?_ (fun _ => ?_)
    · intro y0 y1 y2 y3 y4
      unfold run_Between.j2
      repeat' first
      | (with_reducible exact ih0 _ _ _)
      | (with_reducible exact ih1 _ _ _ _ _)
      | (with_reducible exact ih2 _ _ _ _ _)
      | (with_reducible exact ih3 _ _ _ _ _)
      | (with_reducible exact LeO.refl _)
      | (with_reducible exact LeO.none _)
      | (with_reducible refine LeO.ite ?_ ?_)
      | (with_reducible refine LeO.bind ?_ (fun _ => ?_))
      | exact ih0 _ _ _
      | exact ih1 _ _ _ _ _
      | exact ih2 _ _ _ _ _
      | exact ih3 _ _ _ _ _
      | exact LeO.none _
      | refine LeO.ite ?_ ?_
      | refine LeO.bind ?_ (fun _ => ?_)
    · intro y0 y1 y2 y3 y4
      unfold run_Between.l1
      repeat' first
      | (with_reducible exact ih0 _ _ _)
      | (with_reducible exact ih1 _ _ _ _ _)
      | (with_reducible exact ih2 _ _ _ _ _)
      | (with_reducible exact ih3 _ _ _ _ _)
      | (with_reducible exact LeO.refl _)
      | (with_reducible exact LeO.none _)
      | (with_reducible refine LeO.ite ?_ ?_)
      | (with_reducible refine LeO.bind ?_ (fun _ => ?_))
      | exact ih0 _ _ _
      | exact ih1 _ _ _ _ _
      | exact ih2 _ _ _ _ _
      | exact ih3 _ _ _ _ _
      | exact LeO.none _
      | refine LeO.ite ?_ ?_
      | refine LeO.bind ?_ (fun _ => ?_)
    · intro y0 y1 y2 y3 y4
      unfold run_Between.l0
      repeat' first
      | (with_reducible exact ih0 _ _ _)
      | (with_reducible exact ih1 _ _ _ _ _)
      | (with_reducible exact ih2 _ _ _ _ _)
      | (with_reducible exact ih3 _ _ _ _ _)
      | (with_reducible exact LeO.refl _)
      | (with_reducible exact LeO.none _)
      | (with_reducible refine LeO.ite ?_ ?_)
      | (with_reducible refine LeO.bind ?_ (fun _ => ?_))
      | exact ih0 _ _ _
      | exact ih1 _ _ _ _ _
      | exact ih2 _ _ _ _ _
      | exact ih3 _ _ _ _ _
      | exact LeO.none _
      | refine LeO.ite ?_ ?_
      | refine LeO.bind ?_ (fun _ => ?_)
theorem run_Between.mono : ∀ a0 a1 k, LeO (run_Between.f k a0 a1) (run_Between.f (k + 1) a0 a1) := by
  intro a0 a1 k
  obtain ⟨ih0, ih1, ih2, ih3⟩ := run_Between.mono_l k
  unfold run_Between.f
  repeat' first
      | (with_reducible exact ih0 _ _ _)
      | (with_reducible exact ih1 _ _ _ _ _)
      | (with_reducible exact ih2 _ _ _ _ _)
      | (with_reducible exact ih3 _ _ _ _ _)
      | (with_reducible exact LeO.refl _)
      | (with_reducible exact LeO.none _)
      | (with_reducible refine LeO.ite ?_ ?_)
      | (with_reducible refine LeO.bind ?_ (fun _ => ?_))
      | exact ih0 _ _ _
      | exact ih1 _ _ _ _ _
      | exact ih2 _ _ _ _ _
      | exact ih3 _ _ _ _ _
      | exact LeO.none _
      | refine LeO.ite ?_ ?_
      | refine LeO.bind ?_ (fun _ => ?_)
set_option maxHeartbeats 8000000 in
set_option maxRecDepth 100000 in
theorem run_Between.calls (k : Nat) (a0 : ByteArray) (a1 : ByteArray) (r : List (S37)) (w : World) (h : run_Between.f k a0 a1 = some r) :
    Calls Try.prog 43 #[.string a0, .string a1] w fun e w' => ∃ v0_ : Value, e = .returned (v0_) ∧ Kd.R k37 37 w' w.heap.size (fun _ => True) v0_ r ∧ Below w.heap.size w w' := by
  have hu37 := Try.underlying37
  have HB := Aside0.mk (Below.refl w.heap.size w)
  have H : (if (a0.size : Int) > 16777216 then (run_Between.j0 k a0 a1 true) else (run_Between.j0 k a0 a1 (decide ((a1.size : Int) > 16777216)))) = some r := h
  clear h
  have HC3 := Aside0.mk H
  clear H
  go_enter Try.func43, Try.ntmps43
  go_upto_region 1 with (fail)
  repeat (go_quiet (fail); go_upto_region 1 with (fail))
  go_cut [15] (fun v15 wc => ∃ (kq : Nat) (x15_2 : Bool), v15 = .bool x15_2 ∧ Aside0 (run_Between.j0 kq a0 a1 x15_2 = some r) ∧ Aside0 (kq ≤ k) ∧ Aside0 (Below w.heap.size w wc))
  case first =>
    have H := HC3.out
    clear HC3
    by_cases c4 : (a0.size : Int) > 16777216
    · rw [if_pos c4] at H
      have c4b0 : decide (16777216 < (a0.size : Int)) = true := decide_eq_true c4
      have c4b1 : decide (16777216 < a0.size) = true := decide_eq_true (by omega)
      clear c4
      (first | rw [c4b0] | (simp only [i64_w, i32_w]; rw [c4b0]) | skip)
      have H' := Aside0.mk H
      clear H
      go_wp2
      repeat (go_quiet (fail); try go_wp2)
      go_meet
      case rel => exact ⟨_, (true), (by first | rfl | (simp; done) | (simp [*]; done)), H', ⟨by first | omega | exact Nat.le_refl _⟩, ⟨by repeat (first | (with_reducible first | exact HB.out | apply below_alloc | apply pw_below_drewN | apply below_drew1) | exact HB.out)⟩⟩
    · rw [if_neg c4] at H
      have c4b0 : decide (16777216 < (a0.size : Int)) = false := decide_eq_false c4
      have c4b1 : decide (16777216 < a0.size) = false := decide_eq_false (by omega)
      clear c4
      (first | rw [c4b0] | (simp only [i64_w, i32_w]; rw [c4b0]) | skip)
      have H' := Aside0.mk H
      clear H
      go_wp2
      repeat (go_quiet (fail); try go_wp2)
      go_meet
      case rel => exact ⟨_, (decide ((a1.size : Int) > 16777216)), (by first | rfl | (simp; done) | (simp [*]; done)), H', ⟨by first | omega | exact Nat.le_refl _⟩, ⟨by repeat (first | (with_reducible first | exact HB.out | apply below_alloc | apply pw_below_drewN | apply below_drew1) | exact HB.out)⟩⟩
  case rest =>
    clear HC3
    try clear p2
    try clear c4
    try clear c4b0
    try clear c4b1
    obtain ⟨kq, x15_2, rfl, HA, HJ2, HB⟩ := hcut
    cases kq with
    | zero => exact absurd HA.out (by simp [run_Between.j0])
    | succ kj2 =>
      have H := HA.out
      clear HA
      simp only [run_Between.j0] at H
      by_cases c5 : x15_2 = true
      · subst c5
        have H1 : (some ([] : List (S37))) = some r := by rw [if_pos rfl] at H; exact H
        clear H
        have H := H1
        clear H1
        obtain rfl := Option.some.inj H
        go_wp2
        repeat (go_quiet (fail); try go_wp2)
        go_ret
        exact ⟨_, by first | rfl | (simp [errW_none, errW_some] <;> rfl) | (simp [*, errW_none, errW_some] <;> rfl), by first | exact Kd.R_nil _ _ _ _ _ | exact Kd.N_nil _ _ _ _ _ | exact Kd.V_nil _ _ _ _ _ | exact Kd.Q_nil _ _ _ _ _ | exact Kd.S_nil _ _ _ _ _, by repeat (first | (with_reducible first | exact HB.out | apply below_alloc | apply pw_below_drewN | apply below_drew1) | exact HB.out)⟩
      · replace c5 := Bool.eq_false_iff.mpr c5
        subst c5
        have H1 : (run_Between.l0 kj2 a0 a1 (mn (a0.size : Int) (a1.size : Int)) 0 0) = some r := by rw [if_neg (show ¬ (false = true) by decide)] at H; exact H
        clear H
        have H := H1
        clear H1
        obtain ⟨ji6, hji6⟩ : ∃ j_ : Int, (mn (a0.size : Int) (a1.size : Int)) = j_ := ⟨_, rfl⟩
        replace H : (run_Between.l0 kj2 a0 a1 ji6 0 0) = some r := by first | (rw [hji6] at H; exact H) | (simp only [hji6] at H ⊢; exact H)
        have hji6_ : (if (a1.size : Int) < (a0.size : Int) then (a1.size : Int) else (a0.size : Int)) = ji6 := hji6
        (try simp only [Int.ofNat_lt] at hji6_)
        have HC7 := Aside0.mk H
        clear H
        go_upto_block 0 with (fail)
        repeat (go_quiet (fail); go_upto_block 0 with (fail))
        go_cut [6] (fun v6 wc => ∃ (kq : Nat) (x6_6 : Int), v6 = .int .i64 x6_6 ∧ Aside0 (run_Between.j2 kq a0 a1 ji6 x6_6 0 = some r) ∧ Aside0 (kq ≤ kj2) ∧ Aside0 (Below w.heap.size w wc))
        case first =>
          have H := HC7.out
          clear HC7
          have H' := Aside0.mk H
          clear H
          go_wp2
          repeat (go_quiet (fail); try go_wp2)
          go_loopg [6] kj2 (fun kq v6 w' => ∃ (x6_2 : Int), v6 = .int .i64 x6_2 ∧ Aside0 (run_Between.l0 kq a0 a1 ji6 x6_2 0 = some r) ∧ Aside0 (kq ≤ kj2) ∧ Aside0 (Below w.heap.size w w'))
          case atStart => exact ⟨(0), (by first | rfl | (simp; done) | (simp [*]; done)), H', ⟨Nat.le_refl _⟩, ⟨by repeat (first | (with_reducible first | exact HB.out | apply below_alloc | apply pw_below_drewN | apply below_drew1) | exact HB.out)⟩⟩
          case round =>
            clear H'
            try clear p2
            try clear c4
            try clear c4b0
            try clear c4b1
            try clear c5
            try clear p2
            obtain ⟨x6_2, rfl, HA, HK2, HB⟩ := hrel
            cases gk with
            | zero => exact absurd HA.out (by simp [run_Between.l0])
            | succ k2 =>
              have H := HA.out
              clear HA
              simp only [run_Between.l0] at H
              by_cases c8 : x6_2 < ji6
              · rw [if_pos c8] at H
                have c8b0 : decide (x6_2 < ji6) = true := decide_eq_true c8
                clear c8
                (first | rw [c8b0] | (simp only [i64_w, i32_w]; rw [c8b0]) | skip)
                by_cases c9 : 0 ≤ x6_2
                · rw [if_pos c9] at H
                  have c9b0 : decide (0 ≤ x6_2) = true := decide_eq_true c9
                  clear c9
                  by_cases c10 : x6_2 < (a0.size : Int)
                  · rw [if_pos c10] at H
                    have c10b0 : decide (x6_2 < (a0.size : Int)) = true := decide_eq_true c10
                    clear c10
                    by_cases c12 : x6_2 < (a1.size : Int)
                    · rw [if_pos c12] at H
                      have c12b0 : decide (x6_2 < (a1.size : Int)) = true := decide_eq_true c12
                      clear c12
                      by_cases c14 : (bt a0 x6_2) = (bt a1 x6_2)
                      · rw [if_pos c14] at H
                        have c14b0 : ((bt a0 x6_2) == (bt a1 x6_2)) = true := beq_iff_eq.mpr c14
                        have c14b1 : ((bt a0 x6_2) != (bt a1 x6_2)) = false := bne_eq_false_iff_eq.mpr c14
                        clear c14
                        have H' := Aside0.mk H
                        clear H
                        have p11 : 0 ≤ (x6_2 : Int) := of_decide_eq_true (by first | (with_reducible assumption) | assumption)
                        have q11 : x6_2 < (a0.size : Int) := of_decide_eq_true (by first | (with_reducible assumption) | assumption)
                        have hx11 := bt_at a0 x6_2
                        replace p11 := eq_true p11
                        replace q11 := eq_true q11
                        have p13 : 0 ≤ (x6_2 : Int) := of_decide_eq_true (by first | (with_reducible assumption) | assumption)
                        have q13 : x6_2 < (a1.size : Int) := of_decide_eq_true (by first | (with_reducible assumption) | assumption)
                        have hx13 := bt_at a1 x6_2
                        replace p13 := eq_true p13
                        replace q13 := eq_true q13
                        go_wp2
                        repeat (go_quiet (fail); try go_wp2)
                        go_roundg k2
                        case measure => have := HJ2.out; have := HK2.out; omega
                        case rel => exact ⟨(wrap64 (x6_2 + 1)), (by first | rfl | (simp; done) | (simp [*]; done)), H', ⟨by have := HJ2.out; have := HK2.out; omega⟩, ⟨by repeat (first | (with_reducible first | exact HB.out | apply below_alloc | apply pw_below_drewN | apply below_drew1) | exact HB.out)⟩⟩
                      · rw [if_neg c14] at H
                        have c14b0 : ((bt a0 x6_2) == (bt a1 x6_2)) = false := beq_eq_false_iff_ne.mpr c14
                        have c14b1 : ((bt a0 x6_2) != (bt a1 x6_2)) = true := bne_iff_ne.mpr c14
                        have H' := Aside0.mk H
                        clear H
                        have p11 : 0 ≤ (x6_2 : Int) := of_decide_eq_true (by first | (with_reducible assumption) | assumption)
                        have q11 : x6_2 < (a0.size : Int) := of_decide_eq_true (by first | (with_reducible assumption) | assumption)
                        have hx11 := bt_at a0 x6_2
                        replace p11 := eq_true p11
                        replace q11 := eq_true q11
                        have p13 : 0 ≤ (x6_2 : Int) := of_decide_eq_true (by first | (with_reducible assumption) | assumption)
                        have q13 : x6_2 < (a1.size : Int) := of_decide_eq_true (by first | (with_reducible assumption) | assumption)
                        have hx13 := bt_at a1 x6_2
                        replace p13 := eq_true p13
                        replace q13 := eq_true q13
                        go_wp2
                        repeat (go_quiet (fail); try go_wp2)
                        go_meet
                        case rel => exact ⟨_, (x6_2), (by first | rfl | (simp; done) | (simp [*]; done)), H', ⟨by have := HJ2.out; have := HK2.out; first | omega | exact Nat.le_refl _⟩, ⟨by repeat (first | (with_reducible first | exact HB.out | apply below_alloc | apply pw_below_drewN | apply below_drew1) | exact HB.out)⟩⟩
                    · rw [if_neg c12] at H
                      exact absurd H (by simp)
                  · rw [if_neg c10] at H
                    exact absurd H (by simp)
                · rw [if_neg c9] at H
                  exact absurd H (by simp)
              · rw [if_neg c8] at H
                have c8b0 : decide (x6_2 < ji6) = false := decide_eq_false c8
                clear c8
                (first | rw [c8b0] | (simp only [i64_w, i32_w]; rw [c8b0]) | skip)
                have H' := Aside0.mk H
                clear H
                go_wp2
                repeat (go_quiet (fail); try go_wp2)
                go_meet
                case rel => exact ⟨_, (x6_2), (by first | rfl | (simp; done) | (simp [*]; done)), H', ⟨by have := HJ2.out; have := HK2.out; first | omega | exact Nat.le_refl _⟩, ⟨by repeat (first | (with_reducible first | exact HB.out | apply below_alloc | apply pw_below_drewN | apply below_drew1) | exact HB.out)⟩⟩
        case rest =>
          clear HC7
          try clear c1
          try clear p1
          try clear q1
          try clear hx1
          try clear p2
          try clear c4
          try clear c4b0
          try clear c4b1
          try clear c5
          try clear p6
          try clear c8
          try clear c8b0
          try clear c9
          try clear c9b0
          try clear c10
          try clear c10b0
          try clear p11
          try clear q11
          try clear hx11
          try clear c12
          try clear c12b0
          try clear p13
          try clear q13
          try clear hx13
          try clear c14
          try clear c14b0
          try clear c14b1
          try clear p11
          try clear p13
          try clear p2
          try clear q11
          try clear q13
          obtain ⟨kq, x6_6, rfl, HA, HJ6, HB⟩ := hcut
          cases kq with
          | zero => exact absurd HA.out (by simp [run_Between.j2])
          | succ kj6 =>
            have H := HA.out
            clear HA
            simp only [run_Between.j2] at H
            have H' := Aside0.mk H
            clear H
            go_wp2
            repeat (go_quiet (fail); try go_wp2)
            go_loopg [7] kj6 (fun kq v7 w' => ∃ (x7_3 : Int), v7 = .int .i64 x7_3 ∧ Aside0 (run_Between.l1 kq a0 a1 ji6 x6_6 x7_3 = some r) ∧ Aside0 (kq ≤ kj6) ∧ Aside0 (Below w.heap.size w w'))
            case atStart => exact ⟨(0), (by first | rfl | (simp; done) | (simp [*]; done)), H', ⟨Nat.le_refl _⟩, ⟨by repeat (first | (with_reducible first | exact HB.out | apply below_alloc | apply pw_below_drewN | apply below_drew1) | exact HB.out)⟩⟩
            case round =>
              clear H'
              try clear c1
              try clear p1
              try clear q1
              try clear hx1
              try clear p2
              try clear c4
              try clear c4b0
              try clear c4b1
              try clear c5
              try clear p6
              try clear c8
              try clear c8b0
              try clear c9
              try clear c9b0
              try clear c10
              try clear c10b0
              try clear p11
              try clear q11
              try clear hx11
              try clear c12
              try clear c12b0
              try clear p13
              try clear q13
              try clear hx13
              try clear c14
              try clear c14b0
              try clear c14b1
              try clear p1
              try clear p11
              try clear p13
              try clear p2
              try clear p6
              try clear q1
              try clear q11
              try clear q13
              obtain ⟨x7_3, rfl, HA, HK3, HB⟩ := hrel
              cases gk with
              | zero => exact absurd HA.out (by simp [run_Between.l1])
              | succ k3 =>
                have H := HA.out
                clear HA
                simp only [run_Between.l1] at H
                by_cases c15 : x7_3 < (wrap64 (ji6 - x6_6))
                · rw [if_pos c15] at H
                  have c15b0 : decide (x7_3 < (wrap64 (ji6 - x6_6))) = true := decide_eq_true c15
                  clear c15
                  obtain ⟨ji16, hji16⟩ : ∃ j_ : Int, (wrap64 ((wrap64 ((a0.size : Int) - 1)) - x7_3)) = j_ := ⟨_, rfl⟩
                  replace H : (if 0 ≤ (ji16) then (if (ji16) < (a0.size : Int) then (if 0 ≤ (wrap64 ((wrap64 ((a1.size : Int) - 1)) - x7_3)) then (if (wrap64 ((wrap64 ((a1.size : Int) - 1)) - x7_3)) < (a1.size : Int) then (if (bt a0 (ji16)) = (bt a1 (wrap64 ((wrap64 ((a1.size : Int) - 1)) - x7_3))) then (run_Between.l1 k3 a0 a1 ji6 x6_6 (wrap64 (x7_3 + 1))) else (if 0 ≤ x6_6 then (if x6_6 ≤ (wrap64 ((a1.size : Int) - x7_3)) then (if (wrap64 ((a1.size : Int) - x7_3)) ≤ (a1.size : Int) then ((edit_Norm.f (([(⟨x6_6, (⟨#[]⟩ : ByteArray), 0⟩ : S37), (⟨0, a1.extract (x6_6 : Int).toNat ((wrap64 ((a1.size : Int) - x7_3)) : Int).toNat, 0⟩ : S37), (⟨0, (⟨#[]⟩ : ByteArray), wrap64 ((wrap64 ((a0.size : Int) - x7_3)) - x6_6)⟩ : S37), (⟨x7_3, (⟨#[]⟩ : ByteArray), 0⟩ : S37)] : List (S37)))).bind fun t487 => (some t487)) else (none)) else (none)) else (none))) else (none)) else (none)) else (none)) else (none)) = some r := by first | (rw [hji16] at H; exact H) | (simp only [hji16] at H ⊢; exact H)
                  have hji16w : (IntKind.i64.wrap ((wrap64 ((a0.size : Int) - 1)) - x7_3)) = ji16 := (i64_w _).trans hji16
                  by_cases c17 : 0 ≤ (ji16)
                  · rw [if_pos c17] at H
                    have c17b0 : decide (0 ≤ (ji16)) = true := decide_eq_true c17
                    clear c17
                    by_cases c18 : (ji16) < (a0.size : Int)
                    · rw [if_pos c18] at H
                      have c18b0 : decide ((ji16) < (a0.size : Int)) = true := decide_eq_true c18
                      clear c18
                      obtain ⟨ji20, hji20⟩ : ∃ j_ : Int, (wrap64 ((wrap64 ((a1.size : Int) - 1)) - x7_3)) = j_ := ⟨_, rfl⟩
                      replace H : (if 0 ≤ (ji20) then (if (ji20) < (a1.size : Int) then (if (bt a0 (ji16)) = (bt a1 (ji20)) then (run_Between.l1 k3 a0 a1 ji6 x6_6 (wrap64 (x7_3 + 1))) else (if 0 ≤ x6_6 then (if x6_6 ≤ (wrap64 ((a1.size : Int) - x7_3)) then (if (wrap64 ((a1.size : Int) - x7_3)) ≤ (a1.size : Int) then ((edit_Norm.f (([(⟨x6_6, (⟨#[]⟩ : ByteArray), 0⟩ : S37), (⟨0, a1.extract (x6_6 : Int).toNat ((wrap64 ((a1.size : Int) - x7_3)) : Int).toNat, 0⟩ : S37), (⟨0, (⟨#[]⟩ : ByteArray), wrap64 ((wrap64 ((a0.size : Int) - x7_3)) - x6_6)⟩ : S37), (⟨x7_3, (⟨#[]⟩ : ByteArray), 0⟩ : S37)] : List (S37)))).bind fun t487 => (some t487)) else (none)) else (none)) else (none))) else (none)) else (none)) = some r := by first | (rw [hji20] at H; exact H) | (simp only [hji20] at H ⊢; exact H)
                      have hji20w : (IntKind.i64.wrap ((wrap64 ((a1.size : Int) - 1)) - x7_3)) = ji20 := (i64_w _).trans hji20
                      by_cases c21 : 0 ≤ (ji20)
                      · rw [if_pos c21] at H
                        have c21b0 : decide (0 ≤ (ji20)) = true := decide_eq_true c21
                        clear c21
                        by_cases c22 : (ji20) < (a1.size : Int)
                        · rw [if_pos c22] at H
                          have c22b0 : decide ((ji20) < (a1.size : Int)) = true := decide_eq_true c22
                          clear c22
                          by_cases c24 : (bt a0 (ji16)) = (bt a1 (ji20))
                          · rw [if_pos c24] at H
                            have c24b0 : ((bt a0 (ji16)) == (bt a1 (ji20))) = true := beq_iff_eq.mpr c24
                            have c24b1 : ((bt a0 (ji16)) != (bt a1 (ji20))) = false := bne_eq_false_iff_eq.mpr c24
                            clear c24
                            have H' := Aside0.mk H
                            clear H
                            have p19 : 0 ≤ ((ji16) : Int) := of_decide_eq_true (by first | (with_reducible assumption) | assumption)
                            have q19 : (ji16) < (a0.size : Int) := of_decide_eq_true (by first | (with_reducible assumption) | assumption)
                            have hx19 := bt_at a0 (ji16)
                            replace p19 := eq_true p19
                            replace q19 := eq_true q19
                            have p23 : 0 ≤ ((ji20) : Int) := of_decide_eq_true (by first | (with_reducible assumption) | assumption)
                            have q23 : (ji20) < (a1.size : Int) := of_decide_eq_true (by first | (with_reducible assumption) | assumption)
                            have hx23 := bt_at a1 (ji20)
                            replace p23 := eq_true p23
                            replace q23 := eq_true q23
                            go_wp2
                            repeat (go_quiet (fail); try go_wp2)
                            go_roundg k3
                            case measure => have := HJ2.out; have := HJ6.out; have := HK3.out; omega
                            case rel => exact ⟨(wrap64 (x7_3 + 1)), (by first | rfl | (simp; done) | (simp [*]; done)), H', ⟨by have := HJ2.out; have := HJ6.out; have := HK3.out; omega⟩, ⟨by repeat (first | (with_reducible first | exact HB.out | apply below_alloc | apply pw_below_drewN | apply below_drew1) | exact HB.out)⟩⟩
                          · rw [if_neg c24] at H
                            have c24b0 : ((bt a0 (ji16)) == (bt a1 (ji20))) = false := beq_eq_false_iff_ne.mpr c24
                            have c24b1 : ((bt a0 (ji16)) != (bt a1 (ji20))) = true := bne_iff_ne.mpr c24
                            by_cases c25 : 0 ≤ x6_6
                            · rw [if_pos c25] at H
                              have c25b0 := eq_true c25
                              have c25b1 : decide (0 ≤ x6_6) = true := decide_eq_true c25
                              clear c25
                              by_cases c26 : x6_6 ≤ (wrap64 ((a1.size : Int) - x7_3))
                              · rw [if_pos c26] at H
                                have c26b0 := eq_true c26
                                have c26b1 : decide (x6_6 ≤ (wrap64 ((a1.size : Int) - x7_3))) = true := decide_eq_true c26
                                clear c26
                                by_cases c27 : (wrap64 ((a1.size : Int) - x7_3)) ≤ (a1.size : Int)
                                · rw [if_pos c27] at H
                                  have c27b0 := eq_true c27
                                  have c27b1 : decide ((wrap64 ((a1.size : Int) - x7_3)) ≤ (a1.size : Int)) = true := decide_eq_true c27
                                  clear c27
                                  obtain ⟨y484, hy484⟩ : ∃ y_ : List (S37), y_ = (([(⟨x6_6, (⟨#[]⟩ : ByteArray), 0⟩ : S37), (⟨0, a1.extract (x6_6 : Int).toNat ((wrap64 ((a1.size : Int) - x7_3)) : Int).toNat, 0⟩ : S37), (⟨0, (⟨#[]⟩ : ByteArray), wrap64 ((wrap64 ((a0.size : Int) - x7_3)) - x6_6)⟩ : S37), (⟨x7_3, (⟨#[]⟩ : ByteArray), 0⟩ : S37)] : List (S37))) := ⟨_, rfl⟩
                                  replace H : ((edit_Norm.f y484).bind fun t487 => (some t487)) = some r := by first | (rw [hy484]; with_reducible exact H) | (have H2_ := (Option.bind_some _ _).symm.trans H; rw [hy484]; with_reducible exact H2_) | (have H2_ := (Option.bind_some _ _).symm.trans H; with_reducible exact H2_) | with_reducible exact H | (rw [hy484]; exact H) | exact H
                                  have Ny484 := Aside0.mk hy484
                                  clear hy484
                                  replace H := Option.bind_eq_some_iff.mp H
                                  obtain ⟨t487, A280, H⟩ := H
                                  replace H : (some t487) = some r := H
                                  have A28 := Aside0.mk A280
                                  clear A280
                                  obtain rfl := Option.some.inj H
                                  have p19 : 0 ≤ ((ji16) : Int) := of_decide_eq_true (by first | (with_reducible assumption) | assumption)
                                  have q19 : (ji16) < (a0.size : Int) := of_decide_eq_true (by first | (with_reducible assumption) | assumption)
                                  have hx19 := bt_at a0 (ji16)
                                  replace p19 := eq_true p19
                                  replace q19 := eq_true q19
                                  have p23 : 0 ≤ ((ji20) : Int) := of_decide_eq_true (by first | (with_reducible assumption) | assumption)
                                  have q23 : (ji20) < (a1.size : Int) := of_decide_eq_true (by first | (with_reducible assumption) | assumption)
                                  have hx23 := bt_at a1 (ji20)
                                  replace p23 := eq_true p23
                                  replace q23 := eq_true q23
                                  go_wp2_with (first | ((with_reducible refine gate_dst (N := 78) rfl ?_); (try (refine gate_guard (by rfl) ?_; dsimp only)); refine Kd.R_lit k37 _ 37 ?hg (N := 78) ?hd (xs := ([(⟨x6_6, (⟨#[]⟩ : ByteArray), 0⟩ : S37), (⟨0, a1.extract (x6_6 : Int).toNat ((wrap64 ((a1.size : Int) - x7_3)) : Int).toNat, 0⟩ : S37), (⟨0, (⟨#[]⟩ : ByteArray), wrap64 ((wrap64 ((a0.size : Int) - x7_3)) - x6_6)⟩ : S37), (⟨x7_3, (⟨#[]⟩ : ByteArray), 0⟩ : S37)] : List (S37))) (inner := [.int .i64 x6_6, .string (⟨#[]⟩ : ByteArray), .int .i64 0, .int .i64 0, .string (a1.extract (x6_6 : Int).toNat ((wrap64 ((a1.size : Int) - x7_3)) : Int).toNat), .int .i64 0, .int .i64 0, .string (⟨#[]⟩ : ByteArray), .int .i64 (wrap64 ((wrap64 ((a0.size : Int) - x7_3)) - x6_6)), .int .i64 x7_3, .string (⟨#[]⟩ : ByteArray), .int .i64 0]) (ok := fun _ => True) (okp := fun _ => True) ?hr ?hp (fun _ hk => hk) trivial (Below.refl _ _) (Nat.le_refl _) (by simp) ?_; (case hd => rfl); (case hg => rfl); (case hr => first | (go_simp; done) | (go_simp; rfl)); (case hp => exact (Reps.c3 (show Kd.M k37 _ _ _ (⟨x6_6, (⟨#[]⟩ : ByteArray), 0⟩ : S37) [.int .i64 x6_6, .string (⟨#[]⟩ : ByteArray), .int .i64 0] from (k37_mkM _ _ _ (⟨x6_6, (⟨#[]⟩ : ByteArray), 0⟩ : S37) )) (Reps.c3 (show Kd.M k37 _ _ _ (⟨0, a1.extract (x6_6 : Int).toNat ((wrap64 ((a1.size : Int) - x7_3)) : Int).toNat, 0⟩ : S37) [.int .i64 0, .string (a1.extract (x6_6 : Int).toNat ((wrap64 ((a1.size : Int) - x7_3)) : Int).toNat), .int .i64 0] from (k37_mkM _ _ _ (⟨0, a1.extract (x6_6 : Int).toNat ((wrap64 ((a1.size : Int) - x7_3)) : Int).toNat, 0⟩ : S37) )) (Reps.c3 (show Kd.M k37 _ _ _ (⟨0, (⟨#[]⟩ : ByteArray), wrap64 ((wrap64 ((a0.size : Int) - x7_3)) - x6_6)⟩ : S37) [.int .i64 0, .string (⟨#[]⟩ : ByteArray), .int .i64 (wrap64 ((wrap64 ((a0.size : Int) - x7_3)) - x6_6))] from (k37_mkM _ _ _ (⟨0, (⟨#[]⟩ : ByteArray), wrap64 ((wrap64 ((a0.size : Int) - x7_3)) - x6_6)⟩ : S37) )) (Reps.c3 (show Kd.M k37 _ _ _ (⟨x7_3, (⟨#[]⟩ : ByteArray), 0⟩ : S37) [.int .i64 x7_3, .string (⟨#[]⟩ : ByteArray), .int .i64 0] from (k37_mkM _ _ _ (⟨x7_3, (⟨#[]⟩ : ByteArray), 0⟩ : S37) )) (Reps.none _ _)))))); intro v485 w29 ho30 hb hg_ hnew_; clear hg_ hnew_; (first | rw [← Ny484.out] at ho30 | (simp only [Int.reduceToNat] at ho30; rw [← Ny484.out] at ho30)); have n0_ := Aside0.mk (Kd.R_lower ho30 (below_size (by repeat (first | (with_reducible first | exact HB.out | apply below_alloc | apply pw_below_drewN | apply below_drew1) | exact HB.out)))); have n1_ := Aside0.mk (below_step (by repeat (first | (with_reducible first | exact HB.out | apply below_alloc | apply pw_below_drewN | apply below_drew1) | exact HB.out)) hb); clear HB; have HO486 := n0_; have HB := n1_; clear n0_ n1_; clear hb ho30; obtain ⟨Ao31, co31, eo31⟩ := Kd.R_slice HO486.out; subst eo31) | (go_at_call 23; (with_reducible refine (edit_Norm.calls _ _ y484 t487 _ ?side1 ?side2 A28.out).mono ?_); (case side1 => repeat (first | exact (Kd.R_reads' HO486.out).2.2 | (with_reducible refine Kd.C_alloc ?_ _) | (with_reducible refine Kd.C_drewN ?_ _) | (with_reducible refine Kd.C_drew ?_))); (case side2 => exact (Kd.R_reads' HO486.out).2.1); rintro e w32 ⟨v488, rfl, ho0, hb⟩; have n0_ := Aside0.mk (Kd.R_elder' (by (with_reducible repeat (first | apply Kd.R_alloc | apply Kd.R_drewN | apply Kd.R_drew)); exact HO486.out) (Kd.R_base ho0) hb); have n1_ := Aside0.mk (Kd.R_lower (Kd.R_new' ho0 (Kd.R_lt (by (with_reducible repeat (first | apply Kd.R_alloc | apply Kd.R_drewN | apply Kd.R_drew)); exact HO486.out))) (below_size (by repeat (first | (with_reducible first | exact HB.out | apply below_alloc | apply pw_below_drewN | apply below_drew1) | exact HB.out)))); have n2_ := Aside0.mk (below_step (by repeat (first | (with_reducible first | exact HB.out | apply below_alloc | apply pw_below_drewN | apply below_drew1) | exact HB.out)) hb); clear HO486; clear HB; have HO486 := n0_; have HO489 := n1_; have HB := n2_; clear n0_ n1_ n2_; (try clear hb); (try clear hb2); (try clear hk); (try clear hi); (try clear ho0)))
                                  repeat (go_quiet (first | ((with_reducible refine gate_dst (N := 78) rfl ?_); (try (refine gate_guard (by rfl) ?_; dsimp only)); refine Kd.R_lit k37 _ 37 ?hg (N := 78) ?hd (xs := ([(⟨x6_6, (⟨#[]⟩ : ByteArray), 0⟩ : S37), (⟨0, a1.extract (x6_6 : Int).toNat ((wrap64 ((a1.size : Int) - x7_3)) : Int).toNat, 0⟩ : S37), (⟨0, (⟨#[]⟩ : ByteArray), wrap64 ((wrap64 ((a0.size : Int) - x7_3)) - x6_6)⟩ : S37), (⟨x7_3, (⟨#[]⟩ : ByteArray), 0⟩ : S37)] : List (S37))) (inner := [.int .i64 x6_6, .string (⟨#[]⟩ : ByteArray), .int .i64 0, .int .i64 0, .string (a1.extract (x6_6 : Int).toNat ((wrap64 ((a1.size : Int) - x7_3)) : Int).toNat), .int .i64 0, .int .i64 0, .string (⟨#[]⟩ : ByteArray), .int .i64 (wrap64 ((wrap64 ((a0.size : Int) - x7_3)) - x6_6)), .int .i64 x7_3, .string (⟨#[]⟩ : ByteArray), .int .i64 0]) (ok := fun _ => True) (okp := fun _ => True) ?hr ?hp (fun _ hk => hk) trivial (Below.refl _ _) (Nat.le_refl _) (by simp) ?_; (case hd => rfl); (case hg => rfl); (case hr => first | (go_simp; done) | (go_simp; rfl)); (case hp => exact (Reps.c3 (show Kd.M k37 _ _ _ (⟨x6_6, (⟨#[]⟩ : ByteArray), 0⟩ : S37) [.int .i64 x6_6, .string (⟨#[]⟩ : ByteArray), .int .i64 0] from (k37_mkM _ _ _ (⟨x6_6, (⟨#[]⟩ : ByteArray), 0⟩ : S37) )) (Reps.c3 (show Kd.M k37 _ _ _ (⟨0, a1.extract (x6_6 : Int).toNat ((wrap64 ((a1.size : Int) - x7_3)) : Int).toNat, 0⟩ : S37) [.int .i64 0, .string (a1.extract (x6_6 : Int).toNat ((wrap64 ((a1.size : Int) - x7_3)) : Int).toNat), .int .i64 0] from (k37_mkM _ _ _ (⟨0, a1.extract (x6_6 : Int).toNat ((wrap64 ((a1.size : Int) - x7_3)) : Int).toNat, 0⟩ : S37) )) (Reps.c3 (show Kd.M k37 _ _ _ (⟨0, (⟨#[]⟩ : ByteArray), wrap64 ((wrap64 ((a0.size : Int) - x7_3)) - x6_6)⟩ : S37) [.int .i64 0, .string (⟨#[]⟩ : ByteArray), .int .i64 (wrap64 ((wrap64 ((a0.size : Int) - x7_3)) - x6_6))] from (k37_mkM _ _ _ (⟨0, (⟨#[]⟩ : ByteArray), wrap64 ((wrap64 ((a0.size : Int) - x7_3)) - x6_6)⟩ : S37) )) (Reps.c3 (show Kd.M k37 _ _ _ (⟨x7_3, (⟨#[]⟩ : ByteArray), 0⟩ : S37) [.int .i64 x7_3, .string (⟨#[]⟩ : ByteArray), .int .i64 0] from (k37_mkM _ _ _ (⟨x7_3, (⟨#[]⟩ : ByteArray), 0⟩ : S37) )) (Reps.none _ _)))))); intro v485 w29 ho30 hb hg_ hnew_; clear hg_ hnew_; (first | rw [← Ny484.out] at ho30 | (simp only [Int.reduceToNat] at ho30; rw [← Ny484.out] at ho30)); have n0_ := Aside0.mk (Kd.R_lower ho30 (below_size (by repeat (first | (with_reducible first | exact HB.out | apply below_alloc | apply pw_below_drewN | apply below_drew1) | exact HB.out)))); have n1_ := Aside0.mk (below_step (by repeat (first | (with_reducible first | exact HB.out | apply below_alloc | apply pw_below_drewN | apply below_drew1) | exact HB.out)) hb); clear HB; have HO486 := n0_; have HB := n1_; clear n0_ n1_; clear hb ho30; obtain ⟨Ao31, co31, eo31⟩ := Kd.R_slice HO486.out; subst eo31) | (go_at_call 23; (with_reducible refine (edit_Norm.calls _ _ y484 t487 _ ?side1 ?side2 A28.out).mono ?_); (case side1 => repeat (first | exact (Kd.R_reads' HO486.out).2.2 | (with_reducible refine Kd.C_alloc ?_ _) | (with_reducible refine Kd.C_drewN ?_ _) | (with_reducible refine Kd.C_drew ?_))); (case side2 => exact (Kd.R_reads' HO486.out).2.1); rintro e w32 ⟨v488, rfl, ho0, hb⟩; have n0_ := Aside0.mk (Kd.R_elder' (by (with_reducible repeat (first | apply Kd.R_alloc | apply Kd.R_drewN | apply Kd.R_drew)); exact HO486.out) (Kd.R_base ho0) hb); have n1_ := Aside0.mk (Kd.R_lower (Kd.R_new' ho0 (Kd.R_lt (by (with_reducible repeat (first | apply Kd.R_alloc | apply Kd.R_drewN | apply Kd.R_drew)); exact HO486.out))) (below_size (by repeat (first | (with_reducible first | exact HB.out | apply below_alloc | apply pw_below_drewN | apply below_drew1) | exact HB.out)))); have n2_ := Aside0.mk (below_step (by repeat (first | (with_reducible first | exact HB.out | apply below_alloc | apply pw_below_drewN | apply below_drew1) | exact HB.out)) hb); clear HO486; clear HB; have HO486 := n0_; have HO489 := n1_; have HB := n2_; clear n0_ n1_ n2_; (try clear hb); (try clear hb2); (try clear hk); (try clear hi); (try clear ho0))); try go_wp2_with (first | ((with_reducible refine gate_dst (N := 78) rfl ?_); (try (refine gate_guard (by rfl) ?_; dsimp only)); refine Kd.R_lit k37 _ 37 ?hg (N := 78) ?hd (xs := ([(⟨x6_6, (⟨#[]⟩ : ByteArray), 0⟩ : S37), (⟨0, a1.extract (x6_6 : Int).toNat ((wrap64 ((a1.size : Int) - x7_3)) : Int).toNat, 0⟩ : S37), (⟨0, (⟨#[]⟩ : ByteArray), wrap64 ((wrap64 ((a0.size : Int) - x7_3)) - x6_6)⟩ : S37), (⟨x7_3, (⟨#[]⟩ : ByteArray), 0⟩ : S37)] : List (S37))) (inner := [.int .i64 x6_6, .string (⟨#[]⟩ : ByteArray), .int .i64 0, .int .i64 0, .string (a1.extract (x6_6 : Int).toNat ((wrap64 ((a1.size : Int) - x7_3)) : Int).toNat), .int .i64 0, .int .i64 0, .string (⟨#[]⟩ : ByteArray), .int .i64 (wrap64 ((wrap64 ((a0.size : Int) - x7_3)) - x6_6)), .int .i64 x7_3, .string (⟨#[]⟩ : ByteArray), .int .i64 0]) (ok := fun _ => True) (okp := fun _ => True) ?hr ?hp (fun _ hk => hk) trivial (Below.refl _ _) (Nat.le_refl _) (by simp) ?_; (case hd => rfl); (case hg => rfl); (case hr => first | (go_simp; done) | (go_simp; rfl)); (case hp => exact (Reps.c3 (show Kd.M k37 _ _ _ (⟨x6_6, (⟨#[]⟩ : ByteArray), 0⟩ : S37) [.int .i64 x6_6, .string (⟨#[]⟩ : ByteArray), .int .i64 0] from (k37_mkM _ _ _ (⟨x6_6, (⟨#[]⟩ : ByteArray), 0⟩ : S37) )) (Reps.c3 (show Kd.M k37 _ _ _ (⟨0, a1.extract (x6_6 : Int).toNat ((wrap64 ((a1.size : Int) - x7_3)) : Int).toNat, 0⟩ : S37) [.int .i64 0, .string (a1.extract (x6_6 : Int).toNat ((wrap64 ((a1.size : Int) - x7_3)) : Int).toNat), .int .i64 0] from (k37_mkM _ _ _ (⟨0, a1.extract (x6_6 : Int).toNat ((wrap64 ((a1.size : Int) - x7_3)) : Int).toNat, 0⟩ : S37) )) (Reps.c3 (show Kd.M k37 _ _ _ (⟨0, (⟨#[]⟩ : ByteArray), wrap64 ((wrap64 ((a0.size : Int) - x7_3)) - x6_6)⟩ : S37) [.int .i64 0, .string (⟨#[]⟩ : ByteArray), .int .i64 (wrap64 ((wrap64 ((a0.size : Int) - x7_3)) - x6_6))] from (k37_mkM _ _ _ (⟨0, (⟨#[]⟩ : ByteArray), wrap64 ((wrap64 ((a0.size : Int) - x7_3)) - x6_6)⟩ : S37) )) (Reps.c3 (show Kd.M k37 _ _ _ (⟨x7_3, (⟨#[]⟩ : ByteArray), 0⟩ : S37) [.int .i64 x7_3, .string (⟨#[]⟩ : ByteArray), .int .i64 0] from (k37_mkM _ _ _ (⟨x7_3, (⟨#[]⟩ : ByteArray), 0⟩ : S37) )) (Reps.none _ _)))))); intro v485 w29 ho30 hb hg_ hnew_; clear hg_ hnew_; (first | rw [← Ny484.out] at ho30 | (simp only [Int.reduceToNat] at ho30; rw [← Ny484.out] at ho30)); have n0_ := Aside0.mk (Kd.R_lower ho30 (below_size (by repeat (first | (with_reducible first | exact HB.out | apply below_alloc | apply pw_below_drewN | apply below_drew1) | exact HB.out)))); have n1_ := Aside0.mk (below_step (by repeat (first | (with_reducible first | exact HB.out | apply below_alloc | apply pw_below_drewN | apply below_drew1) | exact HB.out)) hb); clear HB; have HO486 := n0_; have HB := n1_; clear n0_ n1_; clear hb ho30; obtain ⟨Ao31, co31, eo31⟩ := Kd.R_slice HO486.out; subst eo31) | (go_at_call 23; (with_reducible refine (edit_Norm.calls _ _ y484 t487 _ ?side1 ?side2 A28.out).mono ?_); (case side1 => repeat (first | exact (Kd.R_reads' HO486.out).2.2 | (with_reducible refine Kd.C_alloc ?_ _) | (with_reducible refine Kd.C_drewN ?_ _) | (with_reducible refine Kd.C_drew ?_))); (case side2 => exact (Kd.R_reads' HO486.out).2.1); rintro e w32 ⟨v488, rfl, ho0, hb⟩; have n0_ := Aside0.mk (Kd.R_elder' (by (with_reducible repeat (first | apply Kd.R_alloc | apply Kd.R_drewN | apply Kd.R_drew)); exact HO486.out) (Kd.R_base ho0) hb); have n1_ := Aside0.mk (Kd.R_lower (Kd.R_new' ho0 (Kd.R_lt (by (with_reducible repeat (first | apply Kd.R_alloc | apply Kd.R_drewN | apply Kd.R_drew)); exact HO486.out))) (below_size (by repeat (first | (with_reducible first | exact HB.out | apply below_alloc | apply pw_below_drewN | apply below_drew1) | exact HB.out)))); have n2_ := Aside0.mk (below_step (by repeat (first | (with_reducible first | exact HB.out | apply below_alloc | apply pw_below_drewN | apply below_drew1) | exact HB.out)) hb); clear HO486; clear HB; have HO486 := n0_; have HO489 := n1_; have HB := n2_; clear n0_ n1_ n2_; (try clear hb); (try clear hb2); (try clear hk); (try clear hi); (try clear ho0))))
                                  go_ret
                                  exact ⟨_, by first | rfl | (simp [errW_none, errW_some] <;> rfl) | (simp only [← hji6, ← hji16, ← hji20]; first | rfl | (simp [errW_none, errW_some] <;> rfl)) | (simp [*, errW_none, errW_some] <;> rfl), by (with_reducible repeat (first | apply Kd.R_alloc | apply Kd.R_drewN | apply Kd.R_drew)); exact Kd.R_mono HO489.out (fun _ hk => trivial), by repeat (first | (with_reducible first | exact HB.out | apply below_alloc | apply pw_below_drewN | apply below_drew1) | exact HB.out)⟩
                                · rw [if_neg c27] at H
                                  exact absurd H (by simp)
                              · rw [if_neg c26] at H
                                exact absurd H (by simp)
                            · rw [if_neg c25] at H
                              exact absurd H (by simp)
                        · rw [if_neg c22] at H
                          exact absurd H (by simp)
                      · rw [if_neg c21] at H
                        exact absurd H (by simp)
                    · rw [if_neg c18] at H
                      exact absurd H (by simp)
                  · rw [if_neg c17] at H
                    exact absurd H (by simp)
                · rw [if_neg c15] at H
                  have c15b0 : decide (x7_3 < (wrap64 (ji6 - x6_6))) = false := decide_eq_false c15
                  clear c15
                  by_cases c33 : 0 ≤ x6_6
                  · rw [if_pos c33] at H
                    have c33b0 := eq_true c33
                    have c33b1 : decide (0 ≤ x6_6) = true := decide_eq_true c33
                    clear c33
                    by_cases c34 : x6_6 ≤ (wrap64 ((a1.size : Int) - x7_3))
                    · rw [if_pos c34] at H
                      have c34b0 := eq_true c34
                      have c34b1 : decide (x6_6 ≤ (wrap64 ((a1.size : Int) - x7_3))) = true := decide_eq_true c34
                      clear c34
                      by_cases c35 : (wrap64 ((a1.size : Int) - x7_3)) ≤ (a1.size : Int)
                      · rw [if_pos c35] at H
                        have c35b0 := eq_true c35
                        have c35b1 : decide ((wrap64 ((a1.size : Int) - x7_3)) ≤ (a1.size : Int)) = true := decide_eq_true c35
                        clear c35
                        obtain ⟨y490, hy490⟩ : ∃ y_ : List (S37), y_ = (([(⟨x6_6, (⟨#[]⟩ : ByteArray), 0⟩ : S37), (⟨0, a1.extract (x6_6 : Int).toNat ((wrap64 ((a1.size : Int) - x7_3)) : Int).toNat, 0⟩ : S37), (⟨0, (⟨#[]⟩ : ByteArray), wrap64 ((wrap64 ((a0.size : Int) - x7_3)) - x6_6)⟩ : S37), (⟨x7_3, (⟨#[]⟩ : ByteArray), 0⟩ : S37)] : List (S37))) := ⟨_, rfl⟩
                        replace H : ((edit_Norm.f y490).bind fun t493 => (some t493)) = some r := by first | (rw [hy490]; with_reducible exact H) | (have H2_ := (Option.bind_some _ _).symm.trans H; rw [hy490]; with_reducible exact H2_) | (have H2_ := (Option.bind_some _ _).symm.trans H; with_reducible exact H2_) | with_reducible exact H | (rw [hy490]; exact H) | exact H
                        have Ny490 := Aside0.mk hy490
                        clear hy490
                        replace H := Option.bind_eq_some_iff.mp H
                        obtain ⟨t493, A360, H⟩ := H
                        replace H : (some t493) = some r := H
                        have A36 := Aside0.mk A360
                        clear A360
                        obtain rfl := Option.some.inj H
                        go_wp2_with (first | ((with_reducible refine gate_dst (N := 78) rfl ?_); (try (refine gate_guard (by rfl) ?_; dsimp only)); refine Kd.R_lit k37 _ 37 ?hg (N := 78) ?hd (xs := ([(⟨x6_6, (⟨#[]⟩ : ByteArray), 0⟩ : S37), (⟨0, a1.extract (x6_6 : Int).toNat ((wrap64 ((a1.size : Int) - x7_3)) : Int).toNat, 0⟩ : S37), (⟨0, (⟨#[]⟩ : ByteArray), wrap64 ((wrap64 ((a0.size : Int) - x7_3)) - x6_6)⟩ : S37), (⟨x7_3, (⟨#[]⟩ : ByteArray), 0⟩ : S37)] : List (S37))) (inner := [.int .i64 x6_6, .string (⟨#[]⟩ : ByteArray), .int .i64 0, .int .i64 0, .string (a1.extract (x6_6 : Int).toNat ((wrap64 ((a1.size : Int) - x7_3)) : Int).toNat), .int .i64 0, .int .i64 0, .string (⟨#[]⟩ : ByteArray), .int .i64 (wrap64 ((wrap64 ((a0.size : Int) - x7_3)) - x6_6)), .int .i64 x7_3, .string (⟨#[]⟩ : ByteArray), .int .i64 0]) (ok := fun _ => True) (okp := fun _ => True) ?hr ?hp (fun _ hk => hk) trivial (Below.refl _ _) (Nat.le_refl _) (by simp) ?_; (case hd => rfl); (case hg => rfl); (case hr => first | (go_simp; done) | (go_simp; rfl)); (case hp => exact (Reps.c3 (show Kd.M k37 _ _ _ (⟨x6_6, (⟨#[]⟩ : ByteArray), 0⟩ : S37) [.int .i64 x6_6, .string (⟨#[]⟩ : ByteArray), .int .i64 0] from (k37_mkM _ _ _ (⟨x6_6, (⟨#[]⟩ : ByteArray), 0⟩ : S37) )) (Reps.c3 (show Kd.M k37 _ _ _ (⟨0, a1.extract (x6_6 : Int).toNat ((wrap64 ((a1.size : Int) - x7_3)) : Int).toNat, 0⟩ : S37) [.int .i64 0, .string (a1.extract (x6_6 : Int).toNat ((wrap64 ((a1.size : Int) - x7_3)) : Int).toNat), .int .i64 0] from (k37_mkM _ _ _ (⟨0, a1.extract (x6_6 : Int).toNat ((wrap64 ((a1.size : Int) - x7_3)) : Int).toNat, 0⟩ : S37) )) (Reps.c3 (show Kd.M k37 _ _ _ (⟨0, (⟨#[]⟩ : ByteArray), wrap64 ((wrap64 ((a0.size : Int) - x7_3)) - x6_6)⟩ : S37) [.int .i64 0, .string (⟨#[]⟩ : ByteArray), .int .i64 (wrap64 ((wrap64 ((a0.size : Int) - x7_3)) - x6_6))] from (k37_mkM _ _ _ (⟨0, (⟨#[]⟩ : ByteArray), wrap64 ((wrap64 ((a0.size : Int) - x7_3)) - x6_6)⟩ : S37) )) (Reps.c3 (show Kd.M k37 _ _ _ (⟨x7_3, (⟨#[]⟩ : ByteArray), 0⟩ : S37) [.int .i64 x7_3, .string (⟨#[]⟩ : ByteArray), .int .i64 0] from (k37_mkM _ _ _ (⟨x7_3, (⟨#[]⟩ : ByteArray), 0⟩ : S37) )) (Reps.none _ _)))))); intro v491 w37 ho38 hb hg_ hnew_; clear hg_ hnew_; (first | rw [← Ny490.out] at ho38 | (simp only [Int.reduceToNat] at ho38; rw [← Ny490.out] at ho38)); have n0_ := Aside0.mk (Kd.R_lower ho38 (below_size (by repeat (first | (with_reducible first | exact HB.out | apply below_alloc | apply pw_below_drewN | apply below_drew1) | exact HB.out)))); have n1_ := Aside0.mk (below_step (by repeat (first | (with_reducible first | exact HB.out | apply below_alloc | apply pw_below_drewN | apply below_drew1) | exact HB.out)) hb); clear HB; have HO492 := n0_; have HB := n1_; clear n0_ n1_; clear hb ho38; obtain ⟨Ao39, co39, eo39⟩ := Kd.R_slice HO492.out; subst eo39) | (go_at_call 23; (with_reducible refine (edit_Norm.calls _ _ y490 t493 _ ?side1 ?side2 A36.out).mono ?_); (case side1 => repeat (first | exact (Kd.R_reads' HO492.out).2.2 | (with_reducible refine Kd.C_alloc ?_ _) | (with_reducible refine Kd.C_drewN ?_ _) | (with_reducible refine Kd.C_drew ?_))); (case side2 => exact (Kd.R_reads' HO492.out).2.1); rintro e w40 ⟨v494, rfl, ho0, hb⟩; have n0_ := Aside0.mk (Kd.R_elder' (by (with_reducible repeat (first | apply Kd.R_alloc | apply Kd.R_drewN | apply Kd.R_drew)); exact HO492.out) (Kd.R_base ho0) hb); have n1_ := Aside0.mk (Kd.R_lower (Kd.R_new' ho0 (Kd.R_lt (by (with_reducible repeat (first | apply Kd.R_alloc | apply Kd.R_drewN | apply Kd.R_drew)); exact HO492.out))) (below_size (by repeat (first | (with_reducible first | exact HB.out | apply below_alloc | apply pw_below_drewN | apply below_drew1) | exact HB.out)))); have n2_ := Aside0.mk (below_step (by repeat (first | (with_reducible first | exact HB.out | apply below_alloc | apply pw_below_drewN | apply below_drew1) | exact HB.out)) hb); clear HO492; clear HB; have HO492 := n0_; have HO495 := n1_; have HB := n2_; clear n0_ n1_ n2_; (try clear hb); (try clear hb2); (try clear hk); (try clear hi); (try clear ho0)))
                        repeat (go_quiet (first | ((with_reducible refine gate_dst (N := 78) rfl ?_); (try (refine gate_guard (by rfl) ?_; dsimp only)); refine Kd.R_lit k37 _ 37 ?hg (N := 78) ?hd (xs := ([(⟨x6_6, (⟨#[]⟩ : ByteArray), 0⟩ : S37), (⟨0, a1.extract (x6_6 : Int).toNat ((wrap64 ((a1.size : Int) - x7_3)) : Int).toNat, 0⟩ : S37), (⟨0, (⟨#[]⟩ : ByteArray), wrap64 ((wrap64 ((a0.size : Int) - x7_3)) - x6_6)⟩ : S37), (⟨x7_3, (⟨#[]⟩ : ByteArray), 0⟩ : S37)] : List (S37))) (inner := [.int .i64 x6_6, .string (⟨#[]⟩ : ByteArray), .int .i64 0, .int .i64 0, .string (a1.extract (x6_6 : Int).toNat ((wrap64 ((a1.size : Int) - x7_3)) : Int).toNat), .int .i64 0, .int .i64 0, .string (⟨#[]⟩ : ByteArray), .int .i64 (wrap64 ((wrap64 ((a0.size : Int) - x7_3)) - x6_6)), .int .i64 x7_3, .string (⟨#[]⟩ : ByteArray), .int .i64 0]) (ok := fun _ => True) (okp := fun _ => True) ?hr ?hp (fun _ hk => hk) trivial (Below.refl _ _) (Nat.le_refl _) (by simp) ?_; (case hd => rfl); (case hg => rfl); (case hr => first | (go_simp; done) | (go_simp; rfl)); (case hp => exact (Reps.c3 (show Kd.M k37 _ _ _ (⟨x6_6, (⟨#[]⟩ : ByteArray), 0⟩ : S37) [.int .i64 x6_6, .string (⟨#[]⟩ : ByteArray), .int .i64 0] from (k37_mkM _ _ _ (⟨x6_6, (⟨#[]⟩ : ByteArray), 0⟩ : S37) )) (Reps.c3 (show Kd.M k37 _ _ _ (⟨0, a1.extract (x6_6 : Int).toNat ((wrap64 ((a1.size : Int) - x7_3)) : Int).toNat, 0⟩ : S37) [.int .i64 0, .string (a1.extract (x6_6 : Int).toNat ((wrap64 ((a1.size : Int) - x7_3)) : Int).toNat), .int .i64 0] from (k37_mkM _ _ _ (⟨0, a1.extract (x6_6 : Int).toNat ((wrap64 ((a1.size : Int) - x7_3)) : Int).toNat, 0⟩ : S37) )) (Reps.c3 (show Kd.M k37 _ _ _ (⟨0, (⟨#[]⟩ : ByteArray), wrap64 ((wrap64 ((a0.size : Int) - x7_3)) - x6_6)⟩ : S37) [.int .i64 0, .string (⟨#[]⟩ : ByteArray), .int .i64 (wrap64 ((wrap64 ((a0.size : Int) - x7_3)) - x6_6))] from (k37_mkM _ _ _ (⟨0, (⟨#[]⟩ : ByteArray), wrap64 ((wrap64 ((a0.size : Int) - x7_3)) - x6_6)⟩ : S37) )) (Reps.c3 (show Kd.M k37 _ _ _ (⟨x7_3, (⟨#[]⟩ : ByteArray), 0⟩ : S37) [.int .i64 x7_3, .string (⟨#[]⟩ : ByteArray), .int .i64 0] from (k37_mkM _ _ _ (⟨x7_3, (⟨#[]⟩ : ByteArray), 0⟩ : S37) )) (Reps.none _ _)))))); intro v491 w37 ho38 hb hg_ hnew_; clear hg_ hnew_; (first | rw [← Ny490.out] at ho38 | (simp only [Int.reduceToNat] at ho38; rw [← Ny490.out] at ho38)); have n0_ := Aside0.mk (Kd.R_lower ho38 (below_size (by repeat (first | (with_reducible first | exact HB.out | apply below_alloc | apply pw_below_drewN | apply below_drew1) | exact HB.out)))); have n1_ := Aside0.mk (below_step (by repeat (first | (with_reducible first | exact HB.out | apply below_alloc | apply pw_below_drewN | apply below_drew1) | exact HB.out)) hb); clear HB; have HO492 := n0_; have HB := n1_; clear n0_ n1_; clear hb ho38; obtain ⟨Ao39, co39, eo39⟩ := Kd.R_slice HO492.out; subst eo39) | (go_at_call 23; (with_reducible refine (edit_Norm.calls _ _ y490 t493 _ ?side1 ?side2 A36.out).mono ?_); (case side1 => repeat (first | exact (Kd.R_reads' HO492.out).2.2 | (with_reducible refine Kd.C_alloc ?_ _) | (with_reducible refine Kd.C_drewN ?_ _) | (with_reducible refine Kd.C_drew ?_))); (case side2 => exact (Kd.R_reads' HO492.out).2.1); rintro e w40 ⟨v494, rfl, ho0, hb⟩; have n0_ := Aside0.mk (Kd.R_elder' (by (with_reducible repeat (first | apply Kd.R_alloc | apply Kd.R_drewN | apply Kd.R_drew)); exact HO492.out) (Kd.R_base ho0) hb); have n1_ := Aside0.mk (Kd.R_lower (Kd.R_new' ho0 (Kd.R_lt (by (with_reducible repeat (first | apply Kd.R_alloc | apply Kd.R_drewN | apply Kd.R_drew)); exact HO492.out))) (below_size (by repeat (first | (with_reducible first | exact HB.out | apply below_alloc | apply pw_below_drewN | apply below_drew1) | exact HB.out)))); have n2_ := Aside0.mk (below_step (by repeat (first | (with_reducible first | exact HB.out | apply below_alloc | apply pw_below_drewN | apply below_drew1) | exact HB.out)) hb); clear HO492; clear HB; have HO492 := n0_; have HO495 := n1_; have HB := n2_; clear n0_ n1_ n2_; (try clear hb); (try clear hb2); (try clear hk); (try clear hi); (try clear ho0))); try go_wp2_with (first | ((with_reducible refine gate_dst (N := 78) rfl ?_); (try (refine gate_guard (by rfl) ?_; dsimp only)); refine Kd.R_lit k37 _ 37 ?hg (N := 78) ?hd (xs := ([(⟨x6_6, (⟨#[]⟩ : ByteArray), 0⟩ : S37), (⟨0, a1.extract (x6_6 : Int).toNat ((wrap64 ((a1.size : Int) - x7_3)) : Int).toNat, 0⟩ : S37), (⟨0, (⟨#[]⟩ : ByteArray), wrap64 ((wrap64 ((a0.size : Int) - x7_3)) - x6_6)⟩ : S37), (⟨x7_3, (⟨#[]⟩ : ByteArray), 0⟩ : S37)] : List (S37))) (inner := [.int .i64 x6_6, .string (⟨#[]⟩ : ByteArray), .int .i64 0, .int .i64 0, .string (a1.extract (x6_6 : Int).toNat ((wrap64 ((a1.size : Int) - x7_3)) : Int).toNat), .int .i64 0, .int .i64 0, .string (⟨#[]⟩ : ByteArray), .int .i64 (wrap64 ((wrap64 ((a0.size : Int) - x7_3)) - x6_6)), .int .i64 x7_3, .string (⟨#[]⟩ : ByteArray), .int .i64 0]) (ok := fun _ => True) (okp := fun _ => True) ?hr ?hp (fun _ hk => hk) trivial (Below.refl _ _) (Nat.le_refl _) (by simp) ?_; (case hd => rfl); (case hg => rfl); (case hr => first | (go_simp; done) | (go_simp; rfl)); (case hp => exact (Reps.c3 (show Kd.M k37 _ _ _ (⟨x6_6, (⟨#[]⟩ : ByteArray), 0⟩ : S37) [.int .i64 x6_6, .string (⟨#[]⟩ : ByteArray), .int .i64 0] from (k37_mkM _ _ _ (⟨x6_6, (⟨#[]⟩ : ByteArray), 0⟩ : S37) )) (Reps.c3 (show Kd.M k37 _ _ _ (⟨0, a1.extract (x6_6 : Int).toNat ((wrap64 ((a1.size : Int) - x7_3)) : Int).toNat, 0⟩ : S37) [.int .i64 0, .string (a1.extract (x6_6 : Int).toNat ((wrap64 ((a1.size : Int) - x7_3)) : Int).toNat), .int .i64 0] from (k37_mkM _ _ _ (⟨0, a1.extract (x6_6 : Int).toNat ((wrap64 ((a1.size : Int) - x7_3)) : Int).toNat, 0⟩ : S37) )) (Reps.c3 (show Kd.M k37 _ _ _ (⟨0, (⟨#[]⟩ : ByteArray), wrap64 ((wrap64 ((a0.size : Int) - x7_3)) - x6_6)⟩ : S37) [.int .i64 0, .string (⟨#[]⟩ : ByteArray), .int .i64 (wrap64 ((wrap64 ((a0.size : Int) - x7_3)) - x6_6))] from (k37_mkM _ _ _ (⟨0, (⟨#[]⟩ : ByteArray), wrap64 ((wrap64 ((a0.size : Int) - x7_3)) - x6_6)⟩ : S37) )) (Reps.c3 (show Kd.M k37 _ _ _ (⟨x7_3, (⟨#[]⟩ : ByteArray), 0⟩ : S37) [.int .i64 x7_3, .string (⟨#[]⟩ : ByteArray), .int .i64 0] from (k37_mkM _ _ _ (⟨x7_3, (⟨#[]⟩ : ByteArray), 0⟩ : S37) )) (Reps.none _ _)))))); intro v491 w37 ho38 hb hg_ hnew_; clear hg_ hnew_; (first | rw [← Ny490.out] at ho38 | (simp only [Int.reduceToNat] at ho38; rw [← Ny490.out] at ho38)); have n0_ := Aside0.mk (Kd.R_lower ho38 (below_size (by repeat (first | (with_reducible first | exact HB.out | apply below_alloc | apply pw_below_drewN | apply below_drew1) | exact HB.out)))); have n1_ := Aside0.mk (below_step (by repeat (first | (with_reducible first | exact HB.out | apply below_alloc | apply pw_below_drewN | apply below_drew1) | exact HB.out)) hb); clear HB; have HO492 := n0_; have HB := n1_; clear n0_ n1_; clear hb ho38; obtain ⟨Ao39, co39, eo39⟩ := Kd.R_slice HO492.out; subst eo39) | (go_at_call 23; (with_reducible refine (edit_Norm.calls _ _ y490 t493 _ ?side1 ?side2 A36.out).mono ?_); (case side1 => repeat (first | exact (Kd.R_reads' HO492.out).2.2 | (with_reducible refine Kd.C_alloc ?_ _) | (with_reducible refine Kd.C_drewN ?_ _) | (with_reducible refine Kd.C_drew ?_))); (case side2 => exact (Kd.R_reads' HO492.out).2.1); rintro e w40 ⟨v494, rfl, ho0, hb⟩; have n0_ := Aside0.mk (Kd.R_elder' (by (with_reducible repeat (first | apply Kd.R_alloc | apply Kd.R_drewN | apply Kd.R_drew)); exact HO492.out) (Kd.R_base ho0) hb); have n1_ := Aside0.mk (Kd.R_lower (Kd.R_new' ho0 (Kd.R_lt (by (with_reducible repeat (first | apply Kd.R_alloc | apply Kd.R_drewN | apply Kd.R_drew)); exact HO492.out))) (below_size (by repeat (first | (with_reducible first | exact HB.out | apply below_alloc | apply pw_below_drewN | apply below_drew1) | exact HB.out)))); have n2_ := Aside0.mk (below_step (by repeat (first | (with_reducible first | exact HB.out | apply below_alloc | apply pw_below_drewN | apply below_drew1) | exact HB.out)) hb); clear HO492; clear HB; have HO492 := n0_; have HO495 := n1_; have HB := n2_; clear n0_ n1_ n2_; (try clear hb); (try clear hb2); (try clear hk); (try clear hi); (try clear ho0))))
                        go_ret
                        exact ⟨_, by first | rfl | (simp [errW_none, errW_some] <;> rfl) | (simp only [← hji6]; first | rfl | (simp [errW_none, errW_some] <;> rfl)) | (simp [*, errW_none, errW_some] <;> rfl), by (with_reducible repeat (first | apply Kd.R_alloc | apply Kd.R_drewN | apply Kd.R_drew)); exact Kd.R_mono HO495.out (fun _ hk => trivial), by repeat (first | (with_reducible first | exact HB.out | apply below_alloc | apply pw_below_drewN | apply below_drew1) | exact HB.out)⟩
                      · rw [if_neg c35] at H
                        exact absurd H (by simp)
                    · rw [if_neg c34] at H
                      exact absurd H (by simp)
                  · rw [if_neg c33] at H
                    exact absurd H (by simp)

end Go.Proofs.Ythocalfgeaclgaa.P
end
-- MERGED YthocalfgeaclgaaPrunApply
section
-- Written by wip/myprint.py of this session, over the kit's print.py: a Lean function for each Go function, and the proof that the code comes to it.
namespace Go.Proofs.Ythocalfgeaclgaa.P
open Go.RowKit Go.Proofs.YthocalfgeaclgaaW.PrintWords Go.Proofs.YthocalfgeaclgaaW.PrintLast Go.Proofs.YthocalfgeaclgaaW.PrintMore
attribute [local go_sem] max2_int min2_int max_two min_two max_three min_three max_four min_four   -- for this text's walks alone
set_option linter.unusedVariables false
set_option linter.unusedSimpArgs false

/-! ### run_Apply: function 39 -/
-- NEEDS Derived.Test.YthocalfgeaclgaaRunA
def run_Apply.f (l0 : List (S37)) (a1 : ByteArray) : Option (ByteArray × Int) := if l0.length ≤ 140737488351232 ∧ a1.size ≤ 140737488351232 then some (RunA.app l0 a1) else none
theorem run_Apply.calls (A0 : Option Addr) (c0 : Nat) (l0 : List (S37)) (a1 : ByteArray) (r1 : ByteArray) (r2 : Int) (w : World) (hr0 : Kd.C k37 w A0 l0.length l0) (hc0 : l0.length ≤ c0) (h : run_Apply.f l0 a1 = some (r1, r2)) :
    Calls Try.prog 39 #[.slice A0 l0.length c0, .string a1] w fun e w' => e = .returned (.tuple #[.string r1, .int .i64 r2]) ∧ Below w.heap.size w w' := by
  unfold run_Apply.f at h
  by_cases hl : l0.length ≤ 140737488351232 ∧ a1.size ≤ 140737488351232
  · rw [if_pos hl] at h
    have h2 := Option.some.inj h
    have := RunA.apply_c A0 c0 l0 a1 w hr0 hc0 hl.1 hl.2
    rw [h2] at this
    exact this
  · rw [if_neg hl] at h; cases h

end Go.Proofs.Ythocalfgeaclgaa.P
end
-- MERGED YthocalfgeaclgaaPvariorumref07Fits
section
-- Written by wip/myprint.py of this session, over the kit's print.py: a Lean function for each Go function, and the proof that the code comes to it.
namespace Go.Proofs.Ythocalfgeaclgaa.P
open Go.RowKit Go.Proofs.YthocalfgeaclgaaW.PrintWords Go.Proofs.YthocalfgeaclgaaW.PrintLast Go.Proofs.YthocalfgeaclgaaW.PrintMore
attribute [local go_sem] max2_int min2_int max_two min_two max_three min_three max_four min_four   -- for this text's walks alone
set_option linter.unusedVariables false
set_option linter.unusedSimpArgs false

/-! ### variorumref07_Fits: function 38 -/
def variorumref07_Fits.f (k : Nat) (l0 : List (S37)) (a1 : ByteArray) : Option (Bool) := (variorumref06_Good.f l0).bind fun t459 => (if t459 = true then ((variorumref06_In.f k l0).bind fun t460 => (some (t460 == (a1.size : Int)))) else (some false))
theorem variorumref07_Fits.mono : ∀ a0 a1 k, LeO (variorumref07_Fits.f k a0 a1) (variorumref07_Fits.f (k + 1) a0 a1) := by
  intro a0 a1 k
  unfold variorumref07_Fits.f
  repeat' first
      | (with_reducible exact variorumref06_In.mono _ _)
      | (with_reducible exact LeO.refl _)
      | (with_reducible exact LeO.none _)
      | (with_reducible refine LeO.ite ?_ ?_)
      | (with_reducible refine LeO.bind ?_ (fun _ => ?_))
      | exact variorumref06_In.mono _ _
      | exact LeO.none _
      | refine LeO.ite ?_ ?_
      | refine LeO.bind ?_ (fun _ => ?_)
set_option maxHeartbeats 8000000 in
set_option maxRecDepth 100000 in
theorem variorumref07_Fits.calls (k : Nat) (A0 : Option Addr) (c0 : Nat) (l0 : List (S37)) (a1 : ByteArray) (r : Bool) (w : World) (hr0 : Kd.C k37 w A0 l0.length l0) (hc0 : l0.length ≤ c0) (h : variorumref07_Fits.f k l0 a1 = some r) :
    Calls Try.prog 38 #[.slice A0 l0.length c0, .string a1] w fun e w' => e = .returned (.bool r) ∧ Below w.heap.size w w' := by
  have HR0 := Aside0.mk hr0
  have HC0 := Aside0.mk hc0
  clear hr0 hc0
  have HB := Aside0.mk (Below.refl w.heap.size w)
  have H : ((variorumref06_Good.f l0).bind fun t459 => (if t459 = true then ((variorumref06_In.f k l0).bind fun t460 => (some (t460 == (a1.size : Int)))) else (some false))) = some r := h
  clear h
  replace H := Option.bind_eq_some_iff.mp H
  obtain ⟨t459, A30, H⟩ := H
  replace H : (if t459 = true then ((variorumref06_In.f k l0).bind fun t460 => (some (t460 == (a1.size : Int)))) else (some false)) = some r := H
  have A3 := Aside0.mk A30
  clear A30
  by_cases c4 : t459 = true
  · subst c4
    have H1 : ((variorumref06_In.f k l0).bind fun t460 => (some (t460 == (a1.size : Int)))) = some r := by rw [if_pos rfl] at H; exact H
    clear H
    have H := H1
    clear H1
    replace H := Option.bind_eq_some_iff.mp H
    obtain ⟨t460, A50, H⟩ := H
    replace H : (some (t460 == (a1.size : Int))) = some r := H
    have A5 := Aside0.mk A50
    clear A50
    obtain rfl := Option.some.inj H
    go_enter Try.func38, Try.ntmps38
    go_wp2_with (first | ((with_reducible refine gate_callee (f := 18) rfl ?_); refine goesL_ (some 6) rfl rfl Try.func18 (by kernel_rfl) rfl #[.slice A0 l0.length c0] rfl (by (try simp only [List.map_toArray, List.map_cons, List.map_nil]); first | done | rfl | (simp only [List.length_drop, List.length_take]; rfl)) ?_; (with_reducible refine (variorumref06_Good.calls _ _ l0 true _ ?side1 ?side2 A3.out).mono ?_); (case side1 => repeat (first | exact HR0.out | (with_reducible refine Kd.C_alloc ?_ _) | (with_reducible refine Kd.C_drewN ?_ _) | (with_reducible refine Kd.C_drew ?_))); (case side2 => exact HC0.out); rintro e w6 ⟨rfl, hb⟩; refine ⟨_, rfl, ?_⟩; have n0_ := Aside0.mk (below_step (by repeat (first | (with_reducible first | exact HB.out | apply below_alloc | apply pw_below_drewN | apply below_drew1) | exact HB.out)) hb); clear HB; have HB := n0_; clear n0_; (try clear hb); (try clear hb2); (try clear hk); (try clear hi)) | (go_at_call 19; (with_reducible refine (variorumref06_In.calls k _ _ l0 t460 _ ?side1 ?side2 A5.out).mono ?_); (case side1 => repeat (first | exact (Kd.C_below HR0.out HB.out) | (with_reducible refine Kd.C_alloc ?_ _) | (with_reducible refine Kd.C_drewN ?_ _) | (with_reducible refine Kd.C_drew ?_))); (case side2 => exact HC0.out); rintro e w7 ⟨rfl, hb⟩; have n0_ := Aside0.mk (below_step (by repeat (first | (with_reducible first | exact HB.out | apply below_alloc | apply pw_below_drewN | apply below_drew1) | exact HB.out)) hb); clear HB; have HB := n0_; clear n0_; (try clear hb); (try clear hb2); (try clear hk); (try clear hi)))
    go_ret
    exact ⟨by first | rfl | (simp [errW_none, errW_some] <;> rfl) | (simp [*, errW_none, errW_some] <;> rfl), by repeat (first | (with_reducible first | exact HB.out | apply below_alloc | apply pw_below_drewN | apply below_drew1) | exact HB.out)⟩
  · replace c4 := Bool.eq_false_iff.mpr c4
    subst c4
    have H1 : (some false) = some r := by rw [if_neg (show ¬ (false = true) by decide)] at H; exact H
    clear H
    have H := H1
    clear H1
    obtain rfl := Option.some.inj H
    go_enter Try.func38, Try.ntmps38
    go_wp2_with (first | ((with_reducible refine gate_callee (f := 18) rfl ?_); refine goesL_ (some 6) rfl rfl Try.func18 (by kernel_rfl) rfl #[.slice A0 l0.length c0] rfl (by (try simp only [List.map_toArray, List.map_cons, List.map_nil]); first | done | rfl | (simp only [List.length_drop, List.length_take]; rfl)) ?_; (with_reducible refine (variorumref06_Good.calls _ _ l0 false _ ?side1 ?side2 A3.out).mono ?_); (case side1 => repeat (first | exact HR0.out | (with_reducible refine Kd.C_alloc ?_ _) | (with_reducible refine Kd.C_drewN ?_ _) | (with_reducible refine Kd.C_drew ?_))); (case side2 => exact HC0.out); rintro e w8 ⟨rfl, hb⟩; refine ⟨_, rfl, ?_⟩; have n0_ := Aside0.mk (below_step (by repeat (first | (with_reducible first | exact HB.out | apply below_alloc | apply pw_below_drewN | apply below_drew1) | exact HB.out)) hb); clear HB; have HB := n0_; clear n0_; (try clear hb); (try clear hb2); (try clear hk); (try clear hi)))
    go_ret
    exact ⟨by first | rfl | (simp [errW_none, errW_some] <;> rfl) | (simp [*, errW_none, errW_some] <;> rfl), by repeat (first | (with_reducible first | exact HB.out | apply below_alloc | apply pw_below_drewN | apply below_drew1) | exact HB.out)⟩

end Go.Proofs.Ythocalfgeaclgaa.P
end
-- MERGED YthocalfgeaclgaaPvariorumlaw07lives
section
-- Written by wip/myprint.py of this session, over the kit's print.py: a Lean function for each Go function, and the proof that the code comes to it.
namespace Go.Proofs.Ythocalfgeaclgaa.P
open Go.RowKit Go.Proofs.YthocalfgeaclgaaW.PrintWords Go.Proofs.YthocalfgeaclgaaW.PrintLast Go.Proofs.YthocalfgeaclgaaW.PrintMore
attribute [local go_sem] max2_int min2_int max_two min_two max_three min_three max_four min_four   -- for this text's walks alone
set_option linter.unusedVariables false
set_option linter.unusedSimpArgs false

/-! ### variorumlaw07_lives: function 42 -/
def variorumlaw07_lives.f (k : Nat)  : Option (Bool) := (run_Apply.f (([(⟨1, (⟨#[]⟩ : ByteArray), 0⟩ : S37), (⟨0, (⟨#[120]⟩ : ByteArray), 0⟩ : S37), (⟨0, (⟨#[]⟩ : ByteArray), 1⟩ : S37)] : List (S37))) (⟨#[97, 98]⟩ : ByteArray)).bind fun bt499 => (if bt499.2 = 0 then (if bt499.1.toList = ([97, 120] : List UInt8) then ((run_Between.f k (⟨#[97, 98, 99, 100]⟩ : ByteArray) (⟨#[97, 98, 88, 100]⟩ : ByteArray)).bind fun t501 => ((variorumref06_Same.f k t501 (([(⟨2, (⟨#[]⟩ : ByteArray), 0⟩ : S37), (⟨0, (⟨#[88]⟩ : ByteArray), 0⟩ : S37), (⟨0, (⟨#[]⟩ : ByteArray), 1⟩ : S37), (⟨1, (⟨#[]⟩ : ByteArray), 0⟩ : S37)] : List (S37)))).bind fun t507 => (some t507))) else (some false)) else (some false))
theorem variorumlaw07_lives.mono : ∀ k, LeO (variorumlaw07_lives.f k ) (variorumlaw07_lives.f (k + 1) ) := by
  intro  k
  unfold variorumlaw07_lives.f
  repeat' first
      | (with_reducible exact run_Between.mono _ _ _)
      | (with_reducible exact variorumref06_Same.mono _ _ _)
      | (with_reducible exact LeO.refl _)
      | (with_reducible exact LeO.none _)
      | (with_reducible refine LeO.ite ?_ ?_)
      | (with_reducible refine LeO.bind ?_ (fun _ => ?_))
      | exact run_Between.mono _ _ _
      | exact variorumref06_Same.mono _ _ _
      | exact LeO.none _
      | refine LeO.ite ?_ ?_
      | refine LeO.bind ?_ (fun _ => ?_)
set_option maxHeartbeats 8000000 in
set_option maxRecDepth 100000 in
theorem variorumlaw07_lives.calls (k : Nat)  (r : Bool) (w : World) (h : variorumlaw07_lives.f k  = some r) :
    Calls Try.prog 42 #[] w fun e w' => e = .returned (.bool r) ∧ Below w.heap.size w w' := by
  have hu37 := Try.underlying37
  have HB := Aside0.mk (Below.refl w.heap.size w)
  have H : ((run_Apply.f (([(⟨1, (⟨#[]⟩ : ByteArray), 0⟩ : S37), (⟨0, (⟨#[120]⟩ : ByteArray), 0⟩ : S37), (⟨0, (⟨#[]⟩ : ByteArray), 1⟩ : S37)] : List (S37))) (⟨#[97, 98]⟩ : ByteArray)).bind fun bt499 => (if bt499.2 = 0 then (if bt499.1.toList = ([97, 120] : List UInt8) then ((run_Between.f k (⟨#[97, 98, 99, 100]⟩ : ByteArray) (⟨#[97, 98, 88, 100]⟩ : ByteArray)).bind fun t501 => ((variorumref06_Same.f k t501 (([(⟨2, (⟨#[]⟩ : ByteArray), 0⟩ : S37), (⟨0, (⟨#[88]⟩ : ByteArray), 0⟩ : S37), (⟨0, (⟨#[]⟩ : ByteArray), 1⟩ : S37), (⟨1, (⟨#[]⟩ : ByteArray), 0⟩ : S37)] : List (S37)))).bind fun t507 => (some t507))) else (some false)) else (some false))) = some r := h
  clear h
  obtain ⟨y496, hy496⟩ : ∃ y_ : List (S37), y_ = (([(⟨1, (⟨#[]⟩ : ByteArray), 0⟩ : S37), (⟨0, (⟨#[120]⟩ : ByteArray), 0⟩ : S37), (⟨0, (⟨#[]⟩ : ByteArray), 1⟩ : S37)] : List (S37))) := ⟨_, rfl⟩
  replace H : ((run_Apply.f y496 (⟨#[97, 98]⟩ : ByteArray)).bind fun bt499 => (if bt499.2 = 0 then (if bt499.1.toList = ([97, 120] : List UInt8) then ((run_Between.f k (⟨#[97, 98, 99, 100]⟩ : ByteArray) (⟨#[97, 98, 88, 100]⟩ : ByteArray)).bind fun t501 => ((variorumref06_Same.f k t501 (([(⟨2, (⟨#[]⟩ : ByteArray), 0⟩ : S37), (⟨0, (⟨#[88]⟩ : ByteArray), 0⟩ : S37), (⟨0, (⟨#[]⟩ : ByteArray), 1⟩ : S37), (⟨1, (⟨#[]⟩ : ByteArray), 0⟩ : S37)] : List (S37)))).bind fun t507 => (some t507))) else (some false)) else (some false))) = some r := by first | (rw [hy496]; with_reducible exact H) | (have H2_ := (Option.bind_some _ _).symm.trans H; rw [hy496]; with_reducible exact H2_) | (have H2_ := (Option.bind_some _ _).symm.trans H; with_reducible exact H2_) | with_reducible exact H | (rw [hy496]; exact H) | exact H
  have Ny496 := Aside0.mk hy496
  clear hy496
  replace H := Option.bind_eq_some_iff.mp H
  obtain ⟨⟨t499, t500⟩, A10, H⟩ := H
  replace H : (if t500 = 0 then (if t499.toList = ([97, 120] : List UInt8) then ((run_Between.f k (⟨#[97, 98, 99, 100]⟩ : ByteArray) (⟨#[97, 98, 88, 100]⟩ : ByteArray)).bind fun t501 => ((variorumref06_Same.f k t501 (([(⟨2, (⟨#[]⟩ : ByteArray), 0⟩ : S37), (⟨0, (⟨#[88]⟩ : ByteArray), 0⟩ : S37), (⟨0, (⟨#[]⟩ : ByteArray), 1⟩ : S37), (⟨1, (⟨#[]⟩ : ByteArray), 0⟩ : S37)] : List (S37)))).bind fun t507 => (some t507))) else (some false)) else (some false)) = some r := H
  have A1 := Aside0.mk A10
  clear A10
  by_cases c2 : t500 = 0
  · rw [if_pos c2] at H
    have c2b0 : (t500 == 0) = true := beq_iff_eq.mpr c2
    have c2b1 : (t500 != 0) = false := bne_eq_false_iff_eq.mpr c2
    clear c2
    by_cases c3 : t499.toList = ([97, 120] : List UInt8)
    · rw [if_pos c3] at H
      have c3b0 : (t499.toList == ([97, 120] : List UInt8)) = true := beq_iff_eq.mpr c3
      have c3b1 : (t499.toList != ([97, 120] : List UInt8)) = false := bne_eq_false_iff_eq.mpr c3
      clear c3
      replace H := Option.bind_eq_some_iff.mp H
      obtain ⟨t501, A40, H⟩ := H
      replace H : ((variorumref06_Same.f k t501 (([(⟨2, (⟨#[]⟩ : ByteArray), 0⟩ : S37), (⟨0, (⟨#[88]⟩ : ByteArray), 0⟩ : S37), (⟨0, (⟨#[]⟩ : ByteArray), 1⟩ : S37), (⟨1, (⟨#[]⟩ : ByteArray), 0⟩ : S37)] : List (S37)))).bind fun t507 => (some t507)) = some r := H
      have A4 := Aside0.mk A40
      clear A40
      obtain ⟨y504, hy504⟩ : ∃ y_ : List (S37), y_ = (([(⟨2, (⟨#[]⟩ : ByteArray), 0⟩ : S37), (⟨0, (⟨#[88]⟩ : ByteArray), 0⟩ : S37), (⟨0, (⟨#[]⟩ : ByteArray), 1⟩ : S37), (⟨1, (⟨#[]⟩ : ByteArray), 0⟩ : S37)] : List (S37))) := ⟨_, rfl⟩
      replace H : ((variorumref06_Same.f k t501 y504).bind fun t507 => (some t507)) = some r := by first | (rw [hy504]; with_reducible exact H) | (have H2_ := (Option.bind_some _ _).symm.trans H; rw [hy504]; with_reducible exact H2_) | (have H2_ := (Option.bind_some _ _).symm.trans H; with_reducible exact H2_) | with_reducible exact H | (rw [hy504]; exact H) | exact H
      have Ny504 := Aside0.mk hy504
      clear hy504
      replace H := Option.bind_eq_some_iff.mp H
      obtain ⟨t507, A50, H⟩ := H
      replace H : (some t507) = some r := H
      have A5 := Aside0.mk A50
      clear A50
      obtain rfl := Option.some.inj H
      go_enter Try.func42, Try.ntmps42
      go_wp2_with (first | ((with_reducible refine gate_dst (N := 7) rfl ?_); (try (refine gate_guard (by rfl) ?_; dsimp only)); refine Kd.R_lit k37 _ 37 ?hg (N := 7) ?hd (xs := ([(⟨1, (⟨#[]⟩ : ByteArray), 0⟩ : S37), (⟨0, (⟨#[120]⟩ : ByteArray), 0⟩ : S37), (⟨0, (⟨#[]⟩ : ByteArray), 1⟩ : S37)] : List (S37))) (inner := [.int .i64 1, .string (⟨#[]⟩ : ByteArray), .int .i64 0, .int .i64 0, .string (⟨#[120]⟩ : ByteArray), .int .i64 0, .int .i64 0, .string (⟨#[]⟩ : ByteArray), .int .i64 1]) (ok := fun _ => True) (okp := fun _ => True) ?hr ?hp (fun _ hk => hk) trivial (Below.refl _ _) (Nat.le_refl _) (by simp) ?_; (case hd => rfl); (case hg => rfl); (case hr => first | (go_simp; done) | (go_simp; rfl)); (case hp => exact (Reps.c3 (show Kd.M k37 _ _ _ (⟨1, (⟨#[]⟩ : ByteArray), 0⟩ : S37) [.int .i64 1, .string (⟨#[]⟩ : ByteArray), .int .i64 0] from (k37_mkM _ _ _ (⟨1, (⟨#[]⟩ : ByteArray), 0⟩ : S37) )) (Reps.c3 (show Kd.M k37 _ _ _ (⟨0, (⟨#[120]⟩ : ByteArray), 0⟩ : S37) [.int .i64 0, .string (⟨#[120]⟩ : ByteArray), .int .i64 0] from (k37_mkM _ _ _ (⟨0, (⟨#[120]⟩ : ByteArray), 0⟩ : S37) )) (Reps.c3 (show Kd.M k37 _ _ _ (⟨0, (⟨#[]⟩ : ByteArray), 1⟩ : S37) [.int .i64 0, .string (⟨#[]⟩ : ByteArray), .int .i64 1] from (k37_mkM _ _ _ (⟨0, (⟨#[]⟩ : ByteArray), 1⟩ : S37) )) (Reps.none _ _))))); intro v497 w6 ho7 hb hg_ hnew_; clear hg_ hnew_; (first | rw [← Ny496.out] at ho7 | (simp only [Int.reduceToNat] at ho7; rw [← Ny496.out] at ho7)); have n0_ := Aside0.mk (Kd.R_lower ho7 (below_size (by repeat (first | (with_reducible first | exact HB.out | apply below_alloc | apply pw_below_drewN | apply below_drew1) | exact HB.out)))); have n1_ := Aside0.mk (below_step (by repeat (first | (with_reducible first | exact HB.out | apply below_alloc | apply pw_below_drewN | apply below_drew1) | exact HB.out)) hb); clear HB; have HO498 := n0_; have HB := n1_; clear n0_ n1_; clear hb ho7; obtain ⟨Ao8, co8, eo8⟩ := Kd.R_slice HO498.out; subst eo8) | ((with_reducible refine gate_callee (f := 39) rfl ?_); refine goesL_ (some 8) rfl rfl Try.func39 (by kernel_rfl) rfl #[.slice Ao8 y496.length co8, .string (⟨#[97, 98]⟩ : ByteArray)] rfl (by (try simp only [List.map_toArray, List.map_cons, List.map_nil]); first | done | rfl | (simp only [List.length_drop, List.length_take]; rfl)) ?_; (with_reducible refine (run_Apply.calls _ _ y496 (⟨#[97, 98]⟩ : ByteArray) t499 t500 _ ?side1 ?side2 A1.out).mono ?_); (case side1 => repeat (first | exact (Kd.R_reads' HO498.out).2.2 | (with_reducible refine Kd.C_alloc ?_ _) | (with_reducible refine Kd.C_drewN ?_ _) | (with_reducible refine Kd.C_drew ?_))); (case side2 => exact (Kd.R_reads' HO498.out).2.1); rintro e w9 ⟨rfl, hb⟩; refine ⟨_, rfl, ?_⟩; have n0_ := Aside0.mk (Kd.R_below (by (with_reducible repeat (first | apply Kd.R_alloc | apply Kd.R_drewN | apply Kd.R_drew)); exact HO498.out) hb); have n1_ := Aside0.mk (below_step (by repeat (first | (with_reducible first | exact HB.out | apply below_alloc | apply pw_below_drewN | apply below_drew1) | exact HB.out)) hb); clear HO498; clear HB; have HO498 := n0_; have HB := n1_; clear n0_ n1_; (try clear hb); (try clear hb2); (try clear hk); (try clear hi)) | (go_at_call 43; (with_reducible refine (run_Between.calls k (⟨#[97, 98, 99, 100]⟩ : ByteArray) (⟨#[97, 98, 88, 100]⟩ : ByteArray) t501 _ A4.out).mono ?_); rintro e w10 ⟨v502, rfl, ho0, hb⟩; have n0_ := Aside0.mk (Kd.R_elder' (by (with_reducible repeat (first | apply Kd.R_alloc | apply Kd.R_drewN | apply Kd.R_drew)); exact HO498.out) (Kd.R_base ho0) hb); have n1_ := Aside0.mk (Kd.R_lower (Kd.R_new' ho0 (Kd.R_lt (by (with_reducible repeat (first | apply Kd.R_alloc | apply Kd.R_drewN | apply Kd.R_drew)); exact HO498.out))) (below_size (by repeat (first | (with_reducible first | exact HB.out | apply below_alloc | apply pw_below_drewN | apply below_drew1) | exact HB.out)))); have n2_ := Aside0.mk (below_step (by repeat (first | (with_reducible first | exact HB.out | apply below_alloc | apply pw_below_drewN | apply below_drew1) | exact HB.out)) hb); clear HO498; clear HB; have HO498 := n0_; have HO503 := n1_; have HB := n2_; clear n0_ n1_ n2_; (try clear hb); (try clear hb2); (try clear hk); (try clear hi); (try clear ho0)) | ((with_reducible refine gate_dst (N := 23) rfl ?_); (try (refine gate_guard (by rfl) ?_; dsimp only)); refine Kd.R_lit k37 _ 37 ?hg (N := 23) ?hd (xs := ([(⟨2, (⟨#[]⟩ : ByteArray), 0⟩ : S37), (⟨0, (⟨#[88]⟩ : ByteArray), 0⟩ : S37), (⟨0, (⟨#[]⟩ : ByteArray), 1⟩ : S37), (⟨1, (⟨#[]⟩ : ByteArray), 0⟩ : S37)] : List (S37))) (inner := [.int .i64 2, .string (⟨#[]⟩ : ByteArray), .int .i64 0, .int .i64 0, .string (⟨#[88]⟩ : ByteArray), .int .i64 0, .int .i64 0, .string (⟨#[]⟩ : ByteArray), .int .i64 1, .int .i64 1, .string (⟨#[]⟩ : ByteArray), .int .i64 0]) (ok := fun _ => True) (okp := fun _ => True) ?hr ?hp (fun _ hk => hk) trivial (Below.refl _ _) (Nat.le_refl _) (by simp) ?_; (case hd => rfl); (case hg => rfl); (case hr => first | (go_simp; done) | (go_simp; rfl)); (case hp => exact (Reps.c3 (show Kd.M k37 _ _ _ (⟨2, (⟨#[]⟩ : ByteArray), 0⟩ : S37) [.int .i64 2, .string (⟨#[]⟩ : ByteArray), .int .i64 0] from (k37_mkM _ _ _ (⟨2, (⟨#[]⟩ : ByteArray), 0⟩ : S37) )) (Reps.c3 (show Kd.M k37 _ _ _ (⟨0, (⟨#[88]⟩ : ByteArray), 0⟩ : S37) [.int .i64 0, .string (⟨#[88]⟩ : ByteArray), .int .i64 0] from (k37_mkM _ _ _ (⟨0, (⟨#[88]⟩ : ByteArray), 0⟩ : S37) )) (Reps.c3 (show Kd.M k37 _ _ _ (⟨0, (⟨#[]⟩ : ByteArray), 1⟩ : S37) [.int .i64 0, .string (⟨#[]⟩ : ByteArray), .int .i64 1] from (k37_mkM _ _ _ (⟨0, (⟨#[]⟩ : ByteArray), 1⟩ : S37) )) (Reps.c3 (show Kd.M k37 _ _ _ (⟨1, (⟨#[]⟩ : ByteArray), 0⟩ : S37) [.int .i64 1, .string (⟨#[]⟩ : ByteArray), .int .i64 0] from (k37_mkM _ _ _ (⟨1, (⟨#[]⟩ : ByteArray), 0⟩ : S37) )) (Reps.none _ _)))))); intro v505 w11 ho12 hb hg_ hnew_; clear hg_ hnew_; (first | rw [← Ny504.out] at ho12 | (simp only [Int.reduceToNat] at ho12; rw [← Ny504.out] at ho12)); have n0_ := Aside0.mk (Kd.R_elder' (by (with_reducible repeat (first | apply Kd.R_alloc | apply Kd.R_drewN | apply Kd.R_drew)); exact HO498.out) (Kd.R_base ho12) hb); have n1_ := Aside0.mk (Kd.R_elder' (by (with_reducible repeat (first | apply Kd.R_alloc | apply Kd.R_drewN | apply Kd.R_drew)); exact HO503.out) (Kd.R_base ho12) hb); have n2_ := Aside0.mk (Kd.R_lower (Kd.R_new' (Kd.R_new' ho12 (Kd.R_lt (by (with_reducible repeat (first | apply Kd.R_alloc | apply Kd.R_drewN | apply Kd.R_drew)); exact HO498.out))) (Kd.R_lt (by (with_reducible repeat (first | apply Kd.R_alloc | apply Kd.R_drewN | apply Kd.R_drew)); exact HO503.out))) (below_size (by repeat (first | (with_reducible first | exact HB.out | apply below_alloc | apply pw_below_drewN | apply below_drew1) | exact HB.out)))); have n3_ := Aside0.mk (below_step (by repeat (first | (with_reducible first | exact HB.out | apply below_alloc | apply pw_below_drewN | apply below_drew1) | exact HB.out)) hb); clear HO498; clear HO503; clear HB; have HO498 := n0_; have HO503 := n1_; have HO506 := n2_; have HB := n3_; clear n0_ n1_ n2_ n3_; clear hb ho12; obtain ⟨Ao13, co13, eo13⟩ := Kd.R_slice HO503.out; subst eo13; obtain ⟨Ao14, co14, eo14⟩ := Kd.R_slice HO506.out; subst eo14) | (go_at_call 25; (with_reducible refine (variorumref06_Same.calls k _ _ t501 _ _ y504 t507 _ ?side1 ?side2 ?side3 ?side4 A5.out).mono ?_); (case side1 => repeat (first | exact (Kd.R_reads' HO503.out).2.2 | (with_reducible refine Kd.C_alloc ?_ _) | (with_reducible refine Kd.C_drewN ?_ _) | (with_reducible refine Kd.C_drew ?_))); (case side2 => exact (Kd.R_reads' HO503.out).2.1); (case side3 => repeat (first | exact (Kd.R_reads' HO506.out).2.2 | (with_reducible refine Kd.C_alloc ?_ _) | (with_reducible refine Kd.C_drewN ?_ _) | (with_reducible refine Kd.C_drew ?_))); (case side4 => exact (Kd.R_reads' HO506.out).2.1); rintro e w' ⟨rfl, ⟨nd, rfl⟩⟩))
      go_ret
      exact ⟨by first | rfl | (simp [errW_none, errW_some] <;> rfl) | (simp [*, errW_none, errW_some] <;> rfl), by repeat (first | (with_reducible first | exact HB.out | apply below_alloc | apply pw_below_drewN | apply below_drew1) | exact HB.out)⟩
    · rw [if_neg c3] at H
      have c3b0 : (t499.toList == ([97, 120] : List UInt8)) = false := beq_eq_false_iff_ne.mpr c3
      have c3b1 : (t499.toList != ([97, 120] : List UInt8)) = true := bne_iff_ne.mpr c3
      obtain rfl := Option.some.inj H
      go_enter Try.func42, Try.ntmps42
      go_wp2_with (first | ((with_reducible refine gate_dst (N := 7) rfl ?_); (try (refine gate_guard (by rfl) ?_; dsimp only)); refine Kd.R_lit k37 _ 37 ?hg (N := 7) ?hd (xs := ([(⟨1, (⟨#[]⟩ : ByteArray), 0⟩ : S37), (⟨0, (⟨#[120]⟩ : ByteArray), 0⟩ : S37), (⟨0, (⟨#[]⟩ : ByteArray), 1⟩ : S37)] : List (S37))) (inner := [.int .i64 1, .string (⟨#[]⟩ : ByteArray), .int .i64 0, .int .i64 0, .string (⟨#[120]⟩ : ByteArray), .int .i64 0, .int .i64 0, .string (⟨#[]⟩ : ByteArray), .int .i64 1]) (ok := fun _ => True) (okp := fun _ => True) ?hr ?hp (fun _ hk => hk) trivial (Below.refl _ _) (Nat.le_refl _) (by simp) ?_; (case hd => rfl); (case hg => rfl); (case hr => first | (go_simp; done) | (go_simp; rfl)); (case hp => exact (Reps.c3 (show Kd.M k37 _ _ _ (⟨1, (⟨#[]⟩ : ByteArray), 0⟩ : S37) [.int .i64 1, .string (⟨#[]⟩ : ByteArray), .int .i64 0] from (k37_mkM _ _ _ (⟨1, (⟨#[]⟩ : ByteArray), 0⟩ : S37) )) (Reps.c3 (show Kd.M k37 _ _ _ (⟨0, (⟨#[120]⟩ : ByteArray), 0⟩ : S37) [.int .i64 0, .string (⟨#[120]⟩ : ByteArray), .int .i64 0] from (k37_mkM _ _ _ (⟨0, (⟨#[120]⟩ : ByteArray), 0⟩ : S37) )) (Reps.c3 (show Kd.M k37 _ _ _ (⟨0, (⟨#[]⟩ : ByteArray), 1⟩ : S37) [.int .i64 0, .string (⟨#[]⟩ : ByteArray), .int .i64 1] from (k37_mkM _ _ _ (⟨0, (⟨#[]⟩ : ByteArray), 1⟩ : S37) )) (Reps.none _ _))))); intro v497 w15 ho16 hb hg_ hnew_; clear hg_ hnew_; (first | rw [← Ny496.out] at ho16 | (simp only [Int.reduceToNat] at ho16; rw [← Ny496.out] at ho16)); have n0_ := Aside0.mk (Kd.R_lower ho16 (below_size (by repeat (first | (with_reducible first | exact HB.out | apply below_alloc | apply pw_below_drewN | apply below_drew1) | exact HB.out)))); have n1_ := Aside0.mk (below_step (by repeat (first | (with_reducible first | exact HB.out | apply below_alloc | apply pw_below_drewN | apply below_drew1) | exact HB.out)) hb); clear HB; have HO498 := n0_; have HB := n1_; clear n0_ n1_; clear hb ho16; obtain ⟨Ao17, co17, eo17⟩ := Kd.R_slice HO498.out; subst eo17) | ((with_reducible refine gate_callee (f := 39) rfl ?_); refine goesL_ (some 8) rfl rfl Try.func39 (by kernel_rfl) rfl #[.slice Ao17 y496.length co17, .string (⟨#[97, 98]⟩ : ByteArray)] rfl (by (try simp only [List.map_toArray, List.map_cons, List.map_nil]); first | done | rfl | (simp only [List.length_drop, List.length_take]; rfl)) ?_; (with_reducible refine (run_Apply.calls _ _ y496 (⟨#[97, 98]⟩ : ByteArray) t499 t500 _ ?side1 ?side2 A1.out).mono ?_); (case side1 => repeat (first | exact (Kd.R_reads' HO498.out).2.2 | (with_reducible refine Kd.C_alloc ?_ _) | (with_reducible refine Kd.C_drewN ?_ _) | (with_reducible refine Kd.C_drew ?_))); (case side2 => exact (Kd.R_reads' HO498.out).2.1); rintro e w18 ⟨rfl, hb⟩; refine ⟨_, rfl, ?_⟩; have n0_ := Aside0.mk (Kd.R_below (by (with_reducible repeat (first | apply Kd.R_alloc | apply Kd.R_drewN | apply Kd.R_drew)); exact HO498.out) hb); have n1_ := Aside0.mk (below_step (by repeat (first | (with_reducible first | exact HB.out | apply below_alloc | apply pw_below_drewN | apply below_drew1) | exact HB.out)) hb); clear HO498; clear HB; have HO498 := n0_; have HB := n1_; clear n0_ n1_; (try clear hb); (try clear hb2); (try clear hk); (try clear hi)))
      go_ret
      exact ⟨by first | rfl | (simp [errW_none, errW_some] <;> rfl) | (simp [*, errW_none, errW_some] <;> rfl), by repeat (first | (with_reducible first | exact HB.out | apply below_alloc | apply pw_below_drewN | apply below_drew1) | exact HB.out)⟩
  · rw [if_neg c2] at H
    have c2b0 : (t500 == 0) = false := beq_eq_false_iff_ne.mpr c2
    have c2b1 : (t500 != 0) = true := bne_iff_ne.mpr c2
    obtain rfl := Option.some.inj H
    go_enter Try.func42, Try.ntmps42
    go_wp2_with (first | ((with_reducible refine gate_dst (N := 7) rfl ?_); (try (refine gate_guard (by rfl) ?_; dsimp only)); refine Kd.R_lit k37 _ 37 ?hg (N := 7) ?hd (xs := ([(⟨1, (⟨#[]⟩ : ByteArray), 0⟩ : S37), (⟨0, (⟨#[120]⟩ : ByteArray), 0⟩ : S37), (⟨0, (⟨#[]⟩ : ByteArray), 1⟩ : S37)] : List (S37))) (inner := [.int .i64 1, .string (⟨#[]⟩ : ByteArray), .int .i64 0, .int .i64 0, .string (⟨#[120]⟩ : ByteArray), .int .i64 0, .int .i64 0, .string (⟨#[]⟩ : ByteArray), .int .i64 1]) (ok := fun _ => True) (okp := fun _ => True) ?hr ?hp (fun _ hk => hk) trivial (Below.refl _ _) (Nat.le_refl _) (by simp) ?_; (case hd => rfl); (case hg => rfl); (case hr => first | (go_simp; done) | (go_simp; rfl)); (case hp => exact (Reps.c3 (show Kd.M k37 _ _ _ (⟨1, (⟨#[]⟩ : ByteArray), 0⟩ : S37) [.int .i64 1, .string (⟨#[]⟩ : ByteArray), .int .i64 0] from (k37_mkM _ _ _ (⟨1, (⟨#[]⟩ : ByteArray), 0⟩ : S37) )) (Reps.c3 (show Kd.M k37 _ _ _ (⟨0, (⟨#[120]⟩ : ByteArray), 0⟩ : S37) [.int .i64 0, .string (⟨#[120]⟩ : ByteArray), .int .i64 0] from (k37_mkM _ _ _ (⟨0, (⟨#[120]⟩ : ByteArray), 0⟩ : S37) )) (Reps.c3 (show Kd.M k37 _ _ _ (⟨0, (⟨#[]⟩ : ByteArray), 1⟩ : S37) [.int .i64 0, .string (⟨#[]⟩ : ByteArray), .int .i64 1] from (k37_mkM _ _ _ (⟨0, (⟨#[]⟩ : ByteArray), 1⟩ : S37) )) (Reps.none _ _))))); intro v497 w19 ho20 hb hg_ hnew_; clear hg_ hnew_; (first | rw [← Ny496.out] at ho20 | (simp only [Int.reduceToNat] at ho20; rw [← Ny496.out] at ho20)); have n0_ := Aside0.mk (Kd.R_lower ho20 (below_size (by repeat (first | (with_reducible first | exact HB.out | apply below_alloc | apply pw_below_drewN | apply below_drew1) | exact HB.out)))); have n1_ := Aside0.mk (below_step (by repeat (first | (with_reducible first | exact HB.out | apply below_alloc | apply pw_below_drewN | apply below_drew1) | exact HB.out)) hb); clear HB; have HO498 := n0_; have HB := n1_; clear n0_ n1_; clear hb ho20; obtain ⟨Ao21, co21, eo21⟩ := Kd.R_slice HO498.out; subst eo21) | ((with_reducible refine gate_callee (f := 39) rfl ?_); refine goesL_ (some 8) rfl rfl Try.func39 (by kernel_rfl) rfl #[.slice Ao21 y496.length co21, .string (⟨#[97, 98]⟩ : ByteArray)] rfl (by (try simp only [List.map_toArray, List.map_cons, List.map_nil]); first | done | rfl | (simp only [List.length_drop, List.length_take]; rfl)) ?_; (with_reducible refine (run_Apply.calls _ _ y496 (⟨#[97, 98]⟩ : ByteArray) t499 t500 _ ?side1 ?side2 A1.out).mono ?_); (case side1 => repeat (first | exact (Kd.R_reads' HO498.out).2.2 | (with_reducible refine Kd.C_alloc ?_ _) | (with_reducible refine Kd.C_drewN ?_ _) | (with_reducible refine Kd.C_drew ?_))); (case side2 => exact (Kd.R_reads' HO498.out).2.1); rintro e w22 ⟨rfl, hb⟩; refine ⟨_, rfl, ?_⟩; have n0_ := Aside0.mk (Kd.R_below (by (with_reducible repeat (first | apply Kd.R_alloc | apply Kd.R_drewN | apply Kd.R_drew)); exact HO498.out) hb); have n1_ := Aside0.mk (below_step (by repeat (first | (with_reducible first | exact HB.out | apply below_alloc | apply pw_below_drewN | apply below_drew1) | exact HB.out)) hb); clear HO498; clear HB; have HO498 := n0_; have HB := n1_; clear n0_ n1_; (try clear hb); (try clear hb2); (try clear hk); (try clear hi)))
    go_ret
    exact ⟨by first | rfl | (simp [errW_none, errW_some] <;> rfl) | (simp [*, errW_none, errW_some] <;> rfl), by repeat (first | (with_reducible first | exact HB.out | apply below_alloc | apply pw_below_drewN | apply below_drew1) | exact HB.out)⟩

end Go.Proofs.Ythocalfgeaclgaa.P
end
-- MERGED YthocalfgeaclgaaRunF
section
/- What the printed functions of edits done come to: Back, Between, fits; the chapter's examples. -/
namespace Go.Proofs.Ythocalfgeaclgaa.RunF
open Go.RowKit Go.Proofs.Ythocalfgeaclgaa.P Go.Proofs.YthocalfgeaclgaaW.PrintWords Go.Proofs.YthocalfgeaclgaaW.PrintLast Go.Proofs.YthocalfgeaclgaaW.PrintMore Go.Proofs.Ythocalfgeaclgaa.EditL Go.Proofs.Ythocalfgeaclgaa.EditK Go.Proofs.Ythocalfgeaclgaa.EditF Go.Proofs.Ythocalfgeaclgaa.EditG Go.Proofs.Ythocalfgeaclgaa.EditH1 Go.Proofs.Ythocalfgeaclgaa.SameF Go.Proofs.Ythocalfgeaclgaa.RunA Go.Proofs.Ythocalfgeaclgaa.RunL
set_option linter.unusedSimpArgs false
set_option linter.unusedVariables false

theorem rfits_f {op : List Rn} (hl : op.length ≤ 140737488351232) (s : ByteArray) (k : Nat) (hk : op.length < k) : variorumref07_Fits.f k op s = some (fitsL op s.size) := by
  unfold variorumref07_Fits.f fitsL
  rw [rgood_f hl, Option.bind_some]
  cases hg : good op with
  | false => rw [if_neg Bool.false_ne_true]; rfl
  | true =>
    rw [if_pos rfl, rin_f hl k hk, Option.bind_some, hg, if_pos rfl, Bool.true_and]
    rfl
theorem fitsL_iff {op : List Rn} {n : Int} : fitsL op n = true ↔ good op = true ∧ inL op = n := by unfold fitsL; simp
theorem apply_f {l : List Rn} (hl : l.length ≤ 140737488351232) {s : ByteArray} (hs : s.size ≤ 140737488351232) : run_Apply.f l s = some (app l s) := by unfold run_Apply.f; rw [if_pos ⟨hl, hs⟩]
theorem app_yes {l : List Rn} {s : ByteArray} (h : fitsL l s.size = true) : app l s = (apL l s, 0) := by unfold app; rw [if_pos h]
theorem app_no {l : List Rn} {s : ByteArray} (h : ¬ fitsL l s.size = true) : app l s = (E, 60) := by unfold app; rw [if_neg h]
theorem norm_f {l : List Rn} (hl : l.length ≤ 4000000) : edit_Norm.f l = some (norm l) := by unfold edit_Norm.f; rw [if_pos hl]
theorem back_l (l0 : List Rn) (hl : l0.length ≤ 5000) : ∀ (suf pre acc : List Rn) (rest : ByteArray) (k : Nat), l0 = pre ++ suf → suf.length < k → (∀ r ∈ suf, nn r) → inL suf = (rest.size : Int) → rest.size ≤ 16777216 → acc.length = 3 * pre.length →
    run_Back.l0 k rest acc l0 (l0.length : Int) (pre.length : Int) = some (norm (acc ++ backL suf rest), 0) := by
  intro suf
  induction suf with
  | nil =>
    intro pre acc rest k hfe hk _ _ _ hac
    obtain ⟨k, rfl⟩ : ∃ m, k = m + 1 := ⟨k - 1, by omega⟩
    have : l0.length = pre.length := by rw [hfe]; simp
    simp only [run_Back.l0]
    rw [if_neg (by omega), norm_f (by omega), Option.bind_some]
    simp only [backL]
    rw [List.append_nil]
  | cons r suf ih =>
    intro pre acc rest k hfe hk hn hi hz hac
    obtain ⟨k, rfl⟩ : ∃ m, k = m + 1 := ⟨k - 1, by omega⟩
    obtain ⟨hl2, hn1, hlt⟩ := snoc hfe
    have h1 := hn r List.mem_cons_self
    have h2 : ∀ x ∈ suf, nn x := fun x hx => hn x (List.mem_cons_of_mem _ hx)
    have h3 := sums_nn h2
    unfold nn at h1
    simp only [inL] at hi
    simp only [run_Back.l0]
    rw [rd_at hfe, if_pos hlt, if_pos (by omega), if_pos hlt, if_pos h1.1, w64 (x := r.f0 + r.f2) (by omega) (by omega), if_pos (by omega), if_pos (by omega), Option.bind_some, if_pos (by simp only [List.length_cons, List.length_nil]; omega), if_pos (by omega), w64 (x := (pre.length : Int) + 1) (by omega) (by omega), ← hn1]
    rw [ih (pre ++ [r]) _ _ k hl2 (by simp at hk; omega) h2 (by rw [ext_size]; omega) (by rw [ext_size]; omega) (by rw [List.length_append, List.length_append, hac]; simp; omega)]
    simp only [backL]
    rw [List.append_assoc]
    rfl
def bck (l : List Rn) (s : ByteArray) : List Rn × Int := if fitsL l s.size = true then (norm (backL l s), 0) else ([], 60)
theorem back_f {l : List Rn} (hl : l.length ≤ 5000) {s : ByteArray} (k : Nat) (hk : l.length < k) : run_Back.f k l s = some (bck l s) := by
  unfold run_Back.f bck
  rw [fits_f (by omega) _ k hk, Option.bind_some]
  by_cases h : fitsL l s.size = true
  · rw [if_pos h, if_pos h]
    obtain ⟨hg, hi⟩ := fitsL_iff.1 h
    have := sums_good hg
    exact back_l l hl l [] [] s k rfl hk (nn_good hg) hi (by omega) rfl
  · rw [if_neg h, if_neg h]
/-- How far p holds. -/
def cnt (p : Nat → Bool) : Nat → Nat → Nat
  | 0, i => i
  | d + 1, i => if p i then cnt p d (i + 1) else i
theorem cnt_le (p : Nat → Bool) : ∀ d i, i ≤ cnt p d i ∧ cnt p d i ≤ i + d ∧ (∀ j, i ≤ j → j < cnt p d i → p j = true) ∧ ((∀ j, i ≤ j → j < i + d → p j = true) → cnt p d i = i + d) := by
  intro d
  induction d with
  | zero => intro i; exact ⟨Nat.le_refl _, Nat.le_refl _, fun j h1 h2 => absurd h2 (by simp only [cnt]; omega), fun _ => rfl⟩
  | succ d ih =>
    intro i
    simp only [cnt]
    by_cases h : p i = true
    · rw [if_pos h]
      obtain ⟨a1, a2, a3, a4⟩ := ih (i + 1)
      refine ⟨by omega, by omega, fun j h1 h2 => ?_, fun hj => ?_⟩
      · by_cases e : j = i
        · rw [e]; exact h
        · exact a3 j (by omega) h2
      · rw [a4 (fun j h1 h2 => hj j (by omega) (by omega))]; omega
    · rw [if_neg h]
      exact ⟨Nat.le_refl _, by omega, fun j h1 h2 => absurd h2 (by omega), fun hj => absurd (hj i (Nat.le_refl _) (by omega)) h⟩
def preP (a b : ByteArray) (j : Nat) : Bool := decide (bt a (j : Int) = bt b (j : Int))
def sufP (a b : ByteArray) (j : Nat) : Bool := decide (bt a ((a.size : Int) - 1 - j) = bt b ((b.size : Int) - 1 - j))
def btw (a b : ByteArray) (K N : Nat) : List Rn := [⟨(K : Int), E, 0⟩, ⟨0, b.extract K (b.size - N), 0⟩, ⟨0, E, (a.size : Int) - N - K⟩, ⟨(N : Int), E, 0⟩]
def most (a b : ByteArray) : Nat := min a.size b.size
def Kk (a b : ByteArray) : Nat := cnt (preP a b) (most a b) 0
def Nn (a b : ByteArray) : Nat := cnt (sufP a b) (most a b - Kk a b) 0
theorem bl_0 (a b : ByteArray) (ha : a.size ≤ 16777216) (hb : b.size ≤ 16777216) : ∀ (d i k : Nat), i + d = most a b → d < k → ∃ k', k ≤ k' + d + 1 ∧ run_Between.l0 k a b (most a b : Int) (i : Int) 0 = run_Between.j2 k' a b (most a b : Int) (cnt (preP a b) d i : Int) 0 := by
  have hm : most a b ≤ a.size ∧ most a b ≤ b.size := ⟨Nat.min_le_left _ _, Nat.min_le_right _ _⟩
  generalize most a b = m at hm
  intro d
  induction d with
  | zero =>
    intro i k hi hk
    obtain ⟨k, rfl⟩ : ∃ m, k = m + 1 := ⟨k - 1, by omega⟩
    refine ⟨k, by omega, ?_⟩
    simp only [run_Between.l0, cnt]
    rw [if_neg (by omega)]
  | succ d ih =>
    intro i k hi hk
    obtain ⟨k, rfl⟩ : ∃ m, k = m + 1 := ⟨k - 1, by omega⟩
    simp only [run_Between.l0, cnt]
    rw [if_pos (by omega), if_pos (by omega), if_pos (by omega), if_pos (by omega)]
    by_cases h : bt a (i : Int) = bt b (i : Int)
    · obtain ⟨k', h1, h2⟩ := ih (i + 1) k (by omega) (by omega)
      refine ⟨k', by omega, ?_⟩
      rw [if_pos h, w64 (x := (i : Int) + 1) (by omega) (by omega), if_pos (show preP a b i = true from decide_eq_true h), ← h2]
      congr 1
    · refine ⟨k, by omega, ?_⟩
      rw [if_neg h, if_neg (show ¬ preP a b i = true from fun e => h (of_decide_eq_true e))]
theorem bl_1 (a b : ByteArray) (ha : a.size ≤ 16777216) (hb : b.size ≤ 16777216) (K : Nat) (hK : K ≤ most a b) : ∀ (d i k : Nat), i + d = most a b - K → d < k → run_Between.l1 k a b (most a b : Int) (K : Int) (i : Int) = some (norm (btw a b K (cnt (sufP a b) d i))) := by
  have hm : most a b ≤ a.size ∧ most a b ≤ b.size := ⟨Nat.min_le_left _ _, Nat.min_le_right _ _⟩
  generalize most a b = m at hm hK
  intro d
  have hend : ∀ i : Nat, K + i ≤ m → (if 0 ≤ (K : Int) then (if (K : Int) ≤ (wrap64 ((b.size : Int) - (i : Int))) then (if (wrap64 ((b.size : Int) - (i : Int))) ≤ (b.size : Int) then ((edit_Norm.f (([(⟨(K : Int), (⟨#[]⟩ : ByteArray), 0⟩ : Rn), (⟨0, b.extract (K : Int).toNat ((wrap64 ((b.size : Int) - (i : Int))) : Int).toNat, 0⟩ : Rn), (⟨0, (⟨#[]⟩ : ByteArray), wrap64 ((wrap64 ((a.size : Int) - (i : Int))) - (K : Int))⟩ : Rn), (⟨(i : Int), (⟨#[]⟩ : ByteArray), 0⟩ : Rn)] : List Rn))).bind fun t487 => (some t487)) else (none)) else (none)) else (none)) = some (norm (btw a b K i)) := by
    intro i hi
    rw [if_pos (by omega), w64 (x := (b.size : Int) - (i : Int)) (by omega) (by omega), if_pos (by omega), if_pos (by omega), w64 (x := (a.size : Int) - (i : Int)) (by omega) (by omega), w64 (x := (a.size : Int) - (i : Int) - (K : Int)) (by omega) (by omega), norm_f (by simp), Option.bind_some, Int.toNat_natCast, show ((b.size : Int) - (i : Int)).toNat = b.size - i by omega]
    rfl
  induction d with
  | zero =>
    intro i k hi hk
    obtain ⟨k, rfl⟩ : ∃ m, k = m + 1 := ⟨k - 1, by omega⟩
    simp only [run_Between.l1, cnt]
    rw [w64 (x := (m : Int) - (K : Int)) (by omega) (by omega), if_neg (by omega), hend i (by omega)]
  | succ d ih =>
    intro i k hi hk
    obtain ⟨k, rfl⟩ : ∃ m, k = m + 1 := ⟨k - 1, by omega⟩
    simp only [run_Between.l1, cnt]
    rw [w64 (x := (m : Int) - (K : Int)) (by omega) (by omega), if_pos (by omega), w64 (x := (a.size : Int) - 1) (by omega) (by omega), w64 (x := (b.size : Int) - 1) (by omega) (by omega), w64 (x := (a.size : Int) - 1 - (i : Int)) (by omega) (by omega), w64 (x := (b.size : Int) - 1 - (i : Int)) (by omega) (by omega), if_pos (by omega), if_pos (by omega), if_pos (by omega), if_pos (by omega)]
    by_cases h : bt a ((a.size : Int) - 1 - (i : Int)) = bt b ((b.size : Int) - 1 - (i : Int))
    · rw [if_pos h, w64 (x := (i : Int) + 1) (by omega) (by omega), if_pos (show sufP a b i = true from decide_eq_true h), ← ih (i + 1) k (by omega) (by omega)]
      congr 1
    · rw [if_neg h, if_neg (show ¬ sufP a b i = true from fun e => h (of_decide_eq_true e)), hend i (by omega)]
def between (a b : ByteArray) : List Rn := norm (btw a b (Kk a b) (Nn a b))
theorem Kk_le (a b : ByteArray) : Kk a b ≤ most a b := by have := cnt_le (preP a b) (most a b) 0; unfold Kk; omega
theorem Nn_le (a b : ByteArray) : Kk a b + Nn a b ≤ most a b := by have := cnt_le (sufP a b) (most a b - Kk a b) 0; have := Kk_le a b; unfold Nn; omega
theorem mn_most (a b : ByteArray) : mn (a.size : Int) (b.size : Int) = (most a b : Int) := by unfold mn most; split <;> omega
theorem between_f (a b : ByteArray) (ha : a.size ≤ 16777216) (hb : b.size ≤ 16777216) (k : Nat) (hk : 2 * most a b + 10 < k) : run_Between.f k a b = some (between a b) := by
  unfold run_Between.f
  rw [if_neg (by omega), decide_eq_false (by omega)]
  obtain ⟨k, rfl⟩ : ∃ m, k = m + 1 := ⟨k - 1, by omega⟩
  simp only [run_Between.j0]
  rw [if_neg Bool.false_ne_true, mn_most]
  obtain ⟨k1, h1, h2⟩ := bl_0 a b ha hb (most a b) 0 k (by omega) (by omega)
  rw [show (0 : Int) = ((0 : Nat) : Int) from rfl] at h2 ⊢
  rw [h2]
  obtain ⟨k1, rfl⟩ : ∃ m, k1 = m + 1 := ⟨k1 - 1, by omega⟩
  simp only [run_Between.j2]
  exact bl_1 a b ha hb _ (Kk_le a b) _ 0 k1 (by omega) (by omega)
theorem bt_L {s : ByteArray} {j : Nat} (h : j < s.size) : ∃ x, (L s)[j]? = some x ∧ bt s (j : Int) = (x.toNat : Int) := by
  refine ⟨s[j], ?_, ?_⟩
  · unfold L
    rw [Array.getElem?_toList, Array.getElem?_eq_getElem h]; rfl
  · unfold bt
    rw [dif_pos (show (j : Int).toNat < s.size by omega)]; rfl
theorem bt_eq {a b : ByteArray} {i j : Nat} (hi : i < a.size) (hj : j < b.size) (h : bt a (i : Int) = bt b (j : Int)) : (L a)[i]? = (L b)[j]? := by
  obtain ⟨x, h1, h2⟩ := bt_L hi
  obtain ⟨y, h3, h4⟩ := bt_L hj
  rw [h1, h3]
  rw [h2, h4] at h
  have : x.toNat = y.toNat := by omega
  rw [UInt8.toNat_inj.1 this]
/-- The edit between two texts makes the second one of the first one. -/
theorem between_ok (a b : ByteArray) (ha : a.size ≤ 16777216) (hb : b.size ≤ 16777216) : good (between a b) = true ∧ inL (between a b) = (a.size : Int) ∧ apL (between a b) a = b ∧ (between a b).length ≤ 15 := by
  have hK := Nn_le a b
  have hm : most a b ≤ a.size ∧ most a b ≤ b.size := ⟨Nat.min_le_left _ _, Nat.min_le_right _ _⟩
  have c1 := (cnt_le (preP a b) (most a b) 0).2.2.1
  have c2 := (cnt_le (sufP a b) (most a b - Kk a b) 0).2.2.1
  have hpre : (L a).take (Kk a b) = (L b).take (Kk a b) := by
    apply List.ext_getElem?
    intro j
    rw [List.getElem?_take, List.getElem?_take]
    by_cases h : j < Kk a b
    · rw [if_pos h, if_pos h]
      exact bt_eq (by omega) (by omega) (of_decide_eq_true (c1 j (Nat.zero_le _) h))
    · rw [if_neg h, if_neg h]
  have hsuf : (L a).drop (a.size - Nn a b) = (L b).drop (b.size - Nn a b) := by
    apply List.ext_getElem?
    intro j
    rw [List.getElem?_drop, List.getElem?_drop]
    by_cases h : j < Nn a b
    · have e := of_decide_eq_true (c2 (Nn a b - 1 - j) (Nat.zero_le _) (by show _ < Nn a b; omega))
      rw [show (a.size : Int) - 1 - ((Nn a b - 1 - j : Nat) : Int) = ((a.size - Nn a b + j : Nat) : Int) by omega, show (b.size : Int) - 1 - ((Nn a b - 1 - j : Nat) : Int) = ((b.size - Nn a b + j : Nat) : Int) by omega] at e
      exact bt_eq (by omega) (by omega) e
    · rw [List.getElem?_eq_none (by rw [L_len]; omega), List.getElem?_eq_none (by rw [L_len]; omega)]
  have hp : ∀ r ∈ btw a b (Kk a b) (Nn a b), plain r := by
    intro r hr
    simp only [btw, List.mem_cons, List.not_mem_nil, or_false] at hr
    rcases hr with rfl | rfl | rfl | rfl
    · exact plain_keep (by omega)
    · exact plain_add _
    · exact plain_drop (by omega)
    · exact plain_keep (by omega)
  have hi : inL (btw a b (Kk a b) (Nn a b)) = (a.size : Int) := by simp only [btw, inL]; omega
  have ho : outL (btw a b (Kk a b) (Nn a b)) = (b.size : Int) := by simp only [btw, outL]; rw [ext_size, E_size]; omega
  have hN := norm_ok hp (by omega) (by omega) (by simp [btw])
  refine ⟨hN.good, hN.i.trans hi, L_inj ?_, hN.len⟩
  unfold between
  rw [apW_eq, hN.ap]
  generalize hk : Kk a b = K at hpre hK ⊢
  generalize hn : Nn a b = N at hsuf hK ⊢
  show ((L a).take (K : Int).toNat ++ L E) ++ ((((L a).drop ((K : Int) + 0).toNat).take (0 : Int).toNat ++ L (b.extract K (b.size - N))) ++ ((((((L a).drop ((K : Int) + 0).toNat).drop ((0 : Int) + 0).toNat).take (0 : Int).toNat) ++ L E) ++ ((((((L a).drop ((K : Int) + 0).toNat).drop ((0 : Int) + 0).toNat).drop (0 + ((a.size : Int) - N - K)).toNat).take (N : Int).toNat ++ L E) ++ []))) = L b
  rw [L_E, show (0 : Int).toNat = 0 from rfl, show ((0 : Int) + 0).toNat = 0 from rfl, List.take_zero, List.take_zero, List.drop_zero]
  simp only [List.append_nil, List.nil_append]
  rw [Int.add_zero, Int.zero_add, Int.toNat_natCast, Int.toNat_natCast, List.drop_drop, show K + ((a.size : Int) - N - K).toNat = a.size - N by omega, hsuf, hpre, L_cut, List.take_of_length_le (l := (L b).drop (b.size - N)) (by rw [List.length_drop, L_len]; omega)]
  rw [show b.size - N = K + (b.size - N - K) by omega, Nat.add_sub_cancel_left, ← List.drop_drop, List.take_append_drop, List.take_append_drop]
theorem between_same (a : ByteArray) (ha : a.size ≤ 16777216) : between a a = if 0 < a.size then [⟨(a.size : Int), E, 0⟩] else [] := by
  have hm : most a a = a.size := Nat.min_self _
  have hK : Kk a a = a.size := by
    unfold Kk
    rw [hm, (cnt_le (preP a a) a.size 0).2.2.2 (fun j _ _ => decide_eq_true rfl)]; omega
  have hN : Nn a a = 0 := by have := Nn_le a a; omega
  unfold between
  rw [hK, hN]
  have hb : btw a a a.size 0 = [⟨(a.size : Int), E, 0⟩, ⟨0, E, 0⟩, ⟨0, E, 0⟩, ⟨0, E, 0⟩] := by
    unfold btw
    rw [show a.extract a.size (a.size - 0) = E from eq_E (by rw [ext_size]; omega), show (a.size : Int) - (0 : Nat) - (a.size : Nat) = 0 by omega]
    rfl
  rw [hb]
  have hf : fine [⟨(a.size : Int), E, 0⟩, ⟨0, E, 0⟩, ⟨0, E, 0⟩, ⟨0, E, 0⟩] = if 0 < a.size then [⟨(a.size : Int), E, 0⟩] else [] := by
    have hz : knd ⟨0, E, 0⟩ = 0 := by decide
    rw [fine_cons, fine_cons, fine_cons, fine_cons, hz]
    by_cases h : 0 < a.size
    · rw [knd_keep (show (0 : Int) < (a.size : Int) by omega), if_pos h]; rfl
    · have : a.size = 0 := by omega
      rw [this]; rfl
  unfold norm out
  rw [hf]
  by_cases h : 0 < a.size
  · rw [if_pos h]
    have hk : knd ⟨(a.size : Int), E, 0⟩ = 1 := knd_keep (by omega)
    have hj : jn [⟨(a.size : Int), E, 0⟩] 0 E 0 = [⟨(a.size : Int), E, 0⟩] := by
      rw [jn_on (by rw [hk]; rintro ⟨_, h | h⟩; exact h rfl; omega)]
      show fl (0 + (a.size : Int)) (E ++ E) (0 + 0) = _
      rw [E_add, Int.zero_add, Int.zero_add, fl_one (by omega)]
    rw [hj]
    have hg : good [⟨(a.size : Int), E, 0⟩] = true := by
      unfold good
      simp only [ord, fits, hk, E_size]
      simp
      omega
    have hfi : fits [⟨(a.size : Int), E, 0⟩] 0 0 = true := (good_ok hg).2.2.1
    rw [hg, hfi]; rfl
  · rw [if_neg h]; rfl
def s0 : ByteArray := ⟨#[97, 98]⟩
def s1 : ByteArray := ⟨#[97, 98, 99, 100]⟩
def s2 : ByteArray := ⟨#[97, 98, 88, 100]⟩
theorem between_12 : between s1 s2 = [⟨2, E, 0⟩, ⟨0, ⟨#[88]⟩, 0⟩, ⟨0, E, 1⟩, ⟨1, E, 0⟩] := by
  unfold between
  have hK : Kk s1 s2 = 2 := by decide
  have hN : Nn s1 s2 = 1 := by decide
  rw [hK, hN]
  have hb : btw s1 s2 2 1 = [⟨2, E, 0⟩, ⟨0, ⟨#[88]⟩, 0⟩, ⟨0, E, 1⟩, ⟨1, E, 0⟩] := by
    unfold btw
    rw [show s2.extract 2 (s2.size - 1) = ⟨#[88]⟩ from L_inj (by rw [L_cut]; decide)]
    rfl
  rw [hb]
  exact norm_self (by decide)
theorem lives_f (k : Nat) (hk : 40 ≤ k) : variorumlaw07_lives.f k = some true := by
  have h1 : app [⟨1, E, 0⟩, ⟨0, ⟨#[120]⟩, 0⟩, ⟨0, E, 1⟩] s0 = (⟨#[97, 120]⟩, 0) := by
    rw [app_yes (by decide)]
    rw [show apL [⟨1, E, 0⟩, ⟨0, ⟨#[120]⟩, 0⟩, ⟨0, E, 1⟩] s0 = ⟨#[97, 120]⟩ from L_inj (by rw [apW_eq]; decide)]
  have a1 := apply_f (l := [⟨1, E, 0⟩, ⟨0, ⟨#[120]⟩, 0⟩, ⟨0, E, 1⟩]) (by simp) (s := s0) (by decide)
  rw [h1] at a1
  have b1 := between_f s1 s2 (by decide) (by decide) k (by rw [show most s1 s2 = 4 by decide]; omega)
  rw [between_12] at b1
  have c1 := same_eq [⟨2, E, 0⟩, ⟨0, ⟨#[88]⟩, 0⟩, ⟨0, E, 1⟩, ⟨1, E, 0⟩] (by simp) k (by simp; omega)
  unfold variorumlaw07_lives.f
  show (run_Apply.f [⟨1, E, 0⟩, ⟨0, ⟨#[120]⟩, 0⟩, ⟨0, E, 1⟩] s0).bind _ = _
  rw [a1, Option.bind_some, if_pos rfl, if_pos (by rw [ByteArray.toList_eq])]
  show (run_Between.f k s1 s2).bind _ = _
  rw [b1, Option.bind_some]
  show (variorumref06_Same.f k [⟨2, E, 0⟩, ⟨0, ⟨#[88]⟩, 0⟩, ⟨0, E, 1⟩, ⟨1, E, 0⟩] [⟨2, E, 0⟩, ⟨0, ⟨#[88]⟩, 0⟩, ⟨0, E, 1⟩, ⟨1, E, 0⟩]).bind _ = _
  rw [c1, Option.bind_some]
theorem lives_b (k : Nat) (hk : 40 ≤ k) : ((variorumlaw07_lives.f k).bind fun t => some t) = some true := by rw [lives_f k hk]; rfl
end Go.Proofs.Ythocalfgeaclgaa.RunF
end

/- The plain law: texts, put one behind the other, are told from each other list of as many by their bytes. -/
import Derived.Test.YtgefpgbofhcmdaaVaryL
import Derived.Test.YtgefpgbofhcmdaaGr
namespace Go.Proofs.Ytgefpgbofhcmdaa.ApartL
open Go.RowKit Go.Proofs.Ytgefpgbofhcmdaa.Vy Go.Proofs.Ytgefpgbofhcmdaa.Own

/-- Are texts looked at? -/
def Few (l : List ByteArray) : Prop := ∀ s ∈ l, l.length ≤ 100 ∧ s.size ≤ 200
/-- Their bytes. -/
def all : List ByteArray → List Int
  | [] => []
  | s :: l => enc s.size ++ (numsOf s ++ all l)
theorem all_append (l m : List ByteArray) : all (l ++ m) = all l ++ all m := by
  induction l with
  | nil => rfl
  | cons s l ih => simp [all, ih]
theorem ok_all (l : List ByteArray) : Byt.Ok (all l) := by
  induction l with
  | nil => exact Byt.ok_nil
  | cons s l ih => exact Byt.ok_append (ok_enc _) (Byt.ok_append (ok_numsOf s) ih)
theorem put_all (l : List Int) (s : ByteArray) (hs : s.size ≤ 200) : putTL l (numsOf s) = l ++ all [s] := by
  unfold putTL
  rw [numsOf_length, putL_good (by have : M = 4611686018427387904 := rfl; omega)]
  simp [all]
theorem all_len (l : List ByteArray) (h : ∀ s ∈ l, s.size ≤ 200) : (all l).length ≤ 209 * l.length := by
  induction l with
  | nil => simp [all]
  | cons s l ih =>
    have h1 := h s (by simp)
    have h2 := ih (fun t ht => h t (by simp [ht]))
    have h3 := enc_len9 (n := s.size) (by omega)
    simp only [all, List.length_append, List.length_cons, numsOf_length]
    omega
theorem numsOf_inj {s t : ByteArray} (h : numsOf s = numsOf t) : s = t := by rw [← strOf_numsOf s, h, strOf_numsOf]
theorem prefix_eq : ∀ (l m : List ByteArray), l.length = m.length → (∀ s ∈ l, s.size ≤ 200) → (∀ s ∈ m, s.size ≤ 200) → ∀ X, all m = all l ++ X → l = m := by
  intro l
  induction l with
  | nil => intro m hl _ _ _ _; exact (List.eq_nil_of_length_eq_zero hl.symm).symm
  | cons s l ih =>
    intro m hl hs hm X h
    cases m with
    | nil => simp at hl
    | cons t m =>
      have hM : M = 4611686018427387904 := rfl
      have h1 := hs s (by simp)
      have h2 := hm t (by simp)
      simp only [all, List.append_assoc] at h
      have e1 := numL_enc t.size (by omega) (numsOf t ++ all m)
      have e2 := numL_enc s.size (by omega) (numsOf s ++ (all l ++ X))
      rw [h, e2] at e1
      have hsz : s.size = t.size := by
        have := congrArg Prod.fst e1
        simp only at this
        omega
      rw [hsz] at h
      have h3 := List.append_cancel_left h
      have hlen : (numsOf t).length = (numsOf s).length := by rw [numsOf_length, numsOf_length, hsz]
      obtain ⟨h4, h5⟩ := List.append_inj h3 hlen
      have h6 := ih m (by simpa using hl) (fun q hq => hs q (by simp [hq])) (fun q hq => hm q (by simp [hq])) X h5
      rw [numsOf_inj h4, h6]
theorem take_eq (l m : List ByteArray) (hl : l.length = m.length) (hs : ∀ s ∈ l, s.size ≤ 200) (hm : ∀ s ∈ m, s.size ≤ 200) (k : Nat) (hk : k = min (all l).length (all m).length) (h : (all l).take k = (all m).take k) : l = m := by
  by_cases hle : (all l).length ≤ (all m).length
  · rw [Nat.min_eq_left hle] at hk
    rw [hk, List.take_of_length_le (Nat.le_refl _)] at h
    refine prefix_eq l m hl hs hm ((all m).drop (all l).length) ?_
    conv => rhs; lhs; rw [h]
    rw [List.take_append_drop]
  · rw [Nat.min_eq_right (by omega)] at hk
    rw [hk, List.take_of_length_le (l := all m) (Nat.le_refl _)] at h
    refine (prefix_eq m l hl.symm hm hs ((all l).drop (all m).length) ?_).symm
    conv => rhs; lhs; rw [← h]
    rw [List.take_append_drop]
end Go.Proofs.Ytgefpgbofhcmdaa.ApartL

/- The plain law of numbers and texts as bytes: one way to write a number, what was put is read; no program in sight. -/
import Derived.Test.YtedfcjcnhgomoaaByt
namespace Go.Proofs.Ytedfcjcnhgomoaa.Vy
open Go.RowKit

abbrev M : Int := 4611686018427387904
/-- A number's bytes. -/
def enc (n : Nat) : List Int := if n < 128 then [(n : Int)] else ((n % 128 + 128 : Nat) : Int) :: enc (n / 128)
termination_by n
decreasing_by omega
theorem enc_lt {n : Nat} (h : n < 128) : enc n = [(n : Int)] := by rw [enc, if_pos h]
theorem enc_ge {n : Nat} (h : 128 ≤ n) : enc n = ((n % 128 + 128 : Nat) : Int) :: enc (n / 128) := by rw [enc, if_neg (by omega)]
theorem enc_pos (n : Nat) : 0 < (enc n).length := by
  rw [enc]; split <;> simp
theorem enc_len : ∀ (k n : Nat), n < 128 ^ (k + 1) → (enc n).length ≤ k + 1 := by
  intro k
  induction k with
  | zero => intro n h; rw [enc_lt (by simpa using h)]; simp
  | succ k ih =>
    intro n h
    by_cases hn : n < 128
    · rw [enc_lt hn]; simp
    · rw [enc_ge (by omega), List.length_cons]
      have := ih (n / 128) (by rw [Nat.div_lt_iff_lt_mul (by decide)]; rw [Nat.pow_succ] at h; exact h)
      omega
theorem enc_len9 {n : Nat} (h : n ≤ 4611686018427387904) : (enc n).length ≤ 9 := enc_len 8 n (by omega)
theorem ok_enc (n : Nat) : Byt.Ok (enc n) := by
  induction n using Nat.strongRecOn with
  | _ n ih =>
    by_cases hn : n < 128
    · rw [enc_lt hn]; exact Byt.ok_cons (by omega) Byt.ok_nil
    · rw [enc_ge (by omega)]; exact Byt.ok_cons (by omega) (ih (n / 128) (by omega))

/-- The number with which bytes begin, from its i-th byte on, and how many bytes it has (0: none). -/
def numG (i : Nat) (n : Int) : List Int → Int × Nat
  | [] => (0, 0)
  | c :: t =>
    if 9 ≤ i then (0, 0)
    else if 0 < c % 128 ∧ (M - n) / 128 ^ i < c % 128 then (0, 0)
    else if 128 ≤ c then numG (i + 1) (n + c % 128 * 128 ^ i) t
    else if c % 128 = 0 ∧ 0 < i then (0, 0)
    else (n + c % 128 * 128 ^ i, i + 1)
def numL (l : List Int) : Int × Nat := numG 0 0 l

theorem pow_pos (i : Nat) : (0 : Int) < 128 ^ i := Int.pow_pos (by decide)
theorem le_div (k a s : Int) (hs : 0 < s) : k ≤ a / s ↔ k * s ≤ a := Int.le_ediv_iff_mul_le hs

theorem numG_enc : ∀ (m i : Nat) (n : Int) (rest : List Int), i + (enc m).length ≤ 9 → n + (m : Int) * 128 ^ i ≤ M → (0 < m ∨ i = 0) →
    numG i n (enc m ++ rest) = (n + (m : Int) * 128 ^ i, i + (enc m).length) := by
  intro m
  induction m using Nat.strongRecOn with
  | _ m ih =>
    intro i n rest hl hb hp
    have hpw := pow_pos i
    by_cases hm : m < 128
    · rw [enc_lt hm] at hl ⊢
      have e : (m : Int) % 128 = m := by omega
      have hd : ¬ ((M - n) / 128 ^ i < (m : Int)) := by
        rw [Int.not_lt, le_div _ _ _ hpw]; omega
      simp only [List.singleton_append, numG, e]
      rw [if_neg (by simp at hl; omega), if_neg (fun h => hd h.2), if_neg (by omega), if_neg (by omega)]
      simp
    · rw [enc_ge (by omega)] at hl ⊢
      have e : (((m % 128 + 128 : Nat) : Int)) % 128 = ((m % 128 : Nat) : Int) := by omega
      have hsplit : (m : Int) * 128 ^ i = ((m % 128 : Nat) : Int) * 128 ^ i + ((m / 128 : Nat) : Int) * 128 ^ (i + 1) := by
        have h1 : (m : Int) = ((m % 128 : Nat) : Int) + ((m / 128 : Nat) : Int) * 128 := by omega
        rw [Int.pow_succ]
        conv => lhs; rw [h1, Int.add_mul]
        rw [Int.mul_assoc, Int.mul_comm 128]
      have hnn : (0 : Int) ≤ ((m / 128 : Nat) : Int) * 128 ^ (i + 1) := Int.mul_nonneg (by omega) (Int.le_of_lt (pow_pos _))
      have hd : ¬ ((M - n) / 128 ^ i < ((m % 128 : Nat) : Int)) := by
        rw [Int.not_lt, le_div _ _ _ hpw]; omega
      simp only [List.cons_append, numG, e]
      simp only [List.length_cons] at hl ⊢
      rw [if_neg (by omega), if_neg (fun h => hd h.2), if_pos (by omega)]
      rw [ih (m / 128) (by omega) (i + 1) _ rest (by omega) (by omega) (by omega)]
      refine Prod.ext ?_ (by simp; omega)
      show _ + _ = _
      rw [hsplit]; omega

theorem numG_one : ∀ (l : List Int) (i : Nat) (n : Int), Byt.Ok l → 0 ≤ n → n ≤ M → (numG i n l).2 ≠ 0 →
    ∃ m : Nat, (numG i n l).1 = n + (m : Int) * 128 ^ i ∧ i < (numG i n l).2 ∧ l.take ((numG i n l).2 - i) = enc m ∧ (0 < m ∨ i = 0) ∧ (numG i n l).2 ≤ i + l.length ∧ (numG i n l).1 ≤ M ∧ (numG i n l).2 ≤ 9 := by
  intro l
  induction l with
  | nil => intro i n _ _ _ h; exact absurd rfl h
  | cons c t ih =>
    intro i n hok h0 hM h
    have hpw := pow_pos i
    have hc := hok c (by simp)
    have hot : Byt.Ok t := fun x hx => hok x (by simp [hx])
    simp only [numG] at h ⊢
    by_cases h9 : 9 ≤ i
    · rw [if_pos h9] at h; exact absurd rfl h
    rw [if_neg h9] at h ⊢
    by_cases hg : 0 < c % 128 ∧ (M - n) / 128 ^ i < c % 128
    · rw [if_pos hg] at h; exact absurd rfl h
    rw [if_neg hg] at h ⊢
    have hle : n + c % 128 * 128 ^ i ≤ M := by
      by_cases hk : 0 < c % 128
      · have := (le_div (c % 128) (M - n) (128 ^ i) hpw).1 (by omega)
        omega
      · have : c % 128 = 0 := by omega
        rw [this]; omega
    have hnn : 0 ≤ c % 128 * 128 ^ i := Int.mul_nonneg (by omega) (by omega)
    by_cases hge : 128 ≤ c
    · rw [if_pos hge] at h ⊢
      obtain ⟨m, h1, h2, h3, h4, h5, h6, h7⟩ := ih (i + 1) _ hot (by omega) hle h
      have hm : 0 < m := by omega
      refine ⟨m * 128 + (c % 128).toNat, ?_, by omega, ?_, .inl (by omega), by simp; omega, h6, h7⟩
      · rw [h1, Int.pow_succ]
        have e1 : ((m * 128 + (c % 128).toNat : Nat) : Int) = (m : Int) * 128 + c % 128 := by omega
        rw [e1, Int.add_mul, show (m : Int) * 128 * 128 ^ i = (m : Int) * (128 ^ i * 128) by rw [Int.mul_assoc, Int.mul_comm 128]]; omega
      · have e1 : (numG (i + 1) (n + c % 128 * 128 ^ i) t).2 - i = ((numG (i + 1) (n + c % 128 * 128 ^ i) t).2 - (i + 1)) + 1 := by omega
        rw [e1, List.take_succ_cons, h3, enc_ge (n := m * 128 + (c % 128).toNat) (by omega)]
        have e2 : (m * 128 + (c % 128).toNat) / 128 = m := by omega
        have e3 : (((m * 128 + (c % 128).toNat) % 128 + 128 : Nat) : Int) = c := by omega
        rw [e2, e3]
    · rw [if_neg hge] at h ⊢
      by_cases hz : c % 128 = 0 ∧ 0 < i
      · rw [if_pos hz] at h; exact absurd rfl h
      rw [if_neg hz]
      have e : c % 128 = c := by omega
      refine ⟨c.toNat, ?_, by simp, ?_, by omega, by simp, hle, by simp; omega⟩
      · rw [e, show ((c.toNat : Nat) : Int) = c by omega]
      · have e1 : i + 1 - i = 0 + 1 := by omega
        rw [e1, List.take_succ_cons, List.take_zero, enc_lt (by omega)]
        congr 1; omega

theorem numL_enc (m : Nat) (hm : (m : Int) ≤ M) (rest : List Int) : numL (enc m ++ rest) = ((m : Int), (enc m).length) := by
  unfold numL
  have := numG_enc m 0 0 rest (by have := enc_len9 (n := m) (by have : M = 4611686018427387904 := rfl; omega); omega) (by simpa using hm) (.inr rfl)
  simpa using this
theorem numL_one {l : List Int} (hok : Byt.Ok l) (h : (numL l).2 ≠ 0) : ∃ m : Nat, (numL l).1 = (m : Int) ∧ l.take (numL l).2 = enc m ∧ (m : Int) ≤ M ∧ (numL l).2 ≤ l.length ∧ (numL l).2 ≤ 9 := by
  obtain ⟨m, h1, h2, h3, h4, h5, h6, h7⟩ := numG_one l 0 0 hok (by omega) (by decide) h
  refine ⟨m, by show (numG 0 0 l).1 = _; simpa using h1, h3, ?_, by show (numG 0 0 l).2 ≤ _; simpa using h5, h7⟩
  have : (numG 0 0 l).1 = (m : Int) := by simpa using h1
  rw [← this]; exact h6
theorem numG_zero : ∀ (l : List Int) (i : Nat) (n : Int), (numG i n l).2 = 0 → (numG i n l).1 = 0 := by
  intro l
  induction l with
  | nil => intro i n _; rfl
  | cons c t ih =>
    intro i n h
    simp only [numG] at h ⊢
    repeat' split
    all_goals first | rfl | (rename_i h1 h2 h3; rw [if_neg h1, if_neg h2, if_pos h3] at h; exact ih _ _ h) | skip
    rename_i h1 h2 h3 h4
    rw [if_neg h1, if_neg h2, if_neg h3, if_neg h4] at h
    simp at h
theorem numL_zero {l : List Int} (h : (numL l).2 = 0) : (numL l).1 = 0 := numG_zero l 0 0 h
theorem numL_nonneg {l : List Int} (hok : Byt.Ok l) : 0 ≤ (numL l).1 ∧ (numL l).1 ≤ M := by
  by_cases h : (numL l).2 = 0
  · rw [numL_zero h]; exact ⟨by omega, by decide⟩
  · obtain ⟨m, h1, _, h2, _⟩ := numL_one hok h
    rw [h1]; exact ⟨by omega, h2⟩
theorem numL_le {l : List Int} (hok : Byt.Ok l) : (numL l).2 ≤ l.length := by
  by_cases h : (numL l).2 = 0
  · omega
  · obtain ⟨m, _, _, _, h2, _⟩ := numL_one hok h
    exact h2

/-- A number of any sign. -/
def zig (n : Int) : Int := if n < 0 then -2 * n - 1 else 2 * n
def zag (n : Int) : Int := if n % 2 = 1 then -((n + 1) / 2) else n / 2
theorem zag_zig (n : Int) : zag (zig n) = n := by unfold zag zig; split <;> split <;> omega
theorem zig_zag {n : Int} (h : 0 ≤ n) : zig (zag n) = n := by unfold zag zig; split <;> split <;> omega

def putL (l : List Int) (n : Int) : List Int := if n < 0 ∨ M < n then l else l ++ enc n.toNat
def putSL (l : List Int) (n : Int) : List Int := if n < -2305843009213693952 ∨ 2305843009213693952 < n then l else putL l (zig n)
def putTL (l s : List Int) : List Int := putL l (s.length : Int) ++ s
theorem putL_good {l : List Int} {n : Nat} (h : (n : Int) ≤ M) : putL l (n : Int) = l ++ enc n := by
  unfold putL; rw [if_neg (by omega), Int.toNat_natCast]
theorem putL_len (l : List Int) (n : Int) : (putL l n).length ≤ l.length + 9 := by
  unfold putL
  split
  · omega
  · rw [List.length_append]
    have := enc_len9 (n := n.toNat) (by have : M = 4611686018427387904 := rfl; omega)
    omega
theorem ok_putL {l : List Int} (h : Byt.Ok l) (n : Int) : Byt.Ok (putL l n) := by
  unfold putL; split
  · exact h
  · exact Byt.ok_append h (ok_enc _)
theorem ok_putSL {l : List Int} (h : Byt.Ok l) (n : Int) : Byt.Ok (putSL l n) := by
  unfold putSL; split
  · exact h
  · exact ok_putL h _
theorem putSL_len (l : List Int) (n : Int) : (putSL l n).length ≤ l.length + 9 := by
  unfold putSL; split
  · omega
  · exact putL_len _ _
theorem ok_putTL {l s : List Int} (h : Byt.Ok l) (hs : Byt.Ok s) : Byt.Ok (putTL l s) := Byt.ok_append (ok_putL h _) hs

theorem putSL_zag {m : Nat} (h : (m : Int) ≤ M) : putSL [] (zag m) = enc m := by
  have hM : M = 4611686018427387904 := rfl
  unfold putSL
  rw [if_neg (by unfold zag; split <;> omega), zig_zag (by omega), putL_good h, List.nil_append]
/-- A reader's steps: the value, how many bytes; bad: 0 bytes. -/
def sgnL (l : List Int) : Int × Nat := (zag (numL l).1, (numL l).2)
def textL (l : List Int) : List Int × Nat :=
  if (numL l).2 = 0 ∨ (l.length : Int) - (numL l).2 < (numL l).1 then ([], 0) else ((l.drop (numL l).2).take (numL l).1.toNat, (numL l).2 + (numL l).1.toNat)
theorem textL_le {l : List Int} (hok : Byt.Ok l) : (textL l).2 ≤ l.length := by
  unfold textL
  have h1 := numL_le hok
  have h2 := numL_nonneg hok
  split
  · exact Nat.zero_le _
  · simp only; omega
theorem textL_put (s rest : List Int) (hs : (s.length : Int) ≤ M) : textL (putTL [] s ++ rest) = (s, (enc s.length).length + s.length) := by
  unfold textL putTL
  rw [putL_good hs, List.nil_append, List.append_assoc, numL_enc s.length hs]
  have hp := enc_pos s.length
  simp only
  have e1 : ((enc s.length ++ (s ++ rest)).length : Int) = (enc s.length).length + (s.length + rest.length) := by simp
  rw [if_neg (by rw [e1]; omega)]
  simp
end Go.Proofs.Ytedfcjcnhgomoaa.Vy

/- What the printed functions of the check sum come to: the plain sum over bits (Crc). -/
import Derived.Test.YtedfcjcnhgomoaaPsum32Sum
import Derived.Test.YtedfcjcnhgomoaaCrc
namespace Go.Proofs.Ytedfcjcnhgomoaa.SumF
open Go.RowKit Go.Proofs.Ytedfcjcnhgomoaa.P Go.Proofs.YtedfcjcnhgomoaaW.PrintWords Go.Proofs.YtedfcjcnhgomoaaW.PrintLast Go.Proofs.Ytedfcjcnhgomoaa.Crc

theorem down_f (x : BitVec 32) : sum32_down.f (x.toNat : Int) = some ((dn x).toNat : Int) := by
  unfold sum32_down.f
  rw [bits_and1, half, show (2197175160 : Int) = ((0x82F63B78#32).toNat : Int) from rfl, bits_xor]
  unfold dn
  cases x.getLsbD 0 <;> simp

theorem l1_eq (K : Nat) (x : Int) (L : List Int) (n i j : Int) : sum32_Sum.l1 (K + 1) x L n i j = if j < 8 then ((sum32_down.f x).bind fun t102 => (sum32_Sum.l1 K t102 L n i (wrap64 (j + 1)))) else (sum32_Sum.l0 K x L n (wrap64 (i + 1))) := by
  rw [sum32_Sum.l1]
theorem w1 (j : Nat) (h : j ≤ 140737488355328) : wrap64 ((j : Int) + 1) = ((j + 1 : Nat) : Int) := by unfold wrap64; omega
theorem l1_run (L : List Int) (n i : Int) : ∀ (m j : Nat) (x : BitVec 32) (k : Nat), j + m = 8 →
    sum32_Sum.l1 (k + m + 1) (x.toNat : Int) L n i (j : Int) = sum32_Sum.l0 k ((dns m x).toNat : Int) L n (wrap64 (i + 1)) := by
  intro m
  induction m with
  | zero =>
    intro j x k h
    have hj : ¬ (j : Int) < 8 := by omega
    rw [l1_eq, if_neg hj]
    rfl
  | succ m ih =>
    intro j x k h
    have hj : (j : Int) < 8 := by omega
    have h1 := ih (j + 1) (dn x) k (by omega)
    rw [l1_eq, if_pos hj, down_f, w1 j (by omega)]
    exact h1

theorem l0_run (L : List Int) (hL : L.length ≤ 140737488355328) : ∀ (d i k : Nat) (x : BitVec 32), i + d = L.length →
    sum32_Sum.l0 (k + 10 * d + 1) (x.toNat : Int) L (L.length : Int) (i : Int) = some ((run x (L.drop i) ^^^ ones).toNat : Int) := by
  intro d
  induction d with
  | zero =>
    intro i k x h
    rw [sum32_Sum.l0, if_neg (by omega), List.drop_of_length_le (by omega), run_nil, show (4294967295 : Int) = (ones.toNat : Int) from rfl, bits_xor]
  | succ d ih =>
    intro i k x h
    have e : k + 10 * (d + 1) + 1 = ((k + 10 * d + 1) + 8 + 1) + 1 := by omega
    rw [e]
    rw [sum32_Sum.l0, if_pos (by omega), if_pos (by omega), if_pos (by omega), ofInt_mod, bits_xor]
    have h1 := l1_run L (L.length : Int) (i : Int) 8 0 (x ^^^ BitVec.ofInt 32 (rd L (i : Int))) (k + 10 * d + 1) (by omega)
    simp only [Int.natCast_zero] at h1
    rw [h1, w1 i (by omega), ih (i + 1) k _ (by omega)]
    rw [List.drop_eq_getElem_cons (show i < L.length by omega), run_cons]
    have : rd L (i : Int) = L[i]'(by omega) := by
      unfold rd
      rw [Int.toNat_natCast, List.getD_eq_getElem?_getD, List.getElem?_eq_getElem (by omega)]; rfl
    rw [this]; rfl

theorem sum_f (L : List Int) (hL : L.length ≤ 140737488355328) (k : Nat) (hk : 10 * L.length + 1 ≤ k) : sum32_Sum.f k L = some ((sum L).toNat : Int) := by
  unfold sum32_Sum.f
  have h := l0_run L hL L.length 0 (k - (10 * L.length + 1)) ones (by omega)
  have e : k - (10 * L.length + 1) + 10 * L.length + 1 = k := by omega
  rw [e, List.drop_zero] at h
  exact h
theorem sum_some (L : List Int) (hL : L.length ≤ 140737488355328) : ∃ k, sum32_Sum.f k L = some ((sum L).toNat : Int) := ⟨_, sum_f L hL _ (Nat.le_refl _)⟩

theorem sum_nil : sum [] = 0#32 := by decide
theorem sum_nine : (sum [49, 50, 51, 52, 53, 54, 55, 56, 57]).toNat = 3808858755 := by decide +kernel

end Go.Proofs.Ytedfcjcnhgomoaa.SumF

/- What the reference's functions of the check sum come to: the same plain sum. -/
import Derived.Test.YtedfcjcnhgomoaaPvariorumref02Seal
import Derived.Test.YtedfcjcnhgomoaaPvariorumref02Sum
import Derived.Test.YtedfcjcnhgomoaaPvariorumref02step
import Derived.Test.YtedfcjcnhgomoaaCrc
import Derived.Test.YtedfcjcnhgomoaaByt
namespace Go.Proofs.Ytedfcjcnhgomoaa.RefSum
open Go.RowKit Go.Proofs.Ytedfcjcnhgomoaa.P Go.Proofs.YtedfcjcnhgomoaaW.PrintWords Go.Proofs.YtedfcjcnhgomoaaW.PrintLast Go.Proofs.Ytedfcjcnhgomoaa.Crc

theorem w1 (j : Nat) (h : j ≤ 140737488355328) : wrap64 ((j : Int) + 1) = ((j + 1 : Nat) : Int) := by unfold wrap64; omega
theorem step_eq (K : Nat) (x j : Int) : variorumref02_step.l0 (K + 1) x j = if j < 8 then (if (Int.tmod x 2) = 1 then (variorumref02_step.l0 K (Go.bits .xor .u32 ((Int.tdiv x 2) % 4294967296) 2197175160) (wrap64 (j + 1))) else (variorumref02_step.l0 K ((Int.tdiv x 2) % 4294967296) (wrap64 (j + 1)))) else (some x) := by
  rw [variorumref02_step.l0]
theorem half2 (u : BitVec 32) : (Int.tdiv (u.toNat : Int) 2) % (4294967296 : Int) = ((u >>> 1).toNat : Int) := by
  rw [Int.tdiv_eq_ediv_of_nonneg (by omega), half]
  have := (u >>> 1).isLt
  omega
theorem odd (u : BitVec 32) : (Int.tmod (u.toNat : Int) 2 = 1) ↔ u.getLsbD 0 = true := by
  rw [Int.tmod_eq_emod_of_nonneg (by omega)]
  simp [BitVec.getLsbD, Nat.testBit_zero]
  omega
theorem step_run : ∀ (m j : Nat) (x : BitVec 32) (k : Nat), j + m = 8 → variorumref02_step.l0 (k + m + 1) (x.toNat : Int) (j : Int) = some ((dns m x).toNat : Int) := by
  intro m
  induction m with
  | zero =>
    intro j x k h
    have hj : ¬ (j : Int) < 8 := by omega
    rw [step_eq, if_neg hj]; rfl
  | succ m ih =>
    intro j x k h
    have hj : (j : Int) < 8 := by omega
    have h1 := ih (j + 1) (dn x) k (by omega)
    have e : k + (m + 1) + 1 = (k + m + 1) + 1 := by omega
    rw [e, step_eq, if_pos hj, half2, w1 j (by omega)]
    cases hb : x.getLsbD 0 with
    | true =>
      rw [if_pos ((odd x).2 hb), show (2197175160 : Int) = ((0x82F63B78#32).toNat : Int) from rfl, bits_xor]
      have hd : dn x = x >>> 1 ^^^ 0x82F63B78#32 := by unfold dn; rw [hb]; rfl
      rw [← hd]
      exact h1
    | false =>
      rw [if_neg (fun hc => by rw [(odd x).1 hc] at hb; cases hb)]
      rw [← dn_even x hb]
      exact h1
theorem step_f (x : BitVec 32) (c : Int) (k : Nat) (hk : 9 ≤ k) : variorumref02_step.f k (x.toNat : Int) c = some ((Crc.step x c).toNat : Int) := by
  unfold variorumref02_step.f
  rw [ofInt_mod, bits_xor]
  have h := step_run 8 0 (x ^^^ BitVec.ofInt 32 c) (k - 9) (by omega)
  have e : k - 9 + 8 + 1 = k := by omega
  rw [e] at h
  exact h
theorem sum_eq (K : Nat) (L : List Int) (x i : Int) : variorumref02_Sum.l0 (K + 1) L x i = if i < (L.length : Int) then (if 0 ≤ i then ((variorumref02_step.f K x (rd L i)).bind fun t120 => (variorumref02_Sum.l0 K L t120 (wrap64 (i + 1)))) else (none)) else (some (Go.bits .xor .u32 x 4294967295)) := by
  rw [variorumref02_Sum.l0]
theorem sum_run (L : List Int) (hL : L.length ≤ 140737488355328) : ∀ (d i k : Nat) (x : BitVec 32), i + d = L.length → variorumref02_Sum.l0 (k + 9 + d + 1) L (x.toNat : Int) (i : Int) = some ((run x (L.drop i) ^^^ ones).toNat : Int) := by
  intro d
  induction d with
  | zero =>
    intro i k x h
    have hi : ¬ (i : Int) < (L.length : Int) := by omega
    rw [sum_eq, if_neg hi, List.drop_of_length_le (by omega), run_nil, show (4294967295 : Int) = (ones.toNat : Int) from rfl, bits_xor]
  | succ d ih =>
    intro i k x h
    have hi : (i : Int) < (L.length : Int) := by omega
    have h0 : (0 : Int) ≤ (i : Int) := by omega
    have e : k + 9 + (d + 1) + 1 = (k + 9 + d + 1) + 1 := by omega
    have h1 := ih (i + 1) k (Crc.step x L[i]) (by omega)
    have hr : rd L (i : Int) = L[i] := by unfold rd; exact Byt.rd_at L i (by omega)
    rw [e, sum_eq, if_pos hi, if_pos h0, hr, step_f _ _ _ (by omega), Option.bind_some, w1 i (by omega), h1, ← run_cons, List.getElem_cons_drop]
theorem sum_f (L : List Int) (hL : L.length ≤ 140737488355328) (k : Nat) (hk : L.length + 10 ≤ k) : variorumref02_Sum.f k L = some ((sum L).toNat : Int) := by
  unfold variorumref02_Sum.f
  have h := sum_run L hL L.length 0 (k - (L.length + 10)) ones (by omega)
  have e : k - (L.length + 10) + 9 + L.length + 1 = k := by omega
  rw [e, List.drop_zero] at h
  exact h
theorem seal_eq (K : Nat) (x : Int) (l : List Int) (i : Int) : variorumref02_Seal.l0 (K + 1) x l i = if i < 4 then (if l.length < 140737488355328 then (variorumref02_Seal.l0 K ((Int.tdiv x 256) % 4294967296) (l ++ [(Int.tmod x 256) % 256]) (wrap64 (i + 1))) else (none)) else (some l) := by
  rw [variorumref02_Seal.l0]
theorem seal_run (y : BitVec 32) (l : List Int) (hl : l.length + 4 < 140737488355328) (k : Nat) : variorumref02_Seal.l0 (k + 4 + 1) (y.toNat : Int) l 0 = some (l ++ le4 y) := by
  have hy := y.isLt
  have e0 : Int.tmod (y.toNat : Int) 256 % 256 = (y.toNat : Int) % 256 := by rw [Int.tmod_eq_emod_of_nonneg (by omega)]; omega
  have d0 : Int.tdiv (y.toNat : Int) 256 % 4294967296 = (y.toNat : Int) / 256 := by rw [Int.tdiv_eq_ediv_of_nonneg (by omega)]; omega
  have e1 : Int.tmod ((y.toNat : Int) / 256) 256 % 256 = (y.toNat : Int) / 256 % 256 := by rw [Int.tmod_eq_emod_of_nonneg (by omega)]; omega
  have d1 : Int.tdiv ((y.toNat : Int) / 256) 256 % 4294967296 = (y.toNat : Int) / 65536 := by rw [Int.tdiv_eq_ediv_of_nonneg (by omega)]; omega
  have e2 : Int.tmod ((y.toNat : Int) / 65536) 256 % 256 = (y.toNat : Int) / 65536 % 256 := by rw [Int.tmod_eq_emod_of_nonneg (by omega)]; omega
  have d2 : Int.tdiv ((y.toNat : Int) / 65536) 256 % 4294967296 = (y.toNat : Int) / 16777216 := by rw [Int.tdiv_eq_ediv_of_nonneg (by omega)]; omega
  have e3 : Int.tmod ((y.toNat : Int) / 16777216) 256 % 256 = (y.toNat : Int) / 16777216 := by rw [Int.tmod_eq_emod_of_nonneg (by omega)]; omega
  have a0 : wrap64 (0 + 1) = 1 := by rw [Byt.wrap_in _ (by decide)]; rfl
  have a1 : wrap64 (1 + 1) = 2 := by rw [Byt.wrap_in _ (by decide)]; rfl
  have a2 : wrap64 (2 + 1) = 3 := by rw [Byt.wrap_in _ (by decide)]; rfl
  have a3 : wrap64 (3 + 1) = 4 := by rw [Byt.wrap_in _ (by decide)]; rfl
  rw [show k + 4 + 1 = (((k + 1) + 1 + 1) + 1) + 1 from rfl]
  rw [seal_eq, if_pos (by decide), if_pos (by omega), e0, d0, a0, seal_eq, if_pos (by decide), if_pos (by simp; omega), e1, d1, a1, seal_eq, if_pos (by decide), if_pos (by simp; omega), e2, d2, a2, seal_eq, if_pos (by decide), if_pos (by simp; omega), e3, a3, seal_eq, if_neg (by decide)]
  simp [le4]
theorem seal_f (L : List Int) (hL : L.length + 4 < 140737488355328) (k : Nat) (hk : L.length + 10 ≤ k) : variorumref02_Seal.f k L = some (L ++ le4 (sum L)) := by
  unfold variorumref02_Seal.f
  rw [sum_f L (by omega) k hk, Option.bind_some, Option.bind_some, if_pos (by simp; omega)]
  have h := seal_run (sum L) L hL (k - 5)
  have e : k - 5 + 4 + 1 = k := by omega
  rw [e] at h
  exact h
theorem seal_some (L : List Int) (hL : L.length + 4 < 140737488355328) : ∃ k, variorumref02_Seal.f k L = some (L ++ le4 (sum L)) := ⟨_, seal_f L hL _ (Nat.le_refl _)⟩
theorem sum_some (L : List Int) (hL : L.length ≤ 140737488355328) : ∃ k, variorumref02_Sum.f k L = some ((sum L).toNat : Int) := ⟨_, sum_f L hL _ (Nat.le_refl _)⟩

end Go.Proofs.Ytedfcjcnhgomoaa.RefSum

/- Sealed bytes in which bits are turned, all within 32 side by side, are not opened: for every slice of bytes, every place and every turn; no condition. -/
import Derived.Test.YtgefpgbofhcmdaaPvariorumlaw02Sum32Bursts
import Derived.Test.YtgefpgbofhcmdaaSum
import Derived.Test.YtgefpgbofhcmdaaByt
namespace Go.Proofs.Ytgefpgbofhcmdaa.Pure
open Go.RowKit Go.Proofs.Ytgefpgbofhcmdaa.P Go.Proofs.YtgefpgbofhcmdaaW.PrintWords Go.Proofs.YtgefpgbofhcmdaaW.PrintLast Go.Proofs.YtgefpgbofhcmdaaW.PrintMore Go.Proofs.Ytgefpgbofhcmdaa.Crc Go.Proofs.Ytgefpgbofhcmdaa.SumF

namespace Bursts
/-- The bits of a turn below place i. -/
def low (t : BitVec 32) : Nat → BitVec 32
  | 0 => 0#32
  | i + 1 => low t i ^^^ (if t.getLsbD i then BitVec.twoPow 32 i else 0#32)
theorem low_get (t : BitVec 32) : ∀ i j, (low t i).getLsbD j = (decide (j < i) && t.getLsbD j) := by
  intro i
  induction i with
  | zero => intro j; simp [low]
  | succ i ih =>
    intro j
    rw [low, BitVec.getLsbD_xor, ih]
    by_cases hij : j = i
    · subst hij
      cases ht : t.getLsbD j with
      | false => simp
      | true =>
        have hj : j < 32 := BitVec.lt_of_getLsbD ht
        simp [hj]
    · have hne : (if t.getLsbD i = true then BitVec.twoPow 32 i else 0#32).getLsbD j = false := by
        split
        · rw [BitVec.getLsbD_twoPow]; simp; omega
        · simp
      rw [hne]
      by_cases h1 : j < i
      · simp [h1, show j < i + 1 by omega]
      · simp [h1, show ¬ j < i + 1 by omega]
theorem low_all (t : BitVec 32) : low t 32 = t := by
  apply BitVec.eq_of_getLsbD_eq
  intro j hj
  rw [low_get]; simp [hj]

theorem shr_bit (t : BitVec 32) (i : Nat) (hi : i < 32) : Go.bits .and .u32 (shr .u32 (t.toNat : Int) (i : Int)) 1 = if t.getLsbD i then 1 else 0 := by
  have e : shr .u32 (t.toNat : Int) (i : Int) = ((t >>> i).toNat : Int) := by
    unfold shr
    rw [Int.toNat_natCast, show IntKind.u32.bits = 32 from rfl, Nat.min_eq_left (by omega), BitVec.toNat_ushiftRight, Nat.shiftRight_eq_div_pow]
    rw [Int.natCast_ediv]; simp
  rw [e, bits_and1, BitVec.getLsbD_ushiftRight]
  simp
theorem shl_one (b : Nat) (hb : b < 8) : shl .u8 1 (b : Int) = (2 ^ b : Nat) := by
  unfold shl
  rw [Int.toNat_natCast, show IntKind.u8.bits = 8 from rfl, Nat.min_eq_left (by omega), IntKind.wrap_u8, Int.one_mul]
  have h1 : 2 ^ b < 2 ^ 8 := Nat.pow_lt_pow_right (by decide) hb
  have h2 : ((2 : Int) ^ b) = ((2 ^ b : Nat) : Int) := by simp
  rw [h2]
  generalize 2 ^ b = m at h1
  omega
theorem xor_byte (c : Int) (hc : 0 ≤ c ∧ c ≤ 255) (b : Nat) (hb : b < 8) : ∃ d : Int, Go.bits .xor .u8 c ((2 ^ b : Nat) : Int) = d ∧ (0 ≤ d ∧ d ≤ 255) ∧ BitVec.ofInt 32 d = BitVec.ofInt 32 c ^^^ BitVec.twoPow 32 b := by
  obtain ⟨n, rfl⟩ := Int.eq_ofNat_of_zero_le hc.1
  have h1 : 2 ^ b < 2 ^ 8 := Nat.pow_lt_pow_right (by decide) hb
  have hn : n < 2 ^ 8 := by have := hc.2; omega
  have hx : n ^^^ 2 ^ b < 2 ^ 8 := Nat.xor_lt_two_pow hn h1
  refine ⟨((n ^^^ 2 ^ b : Nat) : Int), ?_, by omega, ?_⟩
  · simp only [bits]
    show IntKind.u8.wrap (((BitVec.ofInt 8 (n : Int)) ^^^ (BitVec.ofInt 8 ((2 ^ b : Nat) : Int))).toNat : Int) = _
    rw [BitVec.ofInt_natCast, BitVec.ofInt_natCast, BitVec.toNat_xor, BitVec.toNat_ofNat, BitVec.toNat_ofNat, Nat.mod_eq_of_lt hn, Nat.mod_eq_of_lt h1, IntKind.wrap_u8]
    omega
  · rw [ofInt_of_nat, ofInt_of_nat]
    apply BitVec.eq_of_toNat_eq
    rw [BitVec.toNat_xor, BitVec.toNat_ofNat, BitVec.toNat_ofNat, BitVec.toNat_twoPow]
    have h3 : (2 : Nat) ^ 8 ≤ 2 ^ 32 := by decide
    rw [Nat.mod_eq_of_lt (by omega), Nat.mod_eq_of_lt (by omega), Nat.mod_eq_of_lt (by omega)]
/-- Where a bit alone goes. -/
theorem place (n K i j b : Nat) (hij : 8 * j + b = K + i) (hb : b < 8) (hi : i < 32) (hj : j < n) (hK : K + 32 ≤ 8 * n) : dns (8 * (n - j)) (BitVec.twoPow 32 b) = dns (8 * n - K) (BitVec.twoPow 32 i) := by
  have e1 : 8 * (n - j) = b + (8 * n - K - i) := by omega
  have e2 : 8 * n - K = i + (8 * n - K - i) := by omega
  rw [e1, dns_add, dns_bit b (by omega), e2, dns_add, dns_bit i (by omega), ← e2]

theorem w_nat (a : Nat) (h : a ≤ 1000000) : wrap64 (a : Int) = (a : Int) := Byt.wrap_in _ (by omega)

theorem open_not (s : List Int) (hs : Byt.Ok s) (hl : s.length ≤ 100000) (h : run ones s ≠ dns 32 ones) : sum32_Open.f s = some ([], false) := by
  unfold sum32_Open.f
  rw [if_pos (by omega), if_neg]
  rintro ⟨h4, he⟩
  have hok : Byt.Ok (s.take (s.length - 4) ++ le4 (sum (s.take (s.length - 4)))) := by
    refine Byt.ok_append (Byt.ok_take hs _) ?_
    intro x hx
    have hlt := (sum (s.take (s.length - 4))).isLt
    simp only [le4, List.mem_cons, List.not_mem_nil, or_false] at hx
    omega
  have e := (Byt.str_eq hok hs).1 he
  apply h
  rw [← e]
  exact run_sealed _

theorem loop (s0 : List Int) (t : BitVec 32) (K : Nat) (ht : t ≠ 0#32) (hs0 : run ones s0 = dns 32 ones) (hn : s0.length ≤ 6000) (hK : K + 32 ≤ 8 * s0.length) (k : Nat) : ∀ (d i : Nat) (s : List Int), i + d = 32 → s.length = s0.length → Byt.Ok s →
    run ones s = run ones s0 ^^^ dns (8 * s0.length - K) (low t i) →
    variorumlaw02_Sum32Bursts.l0 (k + d + 1) (t.toNat : Int) s (K : Int) (i : Int) = some true := by
  intro d
  induction d with
  | zero =>
    intro i s hi hl hok hr
    obtain rfl : i = 32 := by omega
    rw [variorumlaw02_Sum32Bursts.l0, if_neg (by omega), open_not s hok (by omega)]
    · rfl
    rw [hr, hs0, low_all]
    intro e
    have e2 : dns 32 ones ^^^ dns (8 * s0.length - K) t = dns 32 ones ^^^ 0#32 := by rw [e]; simp
    exact ht (dns_inj0 _ _ (xor_cancel e2))
  | succ d ih =>
    intro i s hi hl hok hr
    have hsub : (k + (d + 1) + 1) = (k + d + 1) + 1 := by omega
    have hw1 : wrap64 ((i : Int) + 1) = ((i + 1 : Nat) : Int) := w1 i (by omega)
    rw [hsub, variorumlaw02_Sum32Bursts.l0, if_pos (by omega), if_pos (by omega), shr_bit t i (by omega), hw1]
    cases hb : t.getLsbD i with
    | false =>
      have hne : ¬ ((if false = true then (1 : Int) else 0) = 1) := by decide
      rw [if_neg hne]
      refine ih (i + 1) s (by omega) hl hok ?_
      rw [hr, low, hb]
      simp
    | true =>
      have hye : (if true = true then (1 : Int) else 0) = 1 := by decide
      have hKi : wrap64 ((K : Int) + (i : Int)) = ((K + i : Nat) : Int) := by
        have := w_nat (K + i) (by omega)
        rwa [Int.natCast_add] at this ⊢
      have hdiv : wrap64 (Int.tdiv ((K + i : Nat) : Int) 8) = (((K + i) / 8 : Nat) : Int) := by
        rw [Int.tdiv_eq_ediv_of_nonneg (by omega), show (((K + i : Nat) : Int) / 8) = (((K + i) / 8 : Nat) : Int) from by omega]
        exact w_nat _ (by omega)
      have hmod : Int.tmod ((K + i : Nat) : Int) 8 = (((K + i) % 8 : Nat) : Int) := by
        rw [Int.tmod_eq_emod_of_nonneg (by omega)]; omega
      have hj : (K + i) / 8 < s.length := by omega
      have hrd : rd s (((K + i) / 8 : Nat) : Int) = s[(K + i) / 8] := by unfold rd; exact Byt.rd_at s _ hj
      rw [if_pos hye, hKi, hdiv, hmod, if_pos (by omega), if_pos (by omega), if_pos (by omega), Int.toNat_natCast, hrd, shl_one _ (by omega)]
      obtain ⟨c, hc, hcr, hcx⟩ := xor_byte s[(K + i) / 8] (hok _ (List.getElem_mem hj)) ((K + i) % 8) (by omega)
      rw [hc]
      refine ih (i + 1) (s.set ((K + i) / 8) c) (by omega) (by rw [List.length_set]; exact hl) (Byt.ok_set hok _ hcr) ?_
      rw [run_flip s _ hj c _ hcx, hr, low, hb, hl, place s0.length K i ((K + i) / 8) ((K + i) % 8) (by omega) (by omega) (by omega) (by omega) hK]
      simp only [if_true]
      rw [dns_xor, BitVec.xor_assoc]
end Bursts

theorem Bursts.all (K k : Nat) (hK : K = k + 32 + 1) (l : List Int) (a1 a2 : Int) (hl : ∀ x ∈ l, (Lit.int .u8 x).wf = true) (ha2 : (Lit.int .u32 a2).wf = true) : variorumlaw02_Sum32Bursts.f (K + 1) l a1 a2 = some true := by
  have hok := Byt.ok_of_wf hl
  unfold variorumlaw02_Sum32Bursts.f
  by_cases h : (l.length : Int) > 5000
  · rw [if_pos h, variorumlaw02_Sum32Bursts.j0, if_pos rfl]; rfl
  · rw [if_neg h, variorumlaw02_Sum32Bursts.j0]
    by_cases h0 : a2 = 0
    · rw [h0]; rfl
    · have hb : ¬ ((a2 == 0) = true) := by simpa using h0
      obtain ⟨t, rfl⟩ : ∃ t : BitVec 32, a2 = (t.toNat : Int) := ⟨BitVec.ofInt 32 a2, by have := Byt.wf_u32 ha2; rw [BitVec.toNat_ofInt]; omega⟩
      have ht : t ≠ 0#32 := fun e => h0 (by rw [e]; rfl)
      have hlen : l.length ≤ 5000 := by omega
      have hseal : sum32_Seal.f l = some (l ++ le4 (sum l)) := by unfold sum32_Seal.f; rw [if_pos (by omega)]
      rw [if_neg hb, hseal, Option.bind_some]
      have hl4 : (l ++ le4 (sum l)).length = l.length + 4 := by rw [List.length_append]; rfl
      have hs0 : run ones (l ++ le4 (sum l)) = dns 32 ones := run_sealed l
      have hoks : Byt.Ok (l ++ le4 (sum l)) := by
        refine Byt.ok_append hok ?_
        intro x hx
        have hlt := (sum l).isLt
        simp only [le4, List.mem_cons, List.not_mem_nil, or_false] at hx
        omega
      generalize l ++ le4 (sum l) = s at *
      have e1 : wrap64 ((l.length : Int) + 4) = (l.length : Int) + 4 := Byt.wrap_in _ (by omega)
      have e2 : wrap64 (8 * (s.length : Int)) = 8 * (s.length : Int) := Byt.wrap_in _ (by omega)
      have e3 : wrap64 (8 * (s.length : Int) - 31) = ((8 * s.length - 31 : Nat) : Int) := by rw [Byt.wrap_in _ (by omega)]; omega
      have e4 : IntKind.u64.wrap ((8 * s.length - 31 : Nat) : Int) = ((8 * s.length - 31 : Nat) : Int) := IntWalk.u64_in _ ⟨by omega, by omega⟩
      rw [e1, if_pos (by omega), e2, e3, e4, if_neg (by omega)]
      have hu : 0 ≤ IntKind.u64.wrap a1 ∧ IntKind.u64.wrap a1 ≤ 18446744073709551615 := by rw [IntKind.wrap_u64]; omega
      obtain ⟨u, hu2⟩ := Int.eq_ofNat_of_zero_le hu.1
      rw [hu2, Int.tmod_eq_emod_of_nonneg (by omega)]
      have hKlt : u % (8 * s.length - 31) < 8 * s.length - 31 := Nat.mod_lt _ (by omega)
      rw [show ((u : Int) % ((8 * s.length - 31 : Nat) : Int)) = ((u % (8 * s.length - 31) : Nat) : Int) from (Int.natCast_emod _ _).symm, Bursts.w_nat _ (by omega)]
      have h := Bursts.loop s t (u % (8 * s.length - 31)) ht hs0 (by omega) (by omega) k 32 0 s rfl rfl hoks (by simp [Bursts.low, dns_zero])
      simp only [Int.natCast_zero] at h
      rw [hK]
      exact h

theorem Sum32Bursts : variorumlaw02_Sum32Bursts.Pure := fun l a1 a2 _ _ hl _ ha2 => ⟨_, Bursts.all _ 0 rfl l a1 a2 hl ha2⟩

end Go.Proofs.Ytgefpgbofhcmdaa.Pure

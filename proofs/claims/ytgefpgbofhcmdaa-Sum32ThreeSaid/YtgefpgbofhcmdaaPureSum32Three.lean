/- Of three texts of one length the sum of their xor is the xor of their sums: for every three slices of bytes (nil, empty, sharing memory too); no condition. -/
import Derived.Test.YtgefpgbofhcmdaaPvariorumlaw02Sum32Three
import Derived.Test.YtgefpgbofhcmdaaSum
namespace Go.Proofs.Ytgefpgbofhcmdaa.Pure
open Go.RowKit Go.Proofs.Ytgefpgbofhcmdaa.P Go.Proofs.YtgefpgbofhcmdaaW.PrintWords Go.Proofs.YtgefpgbofhcmdaaW.PrintLast Go.Proofs.Ytgefpgbofhcmdaa.Crc Go.Proofs.Ytgefpgbofhcmdaa.SumF

def xor8 (a b c : Int) : Int := Go.bits .xor .u8 (Go.bits .xor .u8 a b) c

theorem byteOf (u : BitVec 8) : (u.toNat : Int) % 256 = u.toNat := by have := u.isLt; omega
theorem wf_u8 {x : Int} (h : (Lit.int .u8 x).wf = true) : ∃ u : BitVec 8, x = (u.toNat : Int) := by
  have h' : 0 ≤ x ∧ x ≤ 255 := by
    simp [Lit.wf, IntKind.min, IntKind.max, IntKind.signed, IntKind.bits] at h
    omega
  exact ⟨BitVec.ofInt 8 x, by rw [BitVec.toNat_ofInt]; omega⟩
theorem bits_xor8 (u v : BitVec 8) : Go.bits .xor .u8 (u.toNat : Int) (v.toNat : Int) = ((u ^^^ v).toNat : Int) := by
  have e : ∀ z : BitVec 8, BitVec.ofInt 8 (z.toNat : Int) = z := by
    intro z; rw [BitVec.ofInt_natCast]; simp
  simp only [bits]
  show IntKind.u8.wrap (((BitVec.ofInt 8 (u.toNat : Int)) ^^^ (BitVec.ofInt 8 (v.toNat : Int))).toNat : Int) = _
  rw [e, e, IntKind.wrap_u8]
  exact byteOf _
theorem up (u : BitVec 8) : BitVec.ofInt 32 (u.toNat : Int) = u.setWidth 32 := by
  rw [BitVec.ofInt_natCast]
  apply BitVec.eq_of_toNat_eq
  simp
theorem up_xor (u v : BitVec 8) : (u ^^^ v).setWidth 32 = u.setWidth 32 ^^^ v.setWidth 32 := BitVec.setWidth_xor

theorem xor8_up {a b c : Int} (ha : (Lit.int .u8 a).wf = true) (hb : (Lit.int .u8 b).wf = true) (hc : (Lit.int .u8 c).wf = true) :
    BitVec.ofInt 32 (xor8 a b c) = BitVec.ofInt 32 a ^^^ BitVec.ofInt 32 b ^^^ BitVec.ofInt 32 c := by
  obtain ⟨u, rfl⟩ := wf_u8 ha
  obtain ⟨v, rfl⟩ := wf_u8 hb
  obtain ⟨t, rfl⟩ := wf_u8 hc
  unfold xor8
  rw [bits_xor8, bits_xor8, up, up, up, up, up_xor, up_xor]

theorem run_three : ∀ (a b c : List Int) (x y z : BitVec 32), a.length = b.length → b.length = c.length →
    (∀ e ∈ a, (Lit.int .u8 e).wf = true) → (∀ e ∈ b, (Lit.int .u8 e).wf = true) → (∀ e ∈ c, (Lit.int .u8 e).wf = true) →
    run (x ^^^ y ^^^ z) (List.zipWith (fun f e => f e) (List.zipWith xor8 a b) c) = run x a ^^^ run y b ^^^ run z c := by
  intro a
  induction a with
  | nil => intro b c x y z h1 h2 _ _ _; cases b <;> cases c <;> simp_all [run_nil]
  | cons a0 a ih =>
    intro b c x y z h1 h2 ha hb hc
    cases b with
    | nil => simp at h1
    | cons b0 b =>
      cases c with
      | nil => simp at h2
      | cons c0 c =>
        simp at h1 h2
        simp only [List.zipWith_cons_cons, run_cons]
        rw [← ih b c _ _ _ h1 h2 (fun e h => ha e (List.mem_cons_of_mem _ h)) (fun e h => hb e (List.mem_cons_of_mem _ h)) (fun e h => hc e (List.mem_cons_of_mem _ h))]
        congr 1
        show Crc.step _ _ = _
        unfold Crc.step
        rw [xor8_up (ha a0 (by simp)) (hb b0 (by simp)) (hc c0 (by simp)), ← dns_xor, ← dns_xor]
        congr 1
        rw [xor_swap (x ^^^ y) z, xor_swap x y]

theorem rd_at (l : List Int) (i : Nat) (h : i < l.length) : rd l (i : Int) = l[i] := by
  unfold rd
  rw [Int.toNat_natCast, List.getD_eq_getElem?_getD, List.getElem?_eq_getElem h]; rfl

/-- The round: what is filled in. -/
theorem fill (a b c : List Int) (n : Nat) (ha : n ≤ a.length) (hb : n ≤ b.length) (hc : n ≤ c.length) (hn : n ≤ 5000) (k : Nat) : ∀ (d i : Nat) (m : List Int), i + d = n → m.length = n →
    m.take i = List.zipWith (fun f e => f e) (List.zipWith xor8 (a.take i) (b.take i)) (c.take i) →
    variorumlaw02_Sum32Three.l0 (k + d) a b c (n : Int) m (n : Int) (i : Int) =
      variorumlaw02_Sum32Three.l0 k a b c (n : Int) (List.zipWith (fun f e => f e) (List.zipWith xor8 (a.take n) (b.take n)) (c.take n)) (n : Int) (n : Int) := by
  intro d
  induction d with
  | zero =>
    intro i m h hm ht
    obtain rfl : i = n := by omega
    rw [← ht, List.take_of_length_le (by omega)]; rfl
  | succ d ih =>
    intro i m h hm ht
    rw [← Nat.add_assoc]
    rw [variorumlaw02_Sum32Three.l0, if_pos (by omega), if_pos (by omega), if_pos (by omega), if_pos (by omega), if_pos (by omega), if_pos (by omega), w1 i (by omega)]
    rw [ih (i + 1) _ (by omega) (by rw [List.length_set]; exact hm)]
    rw [Int.toNat_natCast, rd_at a i (by omega), rd_at b i (by omega), rd_at c i (by omega)]
    rw [List.take_succ_eq_append_getElem (by rw [List.length_set]; omega), List.take_set_of_le (by omega), ht, List.getElem_set_self]
    rw [List.take_succ_eq_append_getElem (show i < a.length by omega), List.take_succ_eq_append_getElem (show i < b.length by omega), List.take_succ_eq_append_getElem (show i < c.length by omega)]
    rw [List.zipWith_append (by simp; omega), List.zipWith_append (by simp; omega)]
    rfl

theorem take_wf {l : List Int} {n : Nat} (h : ∀ x ∈ l, (Lit.int .u8 x).wf = true) : ∀ x ∈ l.take n, (Lit.int .u8 x).wf = true := fun x hx => h x (List.mem_of_mem_take hx)

theorem mn_nat (a b : Nat) : mn (a : Int) (b : Int) = ((min a b : Nat) : Int) := by unfold mn; split <;> omega

theorem Sum32Three : variorumlaw02_Sum32Three.Pure := by
  intro a b c _ _ wa _ _ wb _ _ wc
  obtain ⟨n, hn⟩ : ∃ n : Nat, n = min (min a.length b.length) c.length := ⟨_, rfl⟩
  have hm : mn (mn (a.length : Int) (b.length : Int)) (c.length : Int) = (n : Int) := by rw [mn_nat, mn_nat, hn]
  refine ⟨100000 + n, ?_⟩
  unfold variorumlaw02_Sum32Three.f
  rw [hm]
  by_cases h : (n : Int) > 5000
  · rw [if_pos h]; rfl
  · rw [if_neg h, if_pos (by omega), if_pos (by omega)]
    simp only [Option.bind_some, Int.toNat_natCast, List.length_replicate]
    have hf := fill a b c n (by omega) (by omega) (by omega) (by omega) 100000 n 0 (List.replicate n 0) (by omega) (by simp) (by simp)
    simp only [Int.natCast_zero] at hf
    rw [hf]
    have la : (a.take n).length = n := by rw [List.length_take]; omega
    have lb : (b.take n).length = n := by rw [List.length_take]; omega
    have lc : (c.take n).length = n := by rw [List.length_take]; omega
    rw [show (100000 : Nat) = 99999 + 1 from rfl]
    rw [variorumlaw02_Sum32Three.l0, if_neg (by omega), sum_f _ (by simp; omega) _ (by simp; omega)]
    simp only [Option.bind_some, Int.toNat_natCast]
    rw [if_pos (by omega), if_pos (by omega), sum_f _ (by omega) _ (by omega)]
    simp only [Option.bind_some]
    rw [if_pos (by omega), sum_f _ (by omega) _ (by omega)]
    simp only [Option.bind_some]
    rw [if_pos (by omega), sum_f _ (by omega) _ (by omega)]
    simp only [Option.bind_some]
    rw [bits_xor, bits_xor]
    rw [if_pos]
    · rfl
    have e : sum (List.zipWith (fun f e => f e) (List.zipWith xor8 (a.take n) (b.take n)) (c.take n)) = sum (a.take n) ^^^ sum (b.take n) ^^^ sum (c.take n) := by
      unfold sum
      have h3 := run_three (a.take n) (b.take n) (c.take n) ones ones ones (by omega) (by omega) (take_wf wa) (take_wf wb) (take_wf wc)
      have o : ones ^^^ ones ^^^ ones = ones := by decide
      rw [o] at h3
      rw [h3]
      generalize run ones (a.take n) = p
      generalize run ones (b.take n) = q
      generalize run ones (c.take n) = r
      have z : ones ^^^ ones = 0#32 := by decide
      rw [xor_swap p ones q ones, xor_swap (p ^^^ q) (ones ^^^ ones) r ones, z, BitVec.zero_xor]
    rw [e]

end Go.Proofs.Ytgefpgbofhcmdaa.Pure

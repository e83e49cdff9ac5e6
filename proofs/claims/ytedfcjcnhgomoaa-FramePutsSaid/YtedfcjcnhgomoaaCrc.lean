/- The plain law of the check sum: one step over bits, its linearity and that it is undone; no program in sight. -/
import Derived.Laws.BitsLemmas
namespace Go.Proofs.Ytedfcjcnhgomoaa.Crc

/-- One bit goes down. -/
def dn (x : BitVec 32) : BitVec 32 := if x.getLsbD 0 then (x >>> 1) ^^^ 0x82F63B78#32 else x >>> 1

theorem dn_zero : dn 0#32 = 0#32 := by decide

theorem xor_swap (a b c d : BitVec 32) : a ^^^ b ^^^ (c ^^^ d) = a ^^^ c ^^^ (b ^^^ d) := by
  rw [BitVec.xor_assoc, ← BitVec.xor_assoc b, BitVec.xor_comm b c, BitVec.xor_assoc c, ← BitVec.xor_assoc]

theorem dn_xor (x y : BitVec 32) : dn (x ^^^ y) = dn x ^^^ dn y := by
  unfold dn
  have h : (x ^^^ y).getLsbD 0 = (x.getLsbD 0 ^^ y.getLsbD 0) := BitVec.getLsbD_xor
  have hs : (x ^^^ y) >>> 1 = (x >>> 1) ^^^ (y >>> 1) := BitVec.ushiftRight_xor_distrib x y 1
  rw [h, hs]
  cases x.getLsbD 0 <;> cases y.getLsbD 0 <;> simp
  · rw [BitVec.xor_assoc]
  · rw [BitVec.xor_assoc, BitVec.xor_comm (y >>> 1), ← BitVec.xor_assoc]
  · rw [xor_swap]; simp

theorem dn_inj0 (x : BitVec 32) (h : dn x = 0#32) : x = 0#32 := by
  unfold dn at h
  cases hx : x.getLsbD 0 with
  | true =>
    rw [hx] at h
    simp at h
    have e : (x >>> 1) = 0x82F63B78#32 := by
      have := congrArg (· ^^^ 0x82F63B78#32) h
      simpa [BitVec.xor_assoc] using this
    have b := congrArg (fun z => z.getLsbD 31) e
    simp at b
  | false =>
    rw [hx] at h
    simp at h
    apply BitVec.eq_of_getLsbD_eq
    intro i hi
    cases i with
    | zero => rw [hx]; simp
    | succ i =>
      have b := congrArg (fun z => z.getLsbD i) h
      simp [BitVec.getLsbD_ushiftRight] at b
      rw [Nat.add_comm 1 i] at b
      rw [b]; simp

/-- So many bits go down. -/
def dns : Nat → BitVec 32 → BitVec 32
  | 0, x => x
  | k + 1, x => dns k (dn x)

theorem dns_zero (k : Nat) : dns k 0#32 = 0#32 := by
  induction k with
  | zero => rfl
  | succ k ih => rw [dns, dn_zero, ih]
theorem dns_xor (k : Nat) : ∀ x y, dns k (x ^^^ y) = dns k x ^^^ dns k y := by
  induction k with
  | zero => intro x y; rfl
  | succ k ih => intro x y; rw [dns, dn_xor, ih]; rfl
theorem dns_add (j k : Nat) : ∀ x, dns (j + k) x = dns k (dns j x) := by
  induction j with
  | zero => intro x; rw [Nat.zero_add]; rfl
  | succ j ih => intro x; rw [Nat.add_right_comm, dns, ih]; rfl
theorem dns_inj0 (k : Nat) : ∀ x, dns k x = 0#32 → x = 0#32 := by
  induction k with
  | zero => intro x h; exact h
  | succ k ih => intro x h; exact dn_inj0 x (ih _ h)
theorem xor_eq_zero {x y : BitVec 32} (h : x ^^^ y = 0#32) : x = y := by
  have := congrArg (· ^^^ y) h
  simpa [BitVec.xor_assoc] using this
theorem dns_inj (k : Nat) (x y : BitVec 32) (h : dns k x = dns k y) : x = y :=
  xor_eq_zero (dns_inj0 k _ (by rw [dns_xor, h]; simp))

/-- A byte comes. -/
def step (x : BitVec 32) (c : Int) : BitVec 32 := dns 8 (x ^^^ BitVec.ofInt 32 c)
def ones : BitVec 32 := 0xFFFFFFFF#32
def run (x : BitVec 32) (l : List Int) : BitVec 32 := l.foldl step x
def sum (l : List Int) : BitVec 32 := run ones l ^^^ ones

/-- A sum's four bytes, the least first. -/
def le4 (x : BitVec 32) : List Int := [(x.toNat : Int) % 256, (x.toNat : Int) / 256 % 256, (x.toNat : Int) / 65536 % 256, (x.toNat : Int) / 16777216]

/-- The model's xor of two numbers of 32 bits. -/
theorem bits_xor (u v : BitVec 32) : Go.bits .xor .u32 (u.toNat : Int) (v.toNat : Int) = ((u ^^^ v).toNat : Int) := by
  have h : ∀ n : Nat, n < 2 ^ 32 → IntKind.u32.wrap (n : Int) = n := by
    intro n hn; rw [IntKind.wrap_u32]; omega
  have e : ∀ z : BitVec 32, BitVec.ofInt 32 (z.toNat : Int) = z := by
    intro z; rw [BitVec.ofInt_natCast]; simp
  simp only [bits]
  show IntKind.u32.wrap (((BitVec.ofInt 32 (u.toNat : Int)) ^^^ (BitVec.ofInt 32 (v.toNat : Int))).toNat : Int) = _
  rw [e, e, h _ (u ^^^ v).isLt]
theorem bits_and1 (u : BitVec 32) : Go.bits .and .u32 (u.toNat : Int) 1 = if u.getLsbD 0 then 1 else 0 := by
  have h := bits_mask .u32 32 (by decide) (fun n h0 h1 => by rw [IntKind.wrap_u32]; omega) 1 (by decide) (u.toNat : Int) (by omega) (by have := u.isLt; omega)
  have h' : Go.bits .and .u32 (u.toNat : Int) 1 = (u.toNat : Int) % 2 := by simpa using h
  rw [h']
  have : u.getLsbD 0 = decide (u.toNat % 2 = 1) := by
    simp [BitVec.getLsbD, Nat.testBit_zero]
  rw [this]
  by_cases c : u.toNat % 2 = 1
  · simp [c]; omega
  · simp [c]; omega
theorem half (u : BitVec 32) : (u.toNat : Int) / (2 : Int) = ((u >>> 1).toNat : Int) := by
  rw [BitVec.toNat_ushiftRight, Nat.shiftRight_eq_div_pow]; omega
theorem ofInt_mod (c : Int) : c % 4294967296 = ((BitVec.ofInt 32 c).toNat : Int) := by
  rw [BitVec.toNat_ofInt]; omega

theorem xor_self_left (a b : BitVec 32) : a ^^^ (a ^^^ b) = b := by rw [← BitVec.xor_assoc]; simp

theorem run_nil (x : BitVec 32) : run x [] = x := rfl
theorem run_cons (x : BitVec 32) (c : Int) (l : List Int) : run x (c :: l) = run (step x c) l := rfl
theorem run_append (x : BitVec 32) (l m : List Int) : run x (l ++ m) = run (run x l) m := List.foldl_append
theorem step_xor (x y : BitVec 32) (c : Int) : step (x ^^^ y) c = step x c ^^^ dns 8 y := by
  unfold step; rw [BitVec.xor_assoc, BitVec.xor_comm y, ← BitVec.xor_assoc, dns_xor]
theorem run_xor (l : List Int) : ∀ x y, run (x ^^^ y) l = run x l ^^^ dns (8 * l.length) y := by
  induction l with
  | nil => intro x y; rfl
  | cons c l ih =>
    intro x y
    rw [run_cons, run_cons, step_xor, ih, List.length_cons, show 8 * (l.length + 1) = 8 + 8 * l.length by omega, dns_add]

/-- Four bytes, one behind the other, are the number that they spell. -/
theorem dn_even (x : BitVec 32) (h : x.getLsbD 0 = false) : dn x = x >>> 1 := by unfold dn; rw [h]; rfl
theorem dns_shift : ∀ (k : Nat) (x : BitVec 32), (∀ i, i < k → x.getLsbD i = false) → dns k x = x >>> k := by
  intro k
  induction k with
  | zero => intro x _; simp [dns]
  | succ k ih =>
    intro x h
    rw [dns, dn_even x (h 0 (by omega)), ih]
    · rw [← BitVec.shiftRight_add, Nat.add_comm]
    · intro i hi
      rw [BitVec.getLsbD_ushiftRight]
      exact h (1 + i) (by omega)
theorem part (y : BitVec 32) (s : Nat) (hs : s ≤ 24) (c : Int) (hc : c = (y.toNat : Int) / (2 ^ s : Nat) % 256) (m : BitVec 32) (hm : m = BitVec.ofInt 32 c <<< s) : dns s m = BitVec.ofInt 32 c := by
  subst hm
  rw [dns_shift]
  · apply BitVec.eq_of_toNat_eq
    rw [BitVec.toNat_ushiftRight, BitVec.toNat_shiftLeft, Nat.shiftRight_eq_div_pow, Nat.shiftLeft_eq]
    have hb : (BitVec.ofInt 32 c).toNat < 256 := by rw [BitVec.toNat_ofInt]; omega
    have h1 : (BitVec.ofInt 32 c).toNat * 2 ^ s < 2 ^ 32 := by
      have : 2 ^ s ≤ 2 ^ 24 := Nat.pow_le_pow_right (by decide) hs
      have h2 : (BitVec.ofInt 32 c).toNat * 2 ^ s ≤ 255 * 2 ^ 24 := Nat.mul_le_mul (by omega) this
      omega
    rw [Nat.mod_eq_of_lt h1, Nat.mul_div_cancel _ (Nat.two_pow_pos s)]
  · intro i hi
    rw [BitVec.getLsbD_shiftLeft]
    simp [hi]
theorem low4 (y : BitVec 32) : dns 8 (dns 8 (dns 8 (dns 8 (BitVec.ofInt 32 ((y.toNat : Int) % 256)) ^^^ BitVec.ofInt 32 ((y.toNat : Int) / 256 % 256)) ^^^ BitVec.ofInt 32 ((y.toNat : Int) / 65536 % 256)) ^^^ BitVec.ofInt 32 ((y.toNat : Int) / 16777216)) = dns 32 y := by
  have hy := y.isLt
  have p0 := part y 0 (by decide) ((y.toNat : Int) % 256) (by simp) _ rfl
  have p1 := part y 8 (by decide) ((y.toNat : Int) / 256 % 256) (by rfl) _ rfl
  have p2 := part y 16 (by decide) ((y.toNat : Int) / 65536 % 256) (by rfl) _ rfl
  have p3 := part y 24 (by decide) ((y.toNat : Int) / 16777216) (by have : ((2 ^ 24 : Nat) : Int) = 16777216 := by decide
                                                                    rw [this]; omega) _ rfl
  have hsum : BitVec.ofInt 32 ((y.toNat : Int) % 256) <<< 0 ^^^ BitVec.ofInt 32 ((y.toNat : Int) / 256 % 256) <<< 8 ^^^ BitVec.ofInt 32 ((y.toNat : Int) / 65536 % 256) <<< 16 ^^^ BitVec.ofInt 32 ((y.toNat : Int) / 16777216) <<< 24 = y := by
    have e0 : BitVec.ofInt 32 ((y.toNat : Int) % 256) = y &&& 0xFF#32 := by
      apply BitVec.eq_of_toNat_eq
      rw [BitVec.toNat_ofInt, BitVec.toNat_and]
      have : y.toNat &&& 255 = y.toNat % 256 := Nat.and_two_pow_sub_one_eq_mod y.toNat 8
      show _ = y.toNat &&& 255
      rw [this]; omega
    have eS : ∀ s : Nat, BitVec.ofInt 32 ((y.toNat : Int) / (2 ^ s : Nat) % 256) = (y >>> s) &&& 0xFF#32 := by
      intro s
      apply BitVec.eq_of_toNat_eq
      rw [BitVec.toNat_ofInt, BitVec.toNat_and, BitVec.toNat_ushiftRight, Nat.shiftRight_eq_div_pow]
      have : (y.toNat / 2 ^ s) &&& 255 = (y.toNat / 2 ^ s) % 256 := Nat.and_two_pow_sub_one_eq_mod _ 8
      show _ = (y.toNat / 2 ^ s) &&& 255
      rw [this, ← Int.natCast_ediv]
      omega
    have e1 : BitVec.ofInt 32 ((y.toNat : Int) / 256 % 256) = (y >>> 8) &&& 0xFF#32 := eS 8
    have e2 : BitVec.ofInt 32 ((y.toNat : Int) / 65536 % 256) = (y >>> 16) &&& 0xFF#32 := eS 16
    have e3 : BitVec.ofInt 32 ((y.toNat : Int) / 16777216) = (y >>> 24) &&& 0xFF#32 := by
      rw [← eS 24]
      congr 1
      have : ((2 ^ 24 : Nat) : Int) = 16777216 := by decide
      rw [this]; omega
    rw [e0, e1, e2, e3]
    apply BitVec.eq_of_getLsbD_eq
    intro i hi
    simp only [BitVec.getLsbD_xor, BitVec.getLsbD_shiftLeft, BitVec.getLsbD_and, BitVec.getLsbD_ushiftRight]
    have hff : ∀ j, (0xFF#32).getLsbD j = decide (j < 8) := by
      intro j
      by_cases hj : j < 32
      · have : ∀ k : Fin 32, (0xFF#32).getLsbD k.val = decide (k.val < 8) := by decide
        exact this ⟨j, hj⟩
      · rw [BitVec.getLsbD_of_ge _ _ (by omega)]; simp; omega
    simp only [hff]
    by_cases h8 : i < 8
    · simp [h8, show i < 16 by omega, show i < 24 by omega, hi]
    · by_cases h16 : i < 16
      · simp [h8, h16, show i < 24 by omega, hi, show i - 8 < 8 by omega, show 8 + (i - 8) = i by omega]
      · by_cases h24 : i < 24
        · simp [h8, h16, h24, hi, show ¬ i - 8 < 8 by omega, show i - 16 < 8 by omega, show 16 + (i - 16) = i by omega]
        · simp [h8, h16, h24, hi, show ¬ i - 8 < 8 by omega, show ¬ i - 16 < 8 by omega, show i - 24 < 8 by omega, show 24 + (i - 24) = i by omega]
  rw [← p1, ← p2, ← p3]
  rw [← p0]
  conv => rhs; rw [← hsum]
  simp only [dns_xor, show (32 : Nat) = 8 + 8 + 8 + 8 from rfl, show (16 : Nat) = 8 + 8 from rfl, show (24 : Nat) = 8 + 8 + 8 from rfl, dns_add]
  rfl
/-- A bit alone goes down to the lowest place. -/
theorem dns_bit : ∀ b : Nat, b ≤ 31 → dns b (BitVec.twoPow 32 b) = 1#32 := by
  intro b hb
  induction b with
  | zero => rfl
  | succ b ih =>
    rw [dns]
    have e : dn (BitVec.twoPow 32 (b + 1)) = BitVec.twoPow 32 b := by
      unfold dn
      have h0 : (BitVec.twoPow 32 (b + 1)).getLsbD 0 = false := by
        rw [BitVec.getLsbD_twoPow]; simp
      rw [h0]
      simp only [Bool.false_eq_true, if_false]
      apply BitVec.eq_of_toNat_eq
      rw [BitVec.toNat_ushiftRight, BitVec.toNat_twoPow, BitVec.toNat_twoPow, Nat.shiftRight_eq_div_pow]
      have h1 : 2 ^ (b + 1) < 2 ^ 32 := Nat.pow_lt_pow_right (by decide) (by omega)
      have h2 : 2 ^ b < 2 ^ 32 := Nat.pow_lt_pow_right (by decide) (by omega)
      rw [Nat.mod_eq_of_lt h1, Nat.mod_eq_of_lt h2, Nat.pow_succ]
      omega
    rw [e, ih (by omega)]
/-- A byte's bit is turned: what becomes of the run. -/
theorem run_flip (l : List Int) (j : Nat) (h : j < l.length) (c : Int) (e : BitVec 32) (hc : BitVec.ofInt 32 c = BitVec.ofInt 32 l[j] ^^^ e) (x : BitVec 32) :
    run x (l.set j c) = run x l ^^^ dns (8 * (l.length - j)) e := by
  have h1 : l.set j c = l.take j ++ c :: l.drop (j + 1) := by rw [List.set_eq_take_append_cons_drop, if_pos h]
  have h2 : l = l.take j ++ l[j] :: l.drop (j + 1) := by rw [List.getElem_cons_drop, List.take_append_drop]
  have h3 : run x l = run x (l.take j ++ l[j] :: l.drop (j + 1)) := by rw [← h2]
  rw [h1, h3, run_append, run_append, run_cons, run_cons]
  have h4 : step (run x (l.take j)) c = step (run x (l.take j)) l[j] ^^^ dns 8 e := by
    unfold step
    rw [hc, ← BitVec.xor_assoc, dns_xor]
  rw [h4, run_xor, List.length_drop, ← dns_add]
  congr 2
  omega
theorem ofInt_of_nat (n : Nat) : BitVec.ofInt 32 (n : Int) = BitVec.ofNat 32 n := BitVec.ofInt_natCast _ _
theorem xor_cancel {a b c : BitVec 32} (h : a ^^^ b = a ^^^ c) : b = c := by
  have := congrArg (a ^^^ ·) h
  simpa [← BitVec.xor_assoc] using this
/-- What is sealed runs to one state, whatever it is. -/
theorem run_sealed (l : List Int) : run ones (l ++ le4 (sum l)) = dns 32 ones := by
  have key : ∀ x y : BitVec 32, run x (le4 y) = dns 32 (x ^^^ y) := by
    intro x y
    unfold le4
    rw [run_cons, run_cons, run_cons, run_cons, run_nil]
    unfold step
    have hy := y.isLt
    obtain ⟨b0, b1, b2, b3, h0, h1, h2, h3, hall⟩ : ∃ b0 b1 b2 b3 : BitVec 32, BitVec.ofInt 32 ((y.toNat : Int) % 256) = b0 ∧ BitVec.ofInt 32 ((y.toNat : Int) / 256 % 256) = b1 ∧ BitVec.ofInt 32 ((y.toNat : Int) / 65536 % 256) = b2 ∧ BitVec.ofInt 32 ((y.toNat : Int) / 16777216) = b3 ∧
        (dns 8 (dns 8 (dns 8 (dns 8 b0 ^^^ b1) ^^^ b2) ^^^ b3) = dns 32 y) := ⟨_, _, _, _, rfl, rfl, rfl, rfl, low4 y⟩
    rw [h0, h1, h2, h3]
    have e : dns 8 (dns 8 (dns 8 (dns 8 (x ^^^ b0) ^^^ b1) ^^^ b2) ^^^ b3) = dns 32 x ^^^ dns 8 (dns 8 (dns 8 (dns 8 b0 ^^^ b1) ^^^ b2) ^^^ b3) := by
      simp only [dns_xor, show (32 : Nat) = 8 + 8 + 8 + 8 from rfl, dns_add, BitVec.xor_assoc]
    rw [e, hall, ← dns_xor]
  rw [run_append, key]
  unfold sum
  rw [xor_self_left]

end Go.Proofs.Ytedfcjcnhgomoaa.Crc

/- The plain law of the check sum: one step over bits, its linearity and that it is undone; no program in sight. -/
import Derived.Laws.BitsLemmas
namespace Go.Proofs.Ytgefpgbofhcmdaa.Crc

/-- One bit goes down. -/
def dn (x : BitVec 32) : BitVec 32 := if x.getLsbD 0 then (x >>> 1) ^^^ 0x82F63B78#32 else x >>> 1

theorem dn_zero : dn 0#32 = 0#32 := by decide

theorem xor_swap (a b c d : BitVec 32) : a ^^^ b ^^^ (c ^^^ d) = a ^^^ c ^^^ (b ^^^ d) := by
  rw [BitVec.xor_assoc, ← BitVec.xor_assoc b, BitVec.xor_comm b c, BitVec.xor_assoc c, ← BitVec.xor_assoc]

theorem dn_xor (x y : BitVec 32) : dn (x ^^^ y) = dn x ^^^ dn y := by
  unfold dn
  have h : (x ^^^ y).getLsbD 0 = (x.getLsbD 0 ^^ y.getLsbD 0) := BitVec.getLsbD_xor
  have hs : (x ^^^ y) >>> 1 = (x >>> 1) ^^^ (y >>> 1) := BitVec.ushiftRight_xor_distrib x y 1
  rw [h, hs]
  cases x.getLsbD 0 <;> cases y.getLsbD 0 <;> simp
  · rw [BitVec.xor_assoc]
  · rw [BitVec.xor_assoc, BitVec.xor_comm (y >>> 1), ← BitVec.xor_assoc]
  · rw [xor_swap]; simp

theorem dn_inj0 (x : BitVec 32) (h : dn x = 0#32) : x = 0#32 := by
  unfold dn at h
  cases hx : x.getLsbD 0 with
  | true =>
    rw [hx] at h
    simp at h
    have e : (x >>> 1) = 0x82F63B78#32 := by
      have := congrArg (· ^^^ 0x82F63B78#32) h
      simpa [BitVec.xor_assoc] using this
    have b := congrArg (fun z => z.getLsbD 31) e
    simp at b
  | false =>
    rw [hx] at h
    simp at h
    apply BitVec.eq_of_getLsbD_eq
    intro i hi
    cases i with
    | zero => rw [hx]; simp
    | succ i =>
      have b := congrArg (fun z => z.getLsbD i) h
      simp [BitVec.getLsbD_ushiftRight] at b
      rw [Nat.add_comm 1 i] at b
      rw [b]; simp

/-- So many bits go down. -/
def dns : Nat → BitVec 32 → BitVec 32
  | 0, x => x
  | k + 1, x => dns k (dn x)

theorem dns_zero (k : Nat) : dns k 0#32 = 0#32 := by
  induction k with
  | zero => rfl
  | succ k ih => rw [dns, dn_zero, ih]
theorem dns_xor (k : Nat) : ∀ x y, dns k (x ^^^ y) = dns k x ^^^ dns k y := by
  induction k with
  | zero => intro x y; rfl
  | succ k ih => intro x y; rw [dns, dn_xor, ih]; rfl
theorem dns_add (j k : Nat) : ∀ x, dns (j + k) x = dns k (dns j x) := by
  induction j with
  | zero => intro x; rw [Nat.zero_add]; rfl
  | succ j ih => intro x; rw [Nat.add_right_comm, dns, ih]; rfl
theorem dns_inj0 (k : Nat) : ∀ x, dns k x = 0#32 → x = 0#32 := by
  induction k with
  | zero => intro x h; exact h
  | succ k ih => intro x h; exact dn_inj0 x (ih _ h)
theorem xor_eq_zero {x y : BitVec 32} (h : x ^^^ y = 0#32) : x = y := by
  have := congrArg (· ^^^ y) h
  simpa [BitVec.xor_assoc] using this
theorem dns_inj (k : Nat) (x y : BitVec 32) (h : dns k x = dns k y) : x = y :=
  xor_eq_zero (dns_inj0 k _ (by rw [dns_xor, h]; simp))

/-- A byte comes. -/
def step (x : BitVec 32) (c : Int) : BitVec 32 := dns 8 (x ^^^ BitVec.ofInt 32 c)
def ones : BitVec 32 := 0xFFFFFFFF#32
def run (x : BitVec 32) (l : List Int) : BitVec 32 := l.foldl step x
def sum (l : List Int) : BitVec 32 := run ones l ^^^ ones

/-- The model's xor of two numbers of 32 bits. -/
theorem bits_xor (u v : BitVec 32) : Go.bits .xor .u32 (u.toNat : Int) (v.toNat : Int) = ((u ^^^ v).toNat : Int) := by
  have h : ∀ n : Nat, n < 2 ^ 32 → IntKind.u32.wrap (n : Int) = n := by
    intro n hn; rw [IntKind.wrap_u32]; omega
  have e : ∀ z : BitVec 32, BitVec.ofInt 32 (z.toNat : Int) = z := by
    intro z; rw [BitVec.ofInt_natCast]; simp
  simp only [bits]
  show IntKind.u32.wrap (((BitVec.ofInt 32 (u.toNat : Int)) ^^^ (BitVec.ofInt 32 (v.toNat : Int))).toNat : Int) = _
  rw [e, e, h _ (u ^^^ v).isLt]
theorem bits_and1 (u : BitVec 32) : Go.bits .and .u32 (u.toNat : Int) 1 = if u.getLsbD 0 then 1 else 0 := by
  have h := bits_mask .u32 32 (by decide) (fun n h0 h1 => by rw [IntKind.wrap_u32]; omega) 1 (by decide) (u.toNat : Int) (by omega) (by have := u.isLt; omega)
  have h' : Go.bits .and .u32 (u.toNat : Int) 1 = (u.toNat : Int) % 2 := by simpa using h
  rw [h']
  have : u.getLsbD 0 = decide (u.toNat % 2 = 1) := by
    simp [BitVec.getLsbD, Nat.testBit_zero]
  rw [this]
  by_cases c : u.toNat % 2 = 1
  · simp [c]; omega
  · simp [c]; omega
theorem half (u : BitVec 32) : (u.toNat : Int) / (2 : Int) = ((u >>> 1).toNat : Int) := by
  rw [BitVec.toNat_ushiftRight, Nat.shiftRight_eq_div_pow]; omega
theorem ofInt_mod (c : Int) : c % 4294967296 = ((BitVec.ofInt 32 c).toNat : Int) := by
  rw [BitVec.toNat_ofInt]; omega

theorem xor_self_left (a b : BitVec 32) : a ^^^ (a ^^^ b) = b := by rw [← BitVec.xor_assoc]; simp

theorem run_nil (x : BitVec 32) : run x [] = x := rfl
theorem run_cons (x : BitVec 32) (c : Int) (l : List Int) : run x (c :: l) = run (step x c) l := rfl
theorem run_append (x : BitVec 32) (l m : List Int) : run x (l ++ m) = run (run x l) m := List.foldl_append
theorem step_xor (x y : BitVec 32) (c : Int) : step (x ^^^ y) c = step x c ^^^ dns 8 y := by
  unfold step; rw [BitVec.xor_assoc, BitVec.xor_comm y, ← BitVec.xor_assoc, dns_xor]
theorem run_xor (l : List Int) : ∀ x y, run (x ^^^ y) l = run x l ^^^ dns (8 * l.length) y := by
  induction l with
  | nil => intro x y; rfl
  | cons c l ih =>
    intro x y
    rw [run_cons, run_cons, step_xor, ih, List.length_cons, show 8 * (l.length + 1) = 8 + 8 * l.length by omega, dns_add]

/-- Of three texts of one length the run of their xor is the xor of their runs. -/
theorem run_three (f : Int → Int → Int → Int) (hf : ∀ a b c, BitVec.ofInt 32 (f a b c) = BitVec.ofInt 32 a ^^^ BitVec.ofInt 32 b ^^^ BitVec.ofInt 32 c) :
    ∀ (n : Nat) (x y z : BitVec 32) (a b c : List Int), a.length = n → b.length = n → c.length = n →
      run (x ^^^ y ^^^ z) ((List.range n).map fun i => f (a.getD i 0) (b.getD i 0) (c.getD i 0)) = run x a ^^^ run y b ^^^ run z c := by
  intro n
  induction n with
  | zero => intro x y z a b c ha hb hc; cases a <;> cases b <;> cases c <;> simp_all [run_nil]
  | succ n ih =>
    intro x y z a b c ha hb hc
    cases a with
    | nil => simp at ha
    | cons a0 a =>
      cases b with
      | nil => simp at hb
      | cons b0 b =>
        cases c with
        | nil => simp at hc
        | cons c0 c =>
          simp at ha hb hc
          rw [List.range_succ_eq_map, List.map_cons, List.map_map, run_cons, run_cons, run_cons, run_cons, ← ih _ _ _ a b c ha hb hc]
          have e : step (x ^^^ y ^^^ z) (f a0 b0 c0) = step x a0 ^^^ step y b0 ^^^ step z c0 := by
            unfold step
            rw [hf, ← dns_xor, ← dns_xor]
            congr 1
            rw [xor_swap (x ^^^ y) z, xor_swap x y]
          simp only [List.getD_cons_zero]
          rw [e]
          congr 1

end Go.Proofs.Ytgefpgbofhcmdaa.Crc

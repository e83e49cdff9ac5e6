/- The walks of the join's inner functions: a matrix of bits, its product, its square. -/
import Derived.Test.YtgefpgbofhcmdaaPBase
import Derived.Test.YtgefpgbofhcmdaaPsum32down
import Derived.Test.YtgefpgbofhcmdaaSum
import Derived.Test.YtgefpgbofhcmdaaOwn
import Derived.Outline
import Derived.Great.Walk
import Derived.Laws.CopyOwn
namespace Go.Proofs.Ytgefpgbofhcmdaa.JoinW
open Go.RowKit Go.Proofs.Ytgefpgbofhcmdaa.P Go.Proofs.YtgefpgbofhcmdaaW.PrintWords Go.Proofs.YtgefpgbofhcmdaaW.PrintLast Go.Proofs.YtgefpgbofhcmdaaW.PrintMore Go.Proofs.Ytgefpgbofhcmdaa.Crc

/-- The bits below place i. -/
def low (t : BitVec 32) : Nat → BitVec 32
  | 0 => 0#32
  | i + 1 => low t i ^^^ (if t.getLsbD i then BitVec.twoPow 32 i else 0#32)
/-- The cells of the matrix of a change of bits. -/
def cellOf (f : BitVec 32 → BitVec 32) (i : Nat) : Value := .int .u32 ((f (BitVec.twoPow 32 i)).toNat : Int)
def matCells (f : BitVec 32 → BitVec 32) : Array Value := ((List.range 32).map (cellOf f)).toArray
theorem mat_at (f : BitVec 32 → BitVec 32) (i : Nat) (h : i < 32) : (matCells f)[i]? = some (cellOf f i) := by
  simp [matCells, h]
structure Lin (f : BitVec 32 → BitVec 32) : Prop where
  zero : f 0#32 = 0#32
  xor : ∀ x y, f (x ^^^ y) = f x ^^^ f y
theorem mat_cell {w : World} {g : Nat} {f : BitVec 32 → BitVec 32} {T : TypeId} (hg : w.heap[g]? = some (.cells (matCells f) T (0, 0))) (i : Nat) (h : i < 32) : w.cell? ⟨g, i, none⟩ = some (.int .u32 ((f (BitVec.twoPow 32 i)).toNat : Int)) := by
  rw [cell_of_row w g i _ _ _ hg, mat_at f i h]; rfl

theorem bit_test (x : BitVec 32) (k : Nat) : (Go.bits .and .u32 ((x.toNat : Int) / 2 ^ k) 1 == 1) = x.getLsbD k := by
  have e : ((x.toNat : Int) / 2 ^ k) = ((x >>> k).toNat : Int) := by
    rw [BitVec.toNat_ushiftRight, Nat.shiftRight_eq_div_pow, Int.natCast_ediv]; simp
  rw [e, bits_and1, BitVec.getLsbD_ushiftRight]
  cases x.getLsbD (k + 0) <;> simp_all
theorem low_get (t : BitVec 32) : ∀ i j, (low t i).getLsbD j = (decide (j < i) && t.getLsbD j) := by
  intro i
  induction i with
  | zero => intro j; simp [low]
  | succ i ih =>
    intro j
    rw [low, BitVec.getLsbD_xor, ih]
    by_cases hij : j = i
    · subst hij
      cases ht : t.getLsbD j with
      | false => simp
      | true =>
        have hj : j < 32 := BitVec.lt_of_getLsbD ht
        simp [hj]
    · have hne : (if t.getLsbD i = true then BitVec.twoPow 32 i else 0#32).getLsbD j = false := by
        split
        · rw [BitVec.getLsbD_twoPow]; simp; omega
        · simp
      rw [hne]
      by_cases h1 : j < i
      · simp [h1, show j < i + 1 by omega]
      · simp [h1, show ¬ j < i + 1 by omega]
theorem low_all (t : BitVec 32) : low t 32 = t := by
  apply BitVec.eq_of_getLsbD_eq
  intro j hj
  rw [low_get]; simp [hj]

set_option maxHeartbeats 1000000 in
set_option maxRecDepth 100000 in
theorem times_c (g : Nat) (f : BitVec 32 → BitVec 32) (hf : Lin f) (x : BitVec 32) (w : World) (hg : w.heap[g]? = some (.cells (matCells f) 61 (0, 0))) :
    Calls Try.prog 44 #[.pointer (some ⟨g, 0, none⟩), .int .u32 (x.toNat : Int)] w fun e w' => e = .returned (.int .u32 ((f x).toNat : Int)) ∧ w' = w := by
  have HG := Aside0.mk hg
  have HF := Aside0.mk hf
  clear hg hf
  have hx0 : (0 : Int) ≤ (x.toNat : Int) := by omega
  have hx1 : (x.toNat : Int) ≤ 4294967295 := by have := x.isLt; omega
  go_enter Try.func44, Try.ntmps44
  go_wp2
  go_loop [4, 6] (fun y i => ∃ k : Nat, k ≤ 32 ∧ i = .int .i64 k ∧ y = .int .u32 ((f (low x k)).toNat : Int)) (fun _ i => 32 - (intOf i).toNat)
  case atStart => exact ⟨0, by omega, rfl, by rw [show low x 0 = 0#32 from rfl, HF.out.zero]; rfl⟩
  case round =>
    obtain ⟨k, hk, rfl, rfl⟩ := hrel
    by_cases hlt : k < 32
    · have hcell := mat_cell HG.out k hlt
      have hb := bit_test x k
      cases hbit : x.getLsbD k with
      | true =>
        have HX := Aside0.mk (show Go.bits .xor .u32 ((f (low x k)).toNat : Int) ((f (BitVec.twoPow 32 k)).toNat : Int) = ((f (low x (k + 1))).toNat : Int) by rw [bits_xor, ← HF.out.xor, low, hbit]; rfl)
        rw [hbit] at hb
        clear hbit
        go_wp2
        go_round
        case rel => exact ⟨k + 1, by omega, by go_num, by rw [HX.out]⟩
        case measure => simp [intOf]; omega
      | false =>
        have HX := Aside0.mk (show low x (k + 1) = low x k by rw [low, hbit]; simp)
        rw [hbit] at hb
        clear hbit hcell
        go_wp2
        go_round
        case rel => exact ⟨k + 1, by omega, by go_num, by rw [HX.out]⟩
        case measure => simp [intOf]; omega
    · go_wp2
      go_ret
      exact ⟨by rw [show k = 32 by omega, low_all]; rfl, by first | rfl | trivial⟩

set_option maxHeartbeats 1000000 in
set_option maxRecDepth 100000 in
theorem down_c (x : BitVec 32) (w : World) :
    Calls Try.prog 40 #[.int .u32 (x.toNat : Int)] w fun e w' => e = .returned (.int .u32 ((dn x).toNat : Int)) ∧ w' = w := by
  have hx0 : (0 : Int) ≤ (x.toNat : Int) := by omega
  have hx1 : (x.toNat : Int) ≤ 4294967295 := by have := x.isLt; omega
  have h1 := bits_and1 x
  cases hb : x.getLsbD 0 with
  | true =>
    have hq : (Go.bits .and .u32 (x.toNat : Int) 1 == 1) = true := by rw [h1, hb]; rfl
    have HX := Aside0.mk (show Go.bits .xor .u32 ((x.toNat : Int) / 2) 2197175160 = ((dn x).toNat : Int) by rw [half, show (2197175160 : Int) = ((0x82F63B78#32).toNat : Int) from rfl, bits_xor]; unfold dn; rw [hb]; rfl)
    clear h1 hb
    go_enter Try.func40, Try.ntmps40
    go_wp2
    go_ret
    exact ⟨by rw [← HX.out]; rfl, rfl⟩
  | false =>
    have hq : (Go.bits .and .u32 (x.toNat : Int) 1 == 1) = false := by rw [h1, hb]; rfl
    have HX := Aside0.mk (show (x.toNat : Int) / 2 = ((dn x).toNat : Int) by rw [half, dn_even x hb])
    clear h1 hb
    go_enter Try.func40, Try.ntmps40
    go_wp2
    go_ret
    exact ⟨by rw [← HX.out]; rfl, rfl⟩

set_option maxHeartbeats 1000000 in
set_option maxRecDepth 100000 in
theorem eight_c (x : BitVec 32) (w : World) :
    Calls Try.prog 43 #[.int .u32 (x.toNat : Int)] w fun e w' => e = .returned (.int .u32 ((dns 8 x).toNat : Int)) ∧ w' = w := by
  go_enter Try.func43, Try.ntmps43
  go_wp2
  go_loopw [0, 3] (fun y i wr => ∃ k : Nat, k ≤ 8 ∧ i = .int .i64 k ∧ y = .int .u32 ((dns k x).toNat : Int) ∧ wr = w) (fun _ i _ => 8 - (intOf i).toNat)
  case atStart => exact ⟨0, by omega, rfl, rfl, rfl⟩
  case round =>
    obtain ⟨k, hk, rfl, rfl, rfl⟩ := hrel
    by_cases hlt : k < 8
    · have HX := Aside0.mk (show dn (dns k x) = dns (k + 1) x by rw [dns_add k 1]; rfl)
      go_wp2_with fail
      refine (down_c (dns k x) _).mono ?_
      rintro e w1 ⟨rfl, rfl⟩
      go_wp2
      go_roundw
      case rel => exact ⟨k + 1, by omega, by go_num, by rw [HX.out], by first | rfl | trivial⟩
      case measure => simp [intOf]; omega
    · go_wp2
      go_ret
      exact ⟨by rw [show k = 8 by omega]; rfl, by first | rfl | trivial⟩

set_option maxHeartbeats 1000000 in
set_option maxRecDepth 100000 in
theorem twice_c (g : Nat) (f : BitVec 32 → BitVec 32) (hf : Lin f) (x : BitVec 32) (w : World) (hg : w.heap[g]? = some (.cells (matCells f) 61 (0, 0))) :
    Calls Try.prog 45 #[.int .u32 (x.toNat : Int), .pointer (some ⟨g, 0, none⟩)] w fun e w' => e = .returned (.int .u32 ((f (f x)).toNat : Int)) ∧ w' = w := by
  have HG := Aside0.mk hg
  clear hg
  go_enter Try.func45, Try.ntmps45
  go_wp2_with fail
  refine (times_c g f hf x _ HG.out).mono ?_
  rintro e w1 ⟨rfl, rfl⟩
  go_wp2_with fail
  refine (times_c g f hf (f x) _ HG.out).mono ?_
  rintro e w2 ⟨rfl, rfl⟩
  go_wp2_with fail
  go_ret
  exact ⟨rfl, rfl⟩

/-- The cells when the first k are laid. -/
def part (f : BitVec 32 → BitVec 32) (k : Nat) : Array Value := ((List.range 32).map fun i => if i < k then cellOf f i else .int .u32 0).toArray
theorem part_size (f : BitVec 32 → BitVec 32) (k : Nat) : (part f k).size = 32 := by simp [part]
theorem part_all (f : BitVec 32 → BitVec 32) : part f 32 = matCells f := by
  unfold part matCells
  have e : (List.range 32).map (fun i => if i < 32 then cellOf f i else Value.int .u32 0) = (List.range 32).map (cellOf f) := by
    apply List.map_congr_left
    intro i hi
    rw [List.mem_range] at hi
    simp [hi]
  rw [e]
theorem part_set (f : BitVec 32 → BitVec 32) (k : Nat) (h : k < 32) : (part f k).setIfInBounds k (cellOf f k) = part f (k + 1) := by
  apply Array.ext_getElem?
  intro j
  rw [Array.getElem?_setIfInBounds]
  by_cases hj : j < 32
  · have e1 : (part f k)[j]? = some (if j < k then cellOf f j else .int .u32 0) := by simp [part, hj]
    have e2 : (part f (k + 1))[j]? = some (if j < k + 1 then cellOf f j else .int .u32 0) := by simp [part, hj]
    rw [e2]
    by_cases hjk : k = j
    · subst hjk; simp [part_size, h]
    · rw [if_neg hjk, e1]
      by_cases h1 : j < k
      · simp [h1, show j < k + 1 by omega]
      · simp [h1, show ¬ j < k + 1 by omega]
  · have e1 : (part f k)[j]? = none := by simp [part]; omega
    have e2 : (part f (k + 1))[j]? = none := by simp [part]; omega
    rw [e1, e2]
    simp [part_size]; omega
theorem mat_one (f : BitVec 32 → BitVec 32) : (matCells f).all (·.oneCell') = true := by simp [matCells, cellOf, Value.oneCell']
theorem shl_bit (k : Nat) : (2 : Int) ^ k % 4294967296 = ((BitVec.twoPow 32 k).toNat : Int) := by
  rw [BitVec.toNat_twoPow]
  simp

set_option maxHeartbeats 1000000 in
set_option maxRecDepth 100000 in
theorem set8_c (g : Nat) (old : Array Value) (hold : old.size = 32) (w : World) (n : Nat) (hn : n ≤ g) (hgs : g < w.heap.size) (hn2 : n ≤ w.heap.size) (hg : w.heap[g]? = some (.cells old 61 (0, 0))) :
    Calls Try.prog 42 #[.func (.func 43) #[] #[], .pointer (some ⟨g, 0, none⟩)] w fun e w' => e = .returned (.tuple #[]) ∧ Below n w w' ∧ w'.heap[g]? = some (.cells (matCells (dns 8)) 61 (0, 0)) := by
  have HG := Aside0.mk hg
  clear hg
  go_enter Try.func42, Try.ntmps42
  go_wp2
  go_loopw [5] (fun i wr => ∃ k : Nat, k ≤ 32 ∧ i = .int .i64 k ∧ Below w.heap.size w wr ∧ wr.heap[w.heap.size]? = some (.cells (part (dns 8) k) 61 (0, 0))) (fun i _ => 32 - (intOf i).toNat)
  case atStart => exact ⟨0, by omega, rfl, below_alloc (Below.refl _ _) _, by rw [Own.heap_new]; rfl⟩
  case round =>
    obtain ⟨k, hk, rfl, hb, hh⟩ := hrel
    by_cases hlt : k < 32
    · have HS := Aside0.mk (shl_bit k)
      have HH := Aside0.mk hh
      have HB := Aside0.mk hb
      have HQ := Aside0.mk (part_set (dns 8) k hlt)
      have hcell : wr.cell? ⟨w.heap.size, k, none⟩ = some (.int .u32 0) := by rw [cell_of_row wr _ k _ _ _ hh]; simp [part, hlt]
      have hfroz : wr.frozen? ⟨w.heap.size, k, none⟩ = false := frozen_of_row wr _ k _ _ hh
      clear hh hb
      go_wp2_with fail
      rw [HS.out]
      refine (eight_c _ _).mono ?_
      rintro e w1 ⟨rfl, rfl⟩
      go_wp2_with fail
      go_roundw
      case rel => exact ⟨k + 1, by omega, by go_num, HB.out.setCell (Nat.le_refl _) _, by rw [heap_setCell_same _ _ _ _ _ _ HH.out, ← HQ.out]; rfl⟩
      case measure => simp [intOf]; omega
    · obtain rfl : k = 32 := by omega
      have HH := Aside0.mk (part_all (dns 8) ▸ hh)
      have HB := Aside0.mk hb
      have HW := Aside0.mk ((hb.block g hgs).trans HG.out)
      clear hh hb
      go_upto_region 6 with fail
      apply wp_region_lit
      refine wpList_load_row rfl 61 _ rfl w.heap.size rfl _ (matCells (dns 8)) (0, 0) (.array 32 24) HH.out (by kernel_rfl) rfl (by rfl) ?_
      refine wpList_store_row rfl 61 _ _ rfl g (matCells (dns 8)) rfl rfl _ old HW.out (by rfl) (by rw [hold]; rfl) (mat_one _) ?_
      apply wpList_nil
      exact Go.Great.bodyPost_end0 rfl rfl ⟨rfl, Go.below_setRow ((HB.out).mono hn2) hn _, setRow_heap _ _ _ _ _ _ HW.out⟩
set_option maxHeartbeats 1000000 in
set_option maxRecDepth 100000 in
theorem set2_c (q : Nat) (f : BitVec 32 → BitVec 32) (hf : Lin f) (g : Nat) (old : Array Value) (hold : old.size = 32) (w : World) (n : Nat) (hn : n ≤ g) (hgs : g < w.heap.size) (hn2 : n ≤ w.heap.size) (hq : w.heap[q]? = some (.cells (matCells f) 61 (0, 0))) (hg : w.heap[g]? = some (.cells old 61 (0, 0))) :
    Calls Try.prog 42 #[.func (.func 45) #[] #[.pointer (some ⟨q, 0, none⟩)], .pointer (some ⟨g, 0, none⟩)] w fun e w' => e = .returned (.tuple #[]) ∧ Below n w w' ∧ w'.heap[g]? = some (.cells (matCells (fun x => f (f x))) 61 (0, 0)) := by
  have HG := Aside0.mk hg
  have HP := Aside0.mk hq
  have hqs : q < w.heap.size := (Array.getElem?_eq_some_iff.1 hq).1
  clear hg hq
  go_enter Try.func42, Try.ntmps42
  go_wp2
  go_loopw [5] (fun i wr => ∃ k : Nat, k ≤ 32 ∧ i = .int .i64 k ∧ Below w.heap.size w wr ∧ wr.heap[w.heap.size]? = some (.cells (part (fun x => f (f x)) k) 61 (0, 0))) (fun i _ => 32 - (intOf i).toNat)
  case atStart => exact ⟨0, by omega, rfl, below_alloc (Below.refl _ _) _, by rw [Own.heap_new]; rfl⟩
  case round =>
    obtain ⟨k, hk, rfl, hb, hh⟩ := hrel
    by_cases hlt : k < 32
    · have HS := Aside0.mk (shl_bit k)
      have HH := Aside0.mk hh
      have HB := Aside0.mk hb
      have HQ := Aside0.mk (part_set (fun x => f (f x)) k hlt)
      have hcell : wr.cell? ⟨w.heap.size, k, none⟩ = some (.int .u32 0) := by rw [cell_of_row wr _ k _ _ _ hh]; simp [part, hlt]
      have hfroz : wr.frozen? ⟨w.heap.size, k, none⟩ = false := frozen_of_row wr _ k _ _ hh
      have HPR := Aside0.mk ((hb.block q hqs).trans HP.out)
      clear hh hb
      go_wp2_with fail
      rw [HS.out]
      refine (twice_c q f hf _ _ HPR.out).mono ?_
      rintro e w1 ⟨rfl, rfl⟩
      go_wp2_with fail
      go_roundw
      case rel => exact ⟨k + 1, by omega, by go_num, HB.out.setCell (Nat.le_refl _) _, by rw [heap_setCell_same _ _ _ _ _ _ HH.out, ← HQ.out]; rfl⟩
      case measure => simp [intOf]; omega
    · obtain rfl : k = 32 := by omega
      have HH := Aside0.mk (part_all (fun x => f (f x)) ▸ hh)
      have HB := Aside0.mk hb
      have HW := Aside0.mk ((hb.block g hgs).trans HG.out)
      clear hh hb
      go_upto_region 6 with fail
      apply wp_region_lit
      refine wpList_load_row rfl 61 _ rfl w.heap.size rfl _ (matCells (fun x => f (f x))) (0, 0) (.array 32 24) HH.out (by kernel_rfl) rfl (by rfl) ?_
      refine wpList_store_row rfl 61 _ _ rfl g (matCells (fun x => f (f x))) rfl rfl _ old HW.out (by rfl) (by rw [hold]; rfl) (mat_one _) ?_
      apply wpList_nil
      exact Go.Great.bodyPost_end0 rfl rfl ⟨rfl, Go.below_setRow ((HB.out).mono hn2) hn _, setRow_heap _ _ _ _ _ _ HW.out⟩
end Go.Proofs.Ytgefpgbofhcmdaa.JoinW

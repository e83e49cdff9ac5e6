/- The walk of the join. -/
import Derived.Test.YtgefpgbofhcmdaaJoinW
import Derived.Test.YtgefpgbofhcmdaaRefSum
import Derived.Test.YtgefpgbofhcmdaaPvariorumref02Join
import Derived.Deep.WholeRow
namespace Go.Proofs.Ytgefpgbofhcmdaa.JoinW
open Go.RowKit Go.Proofs.Ytgefpgbofhcmdaa.P Go.Proofs.YtgefpgbofhcmdaaW.PrintWords Go.Proofs.YtgefpgbofhcmdaaW.PrintLast Go.Proofs.YtgefpgbofhcmdaaW.PrintMore Go.Proofs.Ytgefpgbofhcmdaa.Crc

theorem alloc_size (w : World) (o : Obj) : (w.alloc o).heap.size = w.heap.size + 1 := by show (w.heap.push o).size = _; simp
theorem lin_dns (e : Nat) : Lin (dns e) := ⟨dns_zero e, dns_xor e⟩
theorem dns_twice (e : Nat) : (fun x => dns e (dns e x)) = dns (e + e) := by
  funext x
  rw [dns_add]
theorem and1 (m : Nat) (h : m ≤ 1048576) : Go.bits .and .i64 (m : Int) 1 = ((m % 2 : Nat) : Int) := by
  have hq := bits_mask .i64 21 (by decide) (fun n h0 h1 => by rw [IntKind.wrap_i64]; omega) 1 (by decide) (m : Int) (by omega) (by omega)
  have hq' : Go.bits .and .i64 (m : Int) 1 = (m : Int) % 2 := by simpa using hq
  rw [hq']; omega
theorem odd_step (e m : Nat) (a : BitVec 32) (h : m % 2 = 1) : dns ((e + e) * (m / 2)) (dns e a) = dns (e * m) a := by
  rw [← dns_add]
  congr 1
  have h2 : m = 2 * (m / 2) + 1 := by omega
  generalize m / 2 = q at h2
  subst h2
  rw [Nat.add_mul, Nat.mul_add, Nat.mul_one, show 2 * q = q + q by omega, Nat.mul_add]; omega
theorem even_step (e m : Nat) (a : BitVec 32) (h : m % 2 = 0) : dns ((e + e) * (m / 2)) a = dns (e * m) a := by
  congr 1
  have h2 : m = 2 * (m / 2) := by omega
  generalize m / 2 = q at h2
  subst h2
  rw [Nat.add_mul, show 2 * q = q + q by omega, Nat.mul_add]

set_option maxHeartbeats 1000000 in
set_option maxRecDepth 100000 in
theorem join_c (x y : BitVec 32) (many : Int) (w : World) (h0 : 0 ≤ many) (h1 : many ≤ 1048576) :
    Calls Try.prog 20 #[.int .u32 (x.toNat : Int), .int .u32 (y.toNat : Int), .int .i64 many] w fun e w' => e = .returned (.int .u32 ((dns (8 * many.toNat) x ^^^ y).toNat : Int)) ∧ Below w.heap.size w w' := by
  obtain ⟨q, rfl⟩ : ∃ q : Nat, many = (q : Int) := ⟨many.toNat, by omega⟩
  have g1 : decide ((q : Int) < 0) = false := by simp
  have g2 : decide ((1048576 : Int) < (q : Int)) = false := by simp; omega
  rw [Int.toNat_natCast]
  go_enter Try.func20, Try.ntmps20
  go_wp2_with fail
  refine (set8_c w.heap.size _ rfl _ w.heap.size (Nat.le_refl _) (by rw [alloc_size]; omega) (by rw [alloc_size]; omega) (Own.heap_new w _)).mono ?_
  rintro e w1 ⟨rfl, hb1, hg1⟩
  have HB1 := Aside0.mk ((below_alloc (Below.refl w.heap.size w) _).trans hb1)
  have HG1 := Aside0.mk hg1
  clear hb1 hg1
  go_wp2_with fail
  go_loopw [0, 2] (fun av mv wr => ∃ (e m : Nat) (a : BitVec 32), av = .int .u32 (a.toNat : Int) ∧ mv = .int .i64 (m : Int) ∧ m ≤ 1048576 ∧ dns (e * m) a = dns (8 * q) x ∧ Below w.heap.size w wr ∧ wr.heap[w.heap.size]? = some (.cells (matCells (dns e)) 61 (0, 0))) (fun _ mv _ => (intOf mv).toNat)
  case atStart => exact ⟨8, q, x, rfl, rfl, by omega, rfl, HB1.out, HG1.out⟩
  case round =>
    obtain ⟨e, m, a, rfl, rfl, hm, hd, hb, hh⟩ := hrel
    have HD := Aside0.mk hd
    have HB := Aside0.mk hb
    have HH := Aside0.mk hh
    clear hd hb hh
    by_cases hz : m = 0
    · obtain rfl : m = 0 := hz
      go_wp2_with fail
      go_ret
      exact ⟨by rw [bits_xor, ← HD.out]; rfl, HB.out⟩
    · have hp : 0 < (m : Int) := by omega
      have h1 := and1 m hm
      rcases Nat.mod_two_eq_zero_or_one m with ho | ho
      · rw [ho] at h1
        have HE := Aside0.mk (even_step e m a ho)
        go_upto_region 10 with fail
        apply wp_region_lit
        refine wpList_load_row rfl 61 _ rfl w.heap.size rfl _ (matCells (dns e)) (0, 0) (.array 32 24) HH.out (by kernel_rfl) rfl (by rfl) ?_
        refine Go.Great.wpList_allocTo rfl (some 9) rfl (.pointer (some ⟨wr.heap.size, 0, none⟩)) (.cells (Array.replicate 32 (.int .u32 0)) 61) (by rfl) ?_
        refine wpList_store_row rfl 61 _ _ rfl wr.heap.size (matCells (dns e)) rfl rfl _ _ (Own.heap_new wr _) (by rfl) (by rfl) (mat_one _) ?_
        rw [World.setRow_alloc_new]
        apply wpList_nil
        go_wp2_with fail
        have hlt : w.heap.size < wr.heap.size := (Array.getElem?_eq_some_iff.1 HH.out).1
        have HL := Aside0.mk hlt
        have HH2 := Aside0.mk ((Own.heap_old wr (.cells (matCells (dns e)) 61) _ hlt).trans HH.out)
        clear hlt
        refine (set2_c wr.heap.size (dns e) (lin_dns e) w.heap.size _ rfl _ w.heap.size (Nat.le_refl _) (by rw [alloc_size]; have := HL.out; omega) (by rw [alloc_size]; have := HL.out; omega) (Own.heap_new wr _) HH2.out).mono ?_
        rintro e1 w2 ⟨rfl, hb2, hg2⟩
        have HB2 := Aside0.mk ((below_alloc HB.out _).trans hb2)
        have HG2 := Aside0.mk (dns_twice e ▸ hg2)
        clear hb2 hg2
        go_wp2_with fail
        go_roundw
        case rel => exact ⟨e + e, m / 2, _, rfl, by go_num, by omega, HE.out.trans HD.out, HB2.out, HG2.out⟩
        case measure => simp [intOf]; omega
      · rw [ho] at h1
        have HE := Aside0.mk (odd_step e m a ho)
        go_wp2_with fail
        refine (times_c w.heap.size (dns e) (lin_dns e) a _ HH.out).mono ?_
        rintro e0 w0 ⟨rfl, rfl⟩
        go_upto_region 10 with fail
        apply wp_region_lit
        refine wpList_load_row rfl 61 _ rfl w.heap.size rfl _ (matCells (dns e)) (0, 0) (.array 32 24) HH.out (by kernel_rfl) rfl (by rfl) ?_
        refine Go.Great.wpList_allocTo rfl (some 9) rfl (.pointer (some ⟨w0.heap.size, 0, none⟩)) (.cells (Array.replicate 32 (.int .u32 0)) 61) (by rfl) ?_
        refine wpList_store_row rfl 61 _ _ rfl w0.heap.size (matCells (dns e)) rfl rfl _ _ (Own.heap_new w0 _) (by rfl) (by rfl) (mat_one _) ?_
        rw [World.setRow_alloc_new]
        apply wpList_nil
        go_wp2_with fail
        have hlt : w.heap.size < w0.heap.size := (Array.getElem?_eq_some_iff.1 HH.out).1
        have HL := Aside0.mk hlt
        have HH2 := Aside0.mk ((Own.heap_old w0 (.cells (matCells (dns e)) 61) _ hlt).trans HH.out)
        clear hlt
        refine (set2_c w0.heap.size (dns e) (lin_dns e) w.heap.size _ rfl _ w.heap.size (Nat.le_refl _) (by rw [alloc_size]; have := HL.out; omega) (by rw [alloc_size]; have := HL.out; omega) (Own.heap_new w0 _) HH2.out).mono ?_
        rintro e1 w2 ⟨rfl, hb2, hg2⟩
        have HB2 := Aside0.mk ((below_alloc HB.out _).trans hb2)
        have HG2 := Aside0.mk (dns_twice e ▸ hg2)
        clear hb2 hg2
        go_wp2_with fail
        go_roundw
        case rel => exact ⟨e + e, m / 2, _, rfl, by go_num, by omega, HE.out.trans HD.out, HB2.out, HG2.out⟩
        case measure => simp [intOf]; omega

/-- What the join answers. -/
def joinL (x y : BitVec 32) (many : Int) : BitVec 32 := if many < 0 ∨ 1048576 < many then 0#32 else dns (8 * many.toNat) x ^^^ y
set_option maxHeartbeats 1000000 in
set_option maxRecDepth 100000 in
theorem join_below (x y : Int) (many : Int) (w : World) (h0 : many < 0) :
    Calls Try.prog 20 #[.int .u32 x, .int .u32 y, .int .i64 many] w fun e w' => e = .returned (.int .u32 0) ∧ Below w.heap.size w w' := by
  go_enter Try.func20, Try.ntmps20
  go_wp2_with fail
  go_ret
  exact ⟨rfl, Below.refl _ _⟩
set_option maxHeartbeats 1000000 in
set_option maxRecDepth 100000 in
theorem join_above (x y : Int) (many : Int) (w : World) (h0 : 1048576 < many) :
    Calls Try.prog 20 #[.int .u32 x, .int .u32 y, .int .i64 many] w fun e w' => e = .returned (.int .u32 0) ∧ Below w.heap.size w w' := by
  have g1 : decide (many < 0) = false := by simp; omega
  go_enter Try.func20, Try.ntmps20
  go_wp2_with fail
  go_ret
  exact ⟨rfl, Below.refl _ _⟩
theorem nJoin (x y : BitVec 32) (many : Int) (w : World) :
    Calls Try.prog 20 #[.int .u32 (x.toNat : Int), .int .u32 (y.toNat : Int), .int .i64 many] w fun e w' => e = .returned (.int .u32 ((joinL x y many).toNat : Int)) ∧ Below w.heap.size w w' := by
  unfold joinL
  by_cases h0 : many < 0
  · rw [if_pos (Or.inl h0)]; exact join_below _ _ many w h0
  · by_cases h1 : 1048576 < many
    · rw [if_pos (Or.inr h1)]; exact join_above _ _ many w h1
    · rw [if_neg (by omega)]; exact join_c x y many w (by omega) (by omega)
theorem ref_eq (K : Nat) (x y n i : Int) : variorumref02_Join.l0 (K + 1) x y n i = if i < n then ((variorumref02_step.f K x 0).bind fun t142 => (variorumref02_Join.l0 K t142 y n (wrap64 (i + 1)))) else (some (Go.bits .xor .u32 x y)) := by
  rw [variorumref02_Join.l0]
theorem ref_j0 (K : Nat) (x y n : Int) (b : Bool) : variorumref02_Join.j0 (K + 1) x y n b = if b = true then (some 0) else (variorumref02_Join.l0 K x y n 0) := by
  rw [variorumref02_Join.j0]
theorem step_zero (x : BitVec 32) : Crc.step x 0 = dns 8 x := by
  unfold Crc.step
  rw [show BitVec.ofInt 32 0 = 0#32 from rfl, BitVec.xor_zero]
theorem ref_run (n : Nat) (hn : n ≤ 1048576) (y : BitVec 32) : ∀ (d i k : Nat) (x : BitVec 32), i + d = n → variorumref02_Join.l0 (k + 9 + d + 1) (x.toNat : Int) (y.toNat : Int) (n : Int) (i : Int) = some ((dns (8 * d) x ^^^ y).toNat : Int) := by
  intro d
  induction d with
  | zero =>
    intro i k x h
    have hi : ¬ (i : Int) < (n : Int) := by omega
    rw [ref_eq, if_neg hi, bits_xor]; rfl
  | succ d ih =>
    intro i k x h
    have hi : (i : Int) < (n : Int) := by omega
    have e : k + 9 + (d + 1) + 1 = (k + 9 + d + 1) + 1 := by omega
    have h1 := ih (i + 1) k (Crc.step x 0) (by omega)
    rw [e, ref_eq, if_pos hi, RefSum.step_f _ _ _ (by omega), Option.bind_some, RefSum.w1 i (by omega), h1, step_zero, ← dns_add, show 8 + 8 * d = 8 * (d + 1) by omega]
theorem ref_some (x y : BitVec 32) (many : Int) : ∃ k, variorumref02_Join.f k (x.toNat : Int) (y.toNat : Int) many = some ((joinL x y many).toNat : Int) := by
  unfold joinL
  by_cases h0 : many < 0
  · refine ⟨1, ?_⟩
    unfold variorumref02_Join.f
    rw [if_pos (Or.inl h0), if_pos h0, ref_j0, if_pos rfl]; rfl
  · by_cases h1 : 1048576 < many
    · refine ⟨1, ?_⟩
      unfold variorumref02_Join.f
      rw [if_pos (Or.inr h1), if_neg h0, ref_j0, if_pos (by simp; omega)]; rfl
    · obtain ⟨n, rfl⟩ : ∃ n : Nat, many = (n : Int) := ⟨many.toNat, by omega⟩
      rw [if_neg (by omega), Int.toNat_natCast]
      obtain ⟨K, hK⟩ : ∃ K, K = 0 + 9 + n + 1 := ⟨_, rfl⟩
      refine ⟨K + 1, ?_⟩
      unfold variorumref02_Join.f
      have hr := ref_run n (by omega) y n 0 0 x (by omega)
      rw [← hK] at hr
      rw [if_neg h0, ref_j0, if_neg (by simp; omega)]
      exact hr
theorem nRefJoin (x y : BitVec 32) (many : Int) (w : World) :
    Calls Try.prog 21 #[.int .u32 (x.toNat : Int), .int .u32 (y.toNat : Int), .int .i64 many] w fun e w' => e = .returned (.int .u32 ((joinL x y many).toNat : Int)) ∧ Below w.heap.size w w' := by
  obtain ⟨k, hk⟩ := ref_some x y many
  exact (variorumref02_Join.calls k _ _ many _ w hk).mono fun e w' ⟨he, hd⟩ => ⟨he, hd.below⟩
theorem sum_join (a b : List Int) (hb : b.length ≤ 1048576) : joinL (sum a) (sum b) (b.length : Int) = sum (a ++ b) := by
  unfold joinL
  rw [if_neg (by omega), Int.toNat_natCast]
  unfold sum
  rw [run_append]
  have h := run_xor b ones (ones ^^^ run ones a)
  rw [xor_self_left] at h
  rw [h, BitVec.xor_comm (run ones a) ones]
  generalize dns _ _ = p
  generalize run ones b = q
  rw [← BitVec.xor_assoc, BitVec.xor_comm p q]
end Go.Proofs.Ytgefpgbofhcmdaa.JoinW

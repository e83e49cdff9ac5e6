-- Written by wip/myprint.py of this session, over the kit's print.py: a Lean function for each Go function, and the proof that the code comes to it.
import Derived.Test.YtgefpgbofhcmdaaPBase
import Derived.Test.YtgefpgbofhcmdaaVaryLives
namespace Go.Proofs.Ytgefpgbofhcmdaa.P
open Go.RowKit Go.Proofs.YtgefpgbofhcmdaaW.PrintWords Go.Proofs.YtgefpgbofhcmdaaW.PrintLast Go.Proofs.YtgefpgbofhcmdaaW.PrintMore
attribute [local go_sem] max2_int min2_int max_two min_two max_three min_three max_four min_four   -- for this text's walks alone
set_option linter.unusedVariables false
set_option linter.unusedSimpArgs false

/-! ### variorumlaw01_VaryBack: function 10 -/
-- NEEDS Derived.Test.YtgefpgbofhcmdaaVaryLives
section
open Vy
/-- All that is put. -/
def variorumlaw01_VaryBack.all (n : Nat) (m : Int) (s b : List Int) : List Int := enc n ++ (enc (zig m).toNat ++ (putTL [] s ++ b))
theorem variorumlaw01_VaryBack.put_eq (n : Nat) (m : Int) (s b : List Int) (hn : (n : Int) ≤ M) (hm : -2305843009213693952 ≤ m ∧ m ≤ 2305843009213693952) (hs : (s.length : Int) ≤ M) :
    putTL (putSL (putL [] (n : Int)) m) s ++ b = variorumlaw01_VaryBack.all n m s b := by
  have hM : M = 4611686018427387904 := rfl
  have hz : ∃ z : Nat, zig m = (z : Int) ∧ (z : Int) ≤ M := ⟨(zig m).toNat, by unfold zig; split <;> omega, by unfold zig; split <;> omega⟩
  obtain ⟨z, hz, hz2⟩ := hz
  unfold variorumlaw01_VaryBack.all putTL putSL
  rw [putL_good hn, if_neg (by omega), hz, Int.toNat_natCast, putL_good hz2, putL_good hs, putL_good hs]
  simp [List.append_assoc]
theorem variorumlaw01_VaryBack.reads (n : Nat) (m : Int) (s b : List Int) (hn : (n : Int) ≤ M) (hm : -2305843009213693952 ≤ m ∧ m ≤ 2305843009213693952) (hs : (s.length : Int) ≤ M) :
    ∃ k1 k2 k3 : Nat, k1 ≠ 0 ∧ k2 ≠ 0 ∧ k3 ≠ 0 ∧ numL ((variorumlaw01_VaryBack.all n m s b).drop 0) = ((n : Int), k1) ∧ sgnL ((variorumlaw01_VaryBack.all n m s b).drop (0 + k1)) = (m, k2) ∧ textL ((variorumlaw01_VaryBack.all n m s b).drop (0 + k1 + k2)) = (s, k3) ∧ (variorumlaw01_VaryBack.all n m s b).length = 0 + k1 + k2 + k3 + b.length := by
  have hM : M = 4611686018427387904 := rfl
  have hz : ∃ z : Nat, zig m = (z : Int) ∧ (z : Int) ≤ M := ⟨(zig m).toNat, by unfold zig; split <;> omega, by unfold zig; split <;> omega⟩
  obtain ⟨z, hz, hz2⟩ := hz
  have e1 := enc_pos n
  have e2 := enc_pos z
  have e3 := enc_pos s.length
  have hl : (putTL [] s).length = (enc s.length).length + s.length := by unfold putTL; rw [putL_good hs]; simp
  refine ⟨(enc n).length, (enc z).length, (enc s.length).length + s.length, by omega, by omega, by omega, ?_, ?_, ?_, ?_⟩
  · unfold variorumlaw01_VaryBack.all
    rw [List.drop_zero, numL_enc n hn]
  · unfold variorumlaw01_VaryBack.all sgnL
    rw [Nat.zero_add, List.drop_left, hz, Int.toNat_natCast, numL_enc z hz2]
    simp only
    rw [← hz, zag_zig]
  · unfold variorumlaw01_VaryBack.all
    rw [Nat.zero_add, ← List.drop_drop, List.drop_left, hz, Int.toNat_natCast, List.drop_left, textL_put s b hs]
  · unfold variorumlaw01_VaryBack.all
    rw [hz, Int.toNat_natCast]
    simp only [List.length_append, hl]
    omega
end
set_option maxHeartbeats 8000000 in
set_option maxRecDepth 100000 in
theorem variorumlaw01_VaryBack.good (n : Nat) (m : Int) (s : ByteArray) (A0 : Option Addr) (c0 : Nat) (l0 : List Int) (w : World) (h0 : Own.Sl w (.slice A0 l0.length c0) l0) (hok : Byt.Ok l0) (hlen : s.size + l0.length ≤ 4000) (hn : n ≤ 4611686018427387904) (hm0 : -2305843009213693952 ≤ m) (hm1 : m ≤ 2305843009213693952) :
    Calls Try.prog 10 #[.int .i64 (n : Int), .int .i64 m, .string s, .slice A0 l0.length c0] w fun e w' => e = .returned (.bool true) ∧ Below w.heap.size w w' := by
  have H0 := Aside0.mk h0
  have HO := Aside0.mk hok
  have HL := Aside0.mk hlen
  have hsl : (Own.numsOf s).length = s.size := Own.numsOf_length s
  obtain ⟨k1, k2, k3, a1, a2, a3, r1, r2, r3, r4⟩ := variorumlaw01_VaryBack.reads n m (Own.numsOf s) l0 (by have : Vy.M = 4611686018427387904 := rfl; omega) ⟨hm0, hm1⟩ (by have : Vy.M = 4611686018427387904 := rfl; omega)
  have hp := variorumlaw01_VaryBack.put_eq n m (Own.numsOf s) l0 (by have : Vy.M = 4611686018427387904 := rfl; omega) ⟨hm0, hm1⟩ (by have : Vy.M = 4611686018427387904 := rfl; omega)
  have hall : (variorumlaw01_VaryBack.all n m (Own.numsOf s) l0).length ≤ 5000 := by
    rw [← hp, List.length_append]
    unfold Vy.putTL
    rw [List.length_append]
    have q1 := Vy.putL_len (Vy.putSL (Vy.putL [] (n : Int)) m) ((Own.numsOf s).length : Int)
    have q2 := Vy.putSL_len (Vy.putL [] (n : Int)) m
    have q3 := Vy.putL_len [] (n : Int)
    simp only [List.length_nil] at q3
    omega
  have hoka : Byt.Ok (variorumlaw01_VaryBack.all n m (Own.numsOf s) l0) := by
    rw [← hp]
    exact Byt.ok_append (Vy.ok_putTL (Vy.ok_putSL (Vy.ok_putL Byt.ok_nil _) _) (Own.ok_numsOf s)) hok
  obtain ⟨L, hL⟩ : ∃ L, L = variorumlaw01_VaryBack.all n m (Own.numsOf s) l0 := ⟨_, rfl⟩
  rw [← hL] at r1 r2 r3 r4 hp hall hoka
  have R1 := Aside0.mk r1
  have R2 := Aside0.mk r2
  have R3 := Aside0.mk r3
  have R4 := Aside0.mk r4
  have HP := Aside0.mk hp
  have HA := Aside0.mk hall
  have HOA := Aside0.mk hoka
  have A1 := Aside0.mk a1
  have A2 := Aside0.mk a2
  have A3 := Aside0.mk a3
  have g1 : ¬ ((4000 : Int) < (s.size : Int) + (l0.length : Int)) := by omega
  have g2 : decide ((4611686018427387904 : Int) < (n : Int)) = false := by simp; omega
  have g3 : decide (m < -2305843009213693952) = false := by simp; omega
  have g4 : decide ((2305843009213693952 : Int) < m) = false := by simp; omega
  have g5 : (s.size : Int) ≤ 4000 := by omega
  have g6 : (l0.length : Int) ≤ 4000 := by omega
  have g7 : decide ((n : Int) < 0) = false := by simp
  clear h0 hok hlen hn hm0 hm1 hsl r1 r2 r3 r4 hp hall hoka a1 a2 a3 hL
  go_enter Try.func10, Try.ntmps10
  go_wp2_with fail
  refine (VaryP.nPut _ [] (n : Int) _ (Own.Sl.nil _) (by decide)).mono ?_
  rintro e w1 ⟨v1, rfl, s1, b1⟩
  have S1 := Aside0.mk s1.sl
  have HB1 := Aside0.mk b1
  have H1 := Aside0.mk (H0.out.below b1)
  clear s1 b1
  go_wp2_with fail
  refine (VaryP.nPutSigned _ _ m _ S1.out (by have := Vy.putL_len [] (n : Int); simp only [List.length_nil] at this; omega)).mono ?_
  rintro e w2 ⟨v2, rfl, s2, b2⟩
  have S2 := Aside0.mk s2.sl
  have HB2 := Aside0.mk (HB1.out.trans (b2.mono HB1.out.size))
  have H2 := Aside0.mk (H1.out.below b2)
  clear s2 b2 S1 HB1 H1
  go_wp2_with fail
  refine (VaryP.nPutText _ _ s _ S2.out (by have q1 := Vy.putL_len [] (n : Int); have q2 := Vy.putSL_len (Vy.putL [] (n : Int)) m; simp only [List.length_nil] at q1; have := HL.out; omega)).mono ?_
  rintro e w3 ⟨v3, rfl, s3, b3⟩
  have HB3 := Aside0.mk (HB2.out.trans (b3.mono HB2.out.size))
  have H3 := Aside0.mk (H2.out.below b3)
  obtain ⟨AD3, c3, rfl, hc3, hC3⟩ := s3.sl
  have S3 := Aside0.mk (Own.Gr.cut w3.heap.size 5 (Own.Sl.mk hC3 hc3))
  have hl3 : ((Vy.putTL (Vy.putSL (Vy.putL [] (n : Int)) m) (Own.numsOf s)).length : Int) ≤ 5000 := by
    have := HA.out
    rw [← HP.out, List.length_append] at this
    omega
  have HL3 := Aside0.mk hl3
  clear s3 b3 S2 HB2 H2 hC3
  go_wp2_with (at_builtin; refine Own.wpList_gr rfl rfl Try.underlying22 info5 (Nat.le_refl _) rfl S3.out rfl H3.out ?b1 ?_)
  case b1 => have := HL3.out; have := HL.out; omega
  rw [HP.out]
  intro v4 w4 s4 b4
  have S4 := Aside0.mk s4.sl
  have HB4 := Aside0.mk (HB3.out.trans (b4.mono HB3.out.size))
  clear s4 b4 S3 HB3
  go_wp2_with fail
  refine (VaryR.nRead _ _ L S4.out (by have := HA.out; omega)).mono ?_
  rintro e w5 ⟨rfl, r5, b5, s5⟩
  have HR5 := Aside0.mk r5
  have HB5 := Aside0.mk (HB4.out.trans (b5.mono HB4.out.size))
  obtain ⟨g, hg⟩ : ∃ g, g = w4.heap.size := ⟨_, rfl⟩
  have HG := Aside0.mk (show w.heap.size ≤ g by rw [hg]; exact HB4.out.size)
  rw [← hg] at HR5 ⊢
  clear r5 b5 s5 hg
  go_wp2_with fail
  refine (VaryR.nNum_ok g _ _ L 0 _ k1 HR5.out HOA.out R1.out A1.out).mono ?_
  rintro e w6 ⟨rfl, r6, b6⟩
  have HR6 := Aside0.mk r6
  have HB6 := Aside0.mk (VaryR.But.step b6 HB5.out HG.out (Nat.le_refl _))
  clear r6 b6 HR5 HB5
  go_wp2_with fail
  refine (VaryR.nSigned_ok g _ _ L _ _ k2 HR6.out HOA.out R2.out A2.out).mono ?_
  rintro e w7 ⟨rfl, r7, b7⟩
  have HR7 := Aside0.mk r7
  have HB7 := Aside0.mk (VaryR.But.step b7 HB6.out HG.out (Nat.le_refl _))
  clear r7 b7 HR6 HB6
  go_wp2_with fail
  refine (VaryR.nText_ok g _ _ L _ _ k3 HR7.out HOA.out R3.out A3.out).mono ?_
  rintro e w8 ⟨rfl, r8, b8⟩
  rw [Own.strOf_numsOf]
  have HR8 := Aside0.mk r8
  have HB8 := Aside0.mk (VaryR.But.step b8 HB7.out HG.out (Nat.le_refl _))
  clear r8 b8 HR7 HB7
  go_wp2_with fail
  refine (VaryR.nLeft g _ _ L _ false HR8.out).mono ?_
  rintro e w9 ⟨rfl, n9, rfl⟩
  rw [show VaryR.leftL L (0 + k1 + k2 + k3) false = l0.length by unfold VaryR.leftL; rw [if_neg (by simp), R4.out]; omega]
  have HR9 := Aside0.mk (HR8.out.below (pw_below_drewN (Below.refl _ _) n9))
  have HB9 := Aside0.mk (pw_below_drewN HB8.out n9)
  clear HR8 HB8
  go_wp2_with fail
  refine (VaryR.nBad g _ _ L _ false HR9.out).mono ?_
  rintro e w10 ⟨rfl, rfl⟩
  go_wp2_with fail
  refine (VaryLives.lives_c _).mono ?_
  rintro e w11 ⟨rfl, hb⟩
  have HB11 := Aside0.mk (HB9.out.trans (hb.mono HB9.out.size))
  clear hb
  go_wp2_with fail
  go_ret
  exact ⟨rfl, HB11.out⟩
set_option maxHeartbeats 2000000 in
set_option maxRecDepth 100000 in
theorem variorumlaw01_VaryBack.holds (n m : Int) (s : ByteArray) (A0 : Option Addr) (c0 : Nat) (l0 : List Int) (w : World) (_ : (Lit.int .i64 n).wf = true) (_ : (Lit.int .i64 m).wf = true) (ws : s.size ≤ 140737488351232) (hr0 : Kd.C (Kd.int .u8) w A0 l0.length l0) (hc0 : l0.length ≤ c0) (y0 : l0.length * 1 ≤ 140737488351232) (w0 : ∀ x ∈ l0, (Lit.int .u8 x).wf = true) :
    Calls Try.prog 10 #[.int .i64 n, .int .i64 m, .string s, .slice A0 l0.length c0] w fun e w' => e = .returned (.bool true) ∧ Below w.heap.size w w' := by
  rw [Nat.mul_one] at y0
  have y1 : (l0.length : Int) ≤ 140737488351232 := by omega
  have y2 : (s.size : Int) ≤ 140737488351232 := by omega
  by_cases h1 : (4000 : Int) < (s.size : Int) + (l0.length : Int)
  · clear hr0 w0
    go_enter Try.func10, Try.ntmps10
    go_wp2_with fail
    refine (VaryLives.lives_c _).mono ?_
    rintro e w1 ⟨rfl, hb⟩
    go_wp2_with fail
    go_ret
    exact ⟨rfl, hb⟩
  by_cases h2 : n < 0
  · clear hr0 w0
    go_enter Try.func10, Try.ntmps10
    go_wp2_with fail
    refine (VaryLives.lives_c _).mono ?_
    rintro e w1 ⟨rfl, hb⟩
    go_wp2_with fail
    go_ret
    exact ⟨rfl, hb⟩
  have g2 : decide (n < 0) = false := by simp; omega
  by_cases h3 : (4611686018427387904 : Int) < n
  · clear hr0 w0
    go_enter Try.func10, Try.ntmps10
    go_wp2_with fail
    refine (VaryLives.lives_c _).mono ?_
    rintro e w1 ⟨rfl, hb⟩
    go_wp2_with fail
    go_ret
    exact ⟨rfl, hb⟩
  have g3 : decide ((4611686018427387904 : Int) < n) = false := by simp; omega
  by_cases h4 : m < -2305843009213693952
  · clear hr0 w0
    go_enter Try.func10, Try.ntmps10
    go_wp2_with fail
    refine (VaryLives.lives_c _).mono ?_
    rintro e w1 ⟨rfl, hb⟩
    go_wp2_with fail
    go_ret
    exact ⟨rfl, hb⟩
  have g4 : decide (m < -2305843009213693952) = false := by simp; omega
  by_cases h5 : (2305843009213693952 : Int) < m
  · clear hr0 w0
    go_enter Try.func10, Try.ntmps10
    go_wp2_with fail
    refine (VaryLives.lives_c _).mono ?_
    rintro e w1 ⟨rfl, hb⟩
    go_wp2_with fail
    go_ret
    exact ⟨rfl, hb⟩
  obtain ⟨n, rfl⟩ : ∃ k : Nat, n = (k : Int) := ⟨n.toNat, by omega⟩
  exact variorumlaw01_VaryBack.good n m s A0 c0 l0 w (Own.Sl.mk hr0 hc0) (Byt.ok_of_wf w0) (by omega) (by omega) (by omega) (by omega)
def variorumlaw01_VaryBack.Pure : Prop := True
theorem variorumlaw01_VaryBack.walk (_ : variorumlaw01_VaryBack.Pure) (a0 : Int) (a1 : Int) (a2 : ByteArray) (a3 : Option Addr) (len3 cap3 : Nat) (z3 : List Int) (w : World) (w0 : (Lit.int .i64 a0).wf = true) (w1 : (Lit.int .i64 a1).wf = true) (w2 : a2.size ≤ 140737488351232) (w3 : (a3 = none ∧ len3 = 0 ∧ cap3 = 0 ∧ z3 = []) ∨ ∃ x, a3 = some x ∧ len3 ≤ cap3 ∧ cap3 ≤ maxLen ∧ z3.length = cap3 ∧ (∀ i, i < z3.length → w.cell? (x.add i) = some (.int .u8 (z3.getD i 0))) ∧ ∀ n ∈ z3, (Lit.int .u8 n).wf = true) (y3 : len3 * 1 ≤ 140737488351232) :
    Calls Try.prog 10 #[.int .i64 a0, .int .i64 a1, .string a2, .slice a3 len3 cap3] w fun e w' => e = .returned (.bool true) ∧ Below w.heap.size w w' := by
  obtain ⟨l3, rfl, hr3, hm3, hw3, hc3⟩ := ReadsInt.ofRowC w3
  exact variorumlaw01_VaryBack.holds a0 a1 a2 _ _ l3 w w0 w1 w2 (Kd.C_of_reads (d := (0 : Int)) (h1 := fun _ => rfl) hr3) hc3 y3 hw3

end Go.Proofs.Ytgefpgbofhcmdaa.P

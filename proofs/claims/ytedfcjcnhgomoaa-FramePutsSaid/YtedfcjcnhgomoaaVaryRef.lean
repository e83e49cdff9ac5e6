/- The reference's numbers and texts as bytes come to the same plain law. -/
import Derived.Test.YtedfcjcnhgomoaaPvariorumref01Put
import Derived.Test.YtedfcjcnhgomoaaPvariorumref01PutText
import Derived.Test.YtedfcjcnhgomoaaPvariorumref01PutSigned
import Derived.Test.YtedfcjcnhgomoaaPvariorumref01Num
import Derived.Test.YtedfcjcnhgomoaaPvariorumref01Signed
import Derived.Test.YtedfcjcnhgomoaaVaryR
namespace Go.Proofs.Ytedfcjcnhgomoaa.VaryRef
open Go.RowKit Go.Proofs.Ytedfcjcnhgomoaa.P Go.Proofs.YtedfcjcnhgomoaaW.PrintWords Go.Proofs.YtedfcjcnhgomoaaW.PrintLast Go.Proofs.YtedfcjcnhgomoaaW.PrintMore Go.Proofs.Ytedfcjcnhgomoaa.Own Go.Proofs.Ytedfcjcnhgomoaa.Vy Go.Proofs.Ytedfcjcnhgomoaa.VaryR

theorem put_eq (k : Nat) (x : Int) (l : List Int) : variorumref01_Put.l0 (k + 1) x l = if x ≥ 128 then (if l.length < 140737488355328 then (variorumref01_Put.l0 k (wrap64 (Int.tdiv x 128)) (l ++ [(wrap64 ((Int.tmod x 128) + 128)) % 256])) else (none)) else (if l.length < 140737488355328 then (some (l ++ [(x) % 256])) else (none)) := by
  rw [variorumref01_Put.l0]
theorem put_j (k : Nat) (x : Int) (l : List Int) (b : Bool) : variorumref01_Put.j0 (k + 1) x l b = if b = true then (some l) else (variorumref01_Put.l0 k x l) := by
  rw [variorumref01_Put.j0]
theorem put_run : ∀ (m k : Nat) (acc : List Int), m ≤ 4611686018427387904 → acc.length + (enc m).length ≤ 140737488355000 → variorumref01_Put.l0 (k + (enc m).length) (m : Int) acc = some (acc ++ enc m) := by
  intro m
  induction m using Nat.strongRecOn with
  | _ m ih =>
    intro k acc hm hl
    by_cases h : m < 128
    · rw [enc_lt h] at hl ⊢
      rw [show k + [(m : Int)].length = k + 1 from rfl, put_eq, if_neg (by omega), if_pos (by omega), show (m : Int) % 256 = m by omega]
    · rw [enc_ge (by omega)] at hl ⊢
      simp only [List.length_cons] at hl ⊢
      rw [show k + ((enc (m / 128)).length + 1) = (k + (enc (m / 128)).length) + 1 by omega, put_eq, if_pos (by omega), if_pos (by omega)]
      rw [Int.tdiv_eq_ediv_of_nonneg (by omega), Int.tmod_eq_emod_of_nonneg (by omega), Byt.wrap_in _ (by omega), Byt.wrap_in _ (by omega)]
      rw [show (m : Int) / 128 = ((m / 128 : Nat) : Int) by omega, show ((m : Int) % 128 + 128) % 256 = ((m % 128 + 128 : Nat) : Int) by omega]
      rw [ih (m / 128) (by omega) k _ (by omega) (by simp; omega)]
      simp
theorem put_f (l : List Int) (n : Int) (k : Nat) (hk : 10 ≤ k) (hl : l.length ≤ 140737488354000) : variorumref01_Put.f k l n = some (putL l n) := by
  unfold variorumref01_Put.f putL
  obtain ⟨k, rfl⟩ : ∃ q, k = q + 1 := ⟨k - 1, by omega⟩
  simp only [Option.bind_some, List.nil_append, List.length_nil]
  rw [if_pos (by omega)]
  by_cases h0 : n < 0
  · rw [if_pos h0, put_j, if_pos rfl, if_pos (.inl h0)]
  · rw [if_neg h0, put_j]
    by_cases h1 : n > 4611686018427387904
    · rw [if_pos (by simpa using h1), if_pos (.inr h1)]
    · obtain ⟨m, rfl⟩ : ∃ m : Nat, n = (m : Int) := ⟨n.toNat, by omega⟩
      rw [if_neg (by simpa using h1), if_neg (by have : M = 4611686018427387904 := rfl; omega), Int.toNat_natCast]
      have h9 := enc_len9 (n := m) (by omega)
      have := put_run m (k - (enc m).length) l (by omega) (by omega)
      rwa [show k - (enc m).length + (enc m).length = k by omega] at this
theorem putS_f (l : List Int) (n : Int) (hl : l.length ≤ 140737488354000) : variorumref01_PutSigned.f 11 l n = some (putSL l n) := by
  unfold variorumref01_PutSigned.f putSL
  by_cases h0 : n < -2305843009213693952
  · rw [if_pos h0, if_pos (.inl h0), variorumref01_PutSigned.j0, if_pos rfl]
    simp only [Option.bind_some, List.nil_append, List.length_nil]
    rw [if_pos (by omega)]
  · rw [if_neg h0, variorumref01_PutSigned.j0]
    by_cases h1 : n > 2305843009213693952
    · rw [if_pos (by simpa using h1), if_pos (.inr h1)]
      simp only [Option.bind_some, List.nil_append, List.length_nil]
      rw [if_pos (by omega)]
    · have hno : ¬ (n < -2305843009213693952 ∨ 2305843009213693952 < n) := by omega
      rw [if_neg (by simpa using h1)]
      rw [if_neg hno]
      unfold zig
      by_cases h2 : n < 0
      · rw [if_pos h2, if_pos h2, Byt.wrap_in (-n) (by omega), Byt.wrap_in (2 * -n) (by omega), Byt.wrap_in _ (by omega), put_f _ _ _ (by decide) hl, show 2 * -n - 1 = -2 * n - 1 by omega]; rfl
      · rw [if_neg h2, if_neg h2, Byt.wrap_in _ (by omega), put_f _ _ _ (by decide) hl]; rfl
theorem bytesOf_eq (s : ByteArray) : bytesOf s = numsOf s := rfl
theorem putT_f (l : List Int) (s : ByteArray) (k : Nat) (hk : 10 ≤ k) (hl : l.length + s.size ≤ 140737488353000) : variorumref01_PutText.f k l s = some (putTL l (numsOf s)) := by
  unfold variorumref01_PutText.f putTL
  rw [put_f _ _ _ hk (by omega), Option.bind_some, numsOf_length]
  have := putL_len l (s.size : Int)
  rw [if_pos (by omega), bytesOf_eq]

theorem num_l0 (k : Nat) (l : List Int) (n s i : Int) : variorumref01_Num.l0 (k + 1) l n s i = if i < (l.length : Int) then (variorumref01_Num.j1 k l n s i (decide (i < 9))) else (variorumref01_Num.j1 k l n s i false) := by
  rw [variorumref01_Num.l0]
theorem num_j1 (k : Nat) (x0 : List Int) (x4 x5 x6 : Int) (x15 : Bool) : variorumref01_Num.j1 (k + 1) x0 x4 x5 x6 x15 = if x15 = true then (if 0 ≤ x6 then (if x6 < (x0.length : Int) then (if (Int.tmod (wrap64 (rd x0 x6)) 128) > 0 then (if x5 = 0 then (none) else (variorumref01_Num.j2 k x0 x4 x5 x6 (Int.tmod (wrap64 (rd x0 x6)) 128) (decide ((Int.tmod (wrap64 (rd x0 x6)) 128) > (wrap64 (Int.tdiv (wrap64 (4611686018427387904 - x4)) x5)))))) else (variorumref01_Num.j2 k x0 x4 x5 x6 (Int.tmod (wrap64 (rd x0 x6)) 128) false)) else (none)) else (none)) else (some (0, 0)) := by
  rw [variorumref01_Num.j1]
theorem num_j2 (k : Nat) (x0 : List Int) (x4 x5 x6 x7 : Int) (x33 : Bool) : variorumref01_Num.j2 (k + 1) x0 x4 x5 x6 x7 x33 = if x33 = true then (some (0, 0)) else (if 0 ≤ x6 then (if x6 < (x0.length : Int) then (if (rd x0 x6) < 128 then (if x7 = 0 then (if x6 > 0 then (some (0, 0)) else (some (wrap64 (x4 + (wrap64 (x7 * x5))), wrap64 (x6 + 1)))) else (some (wrap64 (x4 + (wrap64 (x7 * x5))), wrap64 (x6 + 1)))) else (variorumref01_Num.l0 k x0 (wrap64 (x4 + (wrap64 (x7 * x5)))) (wrap64 (x5 * 128)) (wrap64 (x6 + 1)))) else (none)) else (none)) := by
  rw [variorumref01_Num.j2]
/-- The pair as the machine has it. -/
def pr (p : Int × Nat) : Int × Int := (p.1, (p.2 : Int))
theorem num_run (l : List Int) (hok : Byt.Ok l) : ∀ (d i k : Nat) (n : Int), i + d = 9 → 0 ≤ n → n ≤ M →
    variorumref01_Num.l0 (k + 3 * d + 2) l n (scal i) (i : Int) = some (pr (numG i n (l.drop i))) := by
  intro d
  induction d with
  | zero =>
    intro i k n hd h0 h1
    obtain rfl : i = 9 := by omega
    rw [numG_end (.inl (by omega)), show k + 3 * 0 + 2 = (k + 1) + 1 by omega, num_l0]
    split
    · rw [num_j1, if_neg (by simp)]; rfl
    · rw [num_j1, if_neg (by simp)]; rfl
  | succ d ih =>
    intro i k n hd h0 h1
    rw [show k + 3 * (d + 1) + 2 = (((k + 3 * d + 2) + 1) + 1) + 1 by omega, num_l0]
    by_cases hlt : i < l.length
    · obtain ⟨x, hx⟩ : ∃ x, l[i] = x := ⟨_, rfl⟩
      have hxr : 0 ≤ x ∧ x ≤ 255 := hok x (hx ▸ List.getElem_mem hlt)
      have hrd : rd l (i : Int) = x := by unfold rd; rw [Byt.rd_at l i hlt, hx]
      have hdrop : l.drop i = x :: l.drop (i + 1) := by rw [List.drop_eq_getElem_cons hlt, hx]
      have hi9 : i < 9 := by omega
      have hs := scal_le hi9
      have hs0 := Vy.pow_pos i
      have hs1 := pow_le8 (k := i) (by omega)
      have hM : M = 4611686018427387904 := rfl
      rw [if_pos (by omega), num_j1, if_pos (by simp; omega), if_pos (by omega), if_pos (by omega), hrd, Byt.wrap_in x (by omega), Int.tmod_eq_emod_of_nonneg (by omega), hs, hdrop]
      have hP0 : 0 ≤ x % 128 * 128 ^ i := Int.mul_nonneg (by omega) (by omega)
      have hdv : (M - n) / 128 ^ i ≤ M - n := Int.ediv_le_self _ (by omega)
      have hdd : (4611686018427387904 - n) / 128 ^ i = (M - n) / 128 ^ i := rfl
      have hdv0 : 0 ≤ (M - n) / 128 ^ i := Int.ediv_nonneg (by omega) (by omega)
      by_cases hb : 0 < x % 128 ∧ (M - n) / 128 ^ i < x % 128
      · rw [if_pos hb.1, if_neg (by omega), Byt.wrap_in (4611686018427387904 - n) (by omega), Int.tdiv_eq_ediv_of_nonneg (by omega), Byt.wrap_in _ (by omega), num_j2, if_pos (by simpa using hb.2), numG_bad hi9 hb.1 hb.2]; rfl
      · have hle : n + x % 128 * 128 ^ i ≤ M := by
          by_cases hk : 0 < x % 128
          · have := (le_div (x % 128) (M - n) (128 ^ i) hs0).1 (by omega)
            omega
          · have : x % 128 = 0 := by omega
            rw [this]; omega
        have hj : (if x % 128 > 0 then (if (128 : Int) ^ i = 0 then (none) else (variorumref01_Num.j2 (k + 3 * d + 2 + 1) l n (128 ^ i) (i : Int) (x % 128) (decide (x % 128 > (wrap64 (Int.tdiv (wrap64 (4611686018427387904 - n)) (128 ^ i))))))) else (variorumref01_Num.j2 (k + 3 * d + 2 + 1) l n (128 ^ i) (i : Int) (x % 128) false)) = variorumref01_Num.j2 (k + 3 * d + 2 + 1) l n (128 ^ i) (i : Int) (x % 128) false := by
          by_cases hk : 0 < x % 128
          · rw [if_pos hk, if_neg (by omega), Byt.wrap_in (4611686018427387904 - n) (by omega), Int.tdiv_eq_ediv_of_nonneg (by omega), Byt.wrap_in _ (by omega), decide_eq_false (by omega)]
          · rw [if_neg hk]
        rw [hj, num_j2, if_neg (by simp), if_pos (by omega), if_pos (by omega), hrd, Byt.wrap_in (x % 128 * 128 ^ i) (by omega), Byt.wrap_in (n + x % 128 * 128 ^ i) (by omega), Byt.wrap_in ((i : Int) + 1) (by omega)]
        by_cases hge : 128 ≤ x
        · rw [if_neg (by omega), numG_more hi9 hb hge]
          have hsn := scal_next hi9
          rw [hs] at hsn
          rw [hsn, show (i : Int) + 1 = ((i + 1 : Nat) : Int) by omega]
          exact ih (i + 1) k _ (by omega) (by omega) hle
        · rw [if_pos (by omega)]
          by_cases hz : x % 128 = 0 ∧ 0 < i
          · rw [if_pos hz.1, if_pos (by omega), numG_idle hi9 (by omega) hz.1 hz.2]; rfl
          · rw [numG_last hi9 hb (by omega) hz]
            by_cases hz1 : x % 128 = 0
            · rw [if_pos hz1, if_neg (by omega)]; rfl
            · rw [if_neg hz1]; rfl
    · rw [if_neg (by omega), num_j1, if_neg (by simp), numG_end (.inr (List.drop_of_length_le (by omega)))]; rfl
theorem num_f (l : List Int) (hok : Byt.Ok l) : variorumref01_Num.f 29 l = some (pr (numL l)) := by
  unfold variorumref01_Num.f numL
  have := num_run l hok 9 0 0 0 (by omega) (by omega) (by decide)
  simpa [scal] using this
theorem signed_f (l : List Int) (hok : Byt.Ok l) : variorumref01_Signed.f 29 l = some (pr (sgnL l)) := by
  unfold variorumref01_Signed.f sgnL
  rw [num_f l hok, Option.bind_some]
  obtain ⟨h0, h1⟩ := numL_nonneg hok
  have hM : M = 4611686018427387904 := rfl
  unfold pr zag
  simp only
  obtain ⟨r, hr⟩ : ∃ r, r = (numL l).1 := ⟨_, rfl⟩
  rw [← hr] at h0 h1 ⊢
  rw [Int.tmod_eq_emod_of_nonneg h0, Int.tdiv_eq_ediv_of_nonneg h0, Byt.wrap_in (r + 1) (by omega), Int.tdiv_eq_ediv_of_nonneg (by omega), Byt.wrap_in ((r + 1) / 2) (by omega), Byt.wrap_in (-((r + 1) / 2)) (by omega), Byt.wrap_in (r / 2) (by omega)]
  split <;> rfl

theorem nPut (v : Value) (l : List Int) (n : Int) (w : World) (hs : Sl w v l) (hl : l.length ≤ 140737488354000) :
    Calls Try.prog 41 #[v, .int .i64 n] w fun e w' => ∃ v', e = .returned v' ∧ Gr w.heap.size 5 w' v' (putL l n) ∧ Below w.heap.size w w' := by
  obtain ⟨A, c, rfl, hc, hC⟩ := hs
  exact (variorumref01_Put.calls 10 A c l n _ w hC hc (put_f l n 10 (by decide) hl)).mono fun e w' ⟨v', he, hr, hb⟩ => ⟨v', he, Gr.of_R hr, hb⟩
theorem nPutSigned (v : Value) (l : List Int) (n : Int) (w : World) (hs : Sl w v l) (hl : l.length ≤ 140737488354000) :
    Calls Try.prog 64 #[v, .int .i64 n] w fun e w' => ∃ v', e = .returned v' ∧ Gr w.heap.size 5 w' v' (putSL l n) ∧ Below w.heap.size w w' := by
  obtain ⟨A, c, rfl, hc, hC⟩ := hs
  exact (variorumref01_PutSigned.calls 11 A c l n _ w hC hc (putS_f l n hl)).mono fun e w' ⟨v', he, hr, hb⟩ => ⟨v', he, Gr.of_R hr, hb⟩
theorem nPutText (v : Value) (l : List Int) (s : ByteArray) (w : World) (hs : Sl w v l) (hl : l.length + s.size ≤ 140737488353000) :
    Calls Try.prog 65 #[v, .string s] w fun e w' => ∃ v', e = .returned v' ∧ Gr w.heap.size 5 w' v' (putTL l (numsOf s)) ∧ Below w.heap.size w w' := by
  obtain ⟨A, c, rfl, hc, hC⟩ := hs
  exact (variorumref01_PutText.calls 10 A c l s _ w hC hc (putT_f l s 10 (by decide) hl)).mono fun e w' ⟨v', he, hr, hb⟩ => ⟨v', he, Gr.of_R hr, hb⟩
theorem nNum (v : Value) (l : List Int) (w : World) (hs : Sl w v l) (hok : Byt.Ok l) :
    Calls Try.prog 53 #[v] w fun e w' => e = .returned (.tuple #[.int .i64 (numL l).1, .int .i64 ((numL l).2 : Int)]) ∧ Drawn0 w w' := by
  obtain ⟨A, c, rfl, hc, hC⟩ := hs
  exact variorumref01_Num.calls 29 A c l _ _ w hC hc (num_f l hok)
theorem nSigned (v : Value) (l : List Int) (w : World) (hs : Sl w v l) (hok : Byt.Ok l) :
    Calls Try.prog 113 #[v] w fun e w' => e = .returned (.tuple #[.int .i64 (sgnL l).1, .int .i64 ((sgnL l).2 : Int)]) ∧ Drawn0 w w' := by
  obtain ⟨A, c, rfl, hc, hC⟩ := hs
  exact variorumref01_Signed.calls 29 A c l _ _ w hC hc (signed_f l hok)
set_option maxHeartbeats 1000000 in
set_option maxRecDepth 100000 in
theorem nText (v : Value) (l : List Int) (w : World) (hs : Sl w v l) (hok : Byt.Ok l) (hl : l.length ≤ 140737488354000) :
    Calls Try.prog 91 #[v] w fun e w' => e = .returned (.tuple #[.string (strOfNums (textL l).1), .int .i64 ((textL l).2 : Int)]) ∧ Drawn0 w w' := by
  have H := Aside0.mk hs
  have HO := Aside0.mk hok
  have hle := numL_le hok
  obtain ⟨hn0, hn1⟩ := numL_nonneg hok
  obtain ⟨r, hr⟩ : ∃ r : Nat, (r : Int) = (numL l).1 := ⟨(numL l).1.toNat, by omega⟩
  obtain ⟨k, hk⟩ : ∃ k : Nat, k = (numL l).2 := ⟨_, rfl⟩
  have hn2 : (r : Int) ≤ 4611686018427387904 := by rw [hr]; exact hn1
  rw [← hk] at hle
  have hn := fun w hs => nNum v l w hs hok
  rw [← hr, ← hk] at hn
  have HT1 := Aside0.mk (show k = 0 ∨ (l.length : Int) - k < r → textL l = ([], 0) by
    intro hz
    unfold textL
    rw [← hr, ← hk, if_pos hz])
  have HT2 := Aside0.mk (show k ≠ 0 → (r : Int) ≤ (l.length : Int) - k → textL l = ((l.take (k + r)).drop k, k + r) by
    intro hz hq
    unfold textL
    rw [← hr, ← hk, if_neg (by omega), Int.toNat_natCast, List.drop_take, Nat.add_sub_cancel_left])
  obtain ⟨A, c, rfl, hc, hC⟩ := hs
  have hC2 := Sl.mk hC hc
  clear hn0 hn1 hr hk hC
  by_cases hz : k = 0
  · have HT := Aside0.mk (HT1.out (.inl hz))
    subst hz
    go_enter Try.func91, Try.ntmps91
    go_wp2_with fail
    refine (hn _ H.out).mono ?_
    rintro e w' ⟨rfl, n, rfl⟩
    clear hn
    go_wp2_with fail
    go_ret2
    rw [HT.out]
    exact ⟨rfl, ⟨_, rfl⟩⟩
  · have hz2 : ((k : Int) == 0) = false := by simp; omega
    have hz3 : ¬ (k : Int) = 0 := by omega
    have HZ := Aside0.mk hz
    by_cases hlt : (l.length : Int) - k < r
    · have HT := Aside0.mk (HT1.out (.inr hlt))
      clear hz
      go_enter Try.func91, Try.ntmps91
      go_wp2_with fail
      refine (hn _ H.out).mono ?_
      rintro e w' ⟨rfl, n, rfl⟩
      clear hn
      go_wp2_with fail
      go_ret2
      rw [HT.out]
      exact ⟨rfl, ⟨_, rfl⟩⟩
    · have HT := Aside0.mk (HT2.out hz (by omega))
      have hlt2 : ¬ ((l.length : Int) - k < r) := hlt
      obtain ⟨u, hcut, hu⟩ := slice_mid (P := Try.prog) 25 5 Try.underlying25 info5 hC2 (k : Int) ((k : Int) + (r : Int)) (by omega) (by omega) (by omega)
      rw [show ((k : Int) + (r : Int)).toNat = k + r by omega, Int.toNat_natCast] at hu
      have hcv := fun n => (hu.drewN n).string (P := Try.prog) Try.underlying25 Try.underlying5 Try.underlying9
      have hsum : (k : Int) + (r : Int) ≤ 140737488355000 := by omega
      clear hz hu hC2
      go_enter Try.func91, Try.ntmps91
      go_wp2_with fail
      refine (hn _ H.out).mono ?_
      rintro e w' ⟨rfl, n, rfl⟩
      clear hn
      go_wp2_with fail
      go_ret2
      rw [HT.out]
      exact ⟨rfl, ⟨_, rfl⟩⟩
end Go.Proofs.Ytedfcjcnhgomoaa.VaryRef

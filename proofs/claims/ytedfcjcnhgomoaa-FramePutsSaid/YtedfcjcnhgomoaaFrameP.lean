/- The walks of frames: whether a packet is right, its body, its frame; the reference's the same. -/
import Derived.Test.YtedfcjcnhgomoaaVaryP
import Derived.Test.YtedfcjcnhgomoaaVaryRef
import Derived.Test.YtedfcjcnhgomoaaNice2
import Derived.Test.YtedfcjcnhgomoaaPvariorumref12Put
import Derived.Outline
namespace Go.Proofs.Ytedfcjcnhgomoaa.FrameP
open Go.RowKit Go.Proofs.Ytedfcjcnhgomoaa.P Go.Proofs.YtedfcjcnhgomoaaW.PrintWords Go.Proofs.YtedfcjcnhgomoaaW.PrintLast Go.Proofs.YtedfcjcnhgomoaaW.PrintMore Go.Proofs.Ytedfcjcnhgomoaa.Own Go.Proofs.Ytedfcjcnhgomoaa.Vy
set_option linter.unusedSimpArgs false
set_option linter.unusedVariables false

/-- A packet. -/
structure Pk where
  e : Int
  s : Int
  a : Int
  d : ByteArray
def Pk.val (p : Pk) : Value := .agg #[.int .i64 p.e, .int .i64 p.s, .int .i64 p.a, .string p.d]
def numB (n : Int) : Bool := decide (0 ≤ n) && decide (n ≤ 4611686018427387904)
/-- Is it right? -/
def good (p : Pk) : Bool := numB p.e && numB p.s && numB p.a && decide (p.d.size ≤ 65536) && (decide (0 < p.s) || decide (p.d.size = 0))
def body (p : Pk) : List Int := putTL (putL (putL (putL [] p.e) p.s) p.a) (numsOf p.d)
def frame (p : Pk) : List Int := putL [] ((body p).length : Int) ++ Nice.sealL (body p)
theorem ok_body (p : Pk) : Byt.Ok (body p) := ok_putTL (ok_putL (ok_putL (ok_putL Byt.ok_nil _) _) _) (ok_numsOf _)
theorem body_len (p : Pk) : (body p).length ≤ p.d.size + 36 := by
  unfold body putTL
  have h1 := putL_len [] p.e
  have h2 := putL_len (putL [] p.e) p.s
  have h3 := putL_len (putL (putL [] p.e) p.s) p.a
  have h4 := putL_len (putL (putL (putL [] p.e) p.s) p.a) ((numsOf p.d).length : Int)
  rw [List.length_append, numsOf_length]
  simp only [List.length_nil] at h1
  rw [numsOf_length] at h4
  omega
theorem frame_len (p : Pk) : (frame p).length ≤ p.d.size + 49 := by
  unfold frame
  have h1 := body_len p
  have h2 := putL_len [] ((body p).length : Int)
  rw [List.length_append, Nice.sealL_length]
  simp only [List.length_nil] at h2
  omega
theorem ok_frame (p : Pk) : Byt.Ok (frame p) := Byt.ok_append (ok_putL Byt.ok_nil _) (Nice.sealL_ok (ok_body p))
theorem empty_iff (d : ByteArray) : (d.toList == ([] : List UInt8)) = decide (d.size = 0) := by
  rw [Bool.eq_iff_iff]
  simp only [beq_iff_eq, decide_eq_true_eq]
  rw [ByteArray.toList_eq]
  constructor
  · intro h
    show d.data.size = 0
    rw [← Array.length_toList, h]; rfl
  · intro h
    have : d.data.toList.length = 0 := by rw [Array.length_toList]; exact h
    exact List.eq_nil_of_length_eq_zero this

theorem numB_low {n : Int} (h : n < 0) : numB n = false := by unfold numB; rw [decide_eq_false (by omega)]; rfl
theorem numB_high {n : Int} (h : 4611686018427387904 < n) : numB n = false := by unfold numB; rw [decide_eq_false (p := n ≤ 4611686018427387904) (by omega), Bool.and_false]
theorem numB_ok {n : Int} (h : 0 ≤ n) (h2 : n ≤ 4611686018427387904) : numB n = true := by unfold numB; rw [decide_eq_true h, decide_eq_true h2]; rfl
set_option maxRecDepth 100000 in
theorem index3 (e s a : Int) (i : Int) (x : Int) (h : (#[Value.int .i64 e, .int .i64 s, .int .i64 a] : Array Value)[i.toNat]? = some (.int .i64 x)) (h0 : decide (0 ≤ i ∧ i < 3) = true) :
    ∀ W : World, (Instr.index 71 (.agg #[.int .i64 e, .int .i64 s, .int .i64 a]) (.int .i64 i)).run Try.prog W = .ok (.int .i64 x) W := by
  intro W
  have h1 := of_decide_eq_true h0
  have h2 : i = 0 ∨ i = 1 ∨ i = 2 := by omega
  rcases h2 with rfl | rfl | rfl
  · obtain rfl : e = x := by simpa using h
    rfl
  · obtain rfl : s = x := by simpa using h
    rfl
  · obtain rfl : a = x := by simpa using h
    rfl
set_option maxHeartbeats 2000000 in
set_option maxRecDepth 100000 in
theorem good_c (p : Pk) (w : World) : Calls Try.prog 15 #[p.val] w fun e w' => e = .returned (.bool (good p)) ∧ Below w.heap.size w w' := by
  obtain ⟨e, s, a, d⟩ := p
  unfold Pk.val
  simp only
  have HE := Aside0.mk (empty_iff d)
  have HGD := Aside0.mk (show good ⟨e, s, a, d⟩ = (numB e && numB s && numB a && decide (d.size ≤ 65536) && (decide (0 < s) || decide (d.size = 0))) from rfl)
  go_enter Try.func15, Try.ntmps15
  go_wp2_with fail
  have hx0 := index3 e s a 0 e rfl rfl
  have hx1 := index3 e s a 1 s rfl rfl
  have hx2 := index3 e s a 2 a rfl rfl
  have HB := Aside0.mk (below_alloc (Below.refl w.heap.size w) (.cells #[.int .i64 e, .int .i64 s, .int .i64 a, .string d] 23))
  go_loopw [12] (fun i wr => ∃ k : Nat, k ≤ 3 ∧ i = .int .i64 (k : Int) ∧ (0 < k → numB e = true) ∧ (1 < k → numB s = true) ∧ (2 < k → numB a = true) ∧ wr = w.alloc (.cells #[.int .i64 e, .int .i64 s, .int .i64 a, .string d] 23)) (fun i _ => 3 - (intOf i).toNat)
  case atStart => exact ⟨0, by omega, rfl, fun h => absurd h (by omega), fun h => absurd h (by omega), fun h => absurd h (by omega), rfl⟩
  case round =>
    obtain ⟨k, hk, rfl, hn0, hn1, hn2, rfl⟩ := hrel
    have h5 : k = 0 ∨ k = 1 ∨ k = 2 ∨ k = 3 := by omega
    clear hk
    rcases h5 with rfl | rfl | rfl | rfl
    · by_cases h1 : e < 0
      · go_wp2_with fail
        go_ret
        exact ⟨by rw [HGD.out, show numB e = false from numB_low h1]; simp, HB.out⟩
      · by_cases h2 : 4611686018427387904 < e
        · have h3 : decide (e < 0) = false := by simp; omega
          go_wp2_with fail
          go_ret
          exact ⟨by rw [HGD.out, show numB e = false from numB_high h2]; simp, HB.out⟩
        · have h3 : decide (e < 0) = false := by simp; omega
          have h4 : decide (4611686018427387904 < e) = false := by simp; omega
          have HN := Aside0.mk (show numB e = true from numB_ok (by omega) (by omega))
          go_wp2_with fail
          go_roundw
          case rel => exact ⟨1, by omega, rfl, fun _ => HN.out, fun h => absurd h (by omega), fun h => absurd h (by omega), by first | rfl | trivial⟩
          case measure => simp [intOf]
    · by_cases h1 : s < 0
      · go_wp2_with fail
        go_ret
        exact ⟨by rw [HGD.out, show numB s = false from numB_low h1]; simp, HB.out⟩
      · by_cases h2 : 4611686018427387904 < s
        · have h3 : decide (s < 0) = false := by simp; omega
          go_wp2_with fail
          go_ret
          exact ⟨by rw [HGD.out, show numB s = false from numB_high h2]; simp, HB.out⟩
        · have h3 : decide (s < 0) = false := by simp; omega
          have h4 : decide (4611686018427387904 < s) = false := by simp; omega
          have HN := Aside0.mk (show numB s = true from numB_ok (by omega) (by omega))
          go_wp2_with fail
          go_roundw
          case rel => exact ⟨2, by omega, rfl, fun _ => hn0 (by omega), fun _ => HN.out, fun h => absurd h (by omega), by first | rfl | trivial⟩
          case measure => simp [intOf]
    · by_cases h1 : a < 0
      · go_wp2_with fail
        go_ret
        exact ⟨by rw [HGD.out, show numB a = false from numB_low h1]; simp, HB.out⟩
      · by_cases h2 : 4611686018427387904 < a
        · have h3 : decide (a < 0) = false := by simp; omega
          go_wp2_with fail
          go_ret
          exact ⟨by rw [HGD.out, show numB a = false from numB_high h2]; simp, HB.out⟩
        · have h3 : decide (a < 0) = false := by simp; omega
          have h4 : decide (4611686018427387904 < a) = false := by simp; omega
          have HN := Aside0.mk (show numB a = true from numB_ok (by omega) (by omega))
          go_wp2_with fail
          go_roundw
          case rel => exact ⟨3, by omega, rfl, fun _ => hn0 (by omega), fun _ => hn1 (by omega), fun _ => HN.out, by first | rfl | trivial⟩
          case measure => simp [intOf]
    · have N0 := Aside0.mk (hn0 (by omega))
      have N1 := Aside0.mk (hn1 (by omega))
      have N2 := Aside0.mk (hn2 (by omega))
      clear hn0 hn1 hn2
      by_cases h1 : (d.size : Int) ≤ 65536
      · by_cases h2 : 0 < s
        · go_wp2_with fail
          go_ret
          exact ⟨by rw [HGD.out, N0.out, N1.out, N2.out, decide_eq_true (show d.size ≤ 65536 by omega), decide_eq_true h2]; rfl, HB.out⟩
        · have h3 : decide (0 < s) = false := by simp; omega
          by_cases h4 : d.size = 0
          · have h5 : (d.toList == ([] : List UInt8)) = true := by rw [HE.out]; simpa using h4
            have HZ := Aside0.mk (decide_eq_true h4)
            have h6 : d.toList = [] := by simpa using h5
            clear h4
            go_wp2_with fail
            go_ret
            exact ⟨by rw [HGD.out, N0.out, N1.out, N2.out, decide_eq_true (show d.size ≤ 65536 by omega), HZ.out]; simp; first | rfl | skip, HB.out⟩
          · have h5 : (d.toList == ([] : List UInt8)) = false := by rw [HE.out]; simpa using h4
            have HZ := Aside0.mk (decide_eq_false h4)
            have h6 : ¬ d.toList = [] := by simpa using h5
            clear h4
            go_wp2_with fail
            go_ret
            exact ⟨by rw [HGD.out, N0.out, N1.out, N2.out, decide_eq_true (show d.size ≤ 65536 by omega), HZ.out, h3]; simp; first | rfl | skip, HB.out⟩
      · have h2 : (65536 : Int) < (d.size : Int) := by omega
        have HZ := Aside0.mk (show decide (d.size ≤ 65536) = false by simp; omega)
        go_wp2_with fail
        go_ret
        exact ⟨by rw [HGD.out, HZ.out]; simp; first | rfl | skip, HB.out⟩

set_option maxHeartbeats 2000000 in
set_option maxRecDepth 100000 in
theorem body_c (p : Pk) (w : World) (hd : p.d.size ≤ 140737488000000) : Calls Try.prog 37 #[p.val] w fun e w' => ∃ v, e = .returned v ∧ Gr w.heap.size 5 w' v (body p) ∧ Below w.heap.size w w' := by
  obtain ⟨e, s, a, d⟩ := p
  unfold Pk.val body
  simp only at hd ⊢
  have HD := Aside0.mk hd
  have hx0 := index3 e s a 0 e rfl rfl
  have hx1 := index3 e s a 1 s rfl rfl
  have hx2 := index3 e s a 2 a rfl rfl
  have q1 := putL_len [] e
  have q2 := putL_len (putL [] e) s
  have q3 := putL_len (putL (putL [] e) s) a
  simp only [List.length_nil] at q1
  have Q1 := Aside0.mk q1
  have Q2 := Aside0.mk q2
  have Q3 := Aside0.mk q3
  clear hd q1 q2 q3
  go_enter Try.func37, Try.ntmps37
  go_wp2_with fail
  have hh := Own.heap_new w (.cells #[.int .i64 e, .int .i64 s, .int .i64 a, .string d] 23)
  have HH := Aside0.mk hh
  have hsz : w.heap.size < (w.alloc (.cells #[.int .i64 e, .int .i64 s, .int .i64 a, .string d] 23)).heap.size := by simp
  have HB := Aside0.mk (below_alloc (Below.refl w.heap.size w) (.cells #[.int .i64 e, .int .i64 s, .int .i64 a, .string d] 23))
  obtain ⟨w0, hw0⟩ : ∃ w0, w0 = w.alloc (.cells #[.int .i64 e, .int .i64 s, .int .i64 a, .string d] 23) := ⟨_, rfl⟩
  rw [← hw0] at HH HB hsz ⊢
  have HSZ := Aside0.mk hsz
  clear hw0 hh hsz
  go_loopw [3, 13] (fun bv i wr => ∃ (k : Nat) (l : List Int), k ≤ 3 ∧ i = .int .i64 (k : Int) ∧ Sl wr bv l ∧ (k = 0 → l = []) ∧ (k = 1 → l = putL [] e) ∧ (k = 2 → l = putL (putL [] e) s) ∧ (k = 3 → l = putL (putL (putL [] e) s) a) ∧ Below w.heap.size w wr ∧ wr.heap[w.heap.size]? = some (.cells #[.int .i64 e, .int .i64 s, .int .i64 a, .string d] 23 (0, 0))) (fun _ i _ => 3 - (intOf i).toNat)
  case atStart => exact ⟨0, [], by omega, rfl, Sl.nil _, fun _ => rfl, fun h => absurd h (by omega), fun h => absurd h (by omega), fun h => absurd h (by omega), HB.out, HH.out⟩
  case round =>
    clear HB HH
    obtain ⟨k, l, hk, rfl, hs, l0, l1, l2, l3, hb, hh⟩ := hrel
    have HS := Aside0.mk hs
    have HB := Aside0.mk hb
    have HH := Aside0.mk hh
    have h5 : k = 0 ∨ k = 1 ∨ k = 2 ∨ k = 3 := by omega
    clear hk hs hb hh
    rcases h5 with rfl | rfl | rfl | rfl
    · have L := Aside0.mk (l0 rfl)
      clear l0 l1 l2 l3
      go_wp2_with fail
      refine (VaryP.nPut _ l e _ HS.out (by rw [L.out]; have := Q1.out; have := Q2.out; have := Q3.out; (try simp only [List.length_nil]); omega)).mono ?_
      rintro e1 w1 ⟨v1, rfl, hg, hb⟩
      have HS1 := Aside0.mk hg.sl
      rw [L.out] at HS1
      have HB1 := Aside0.mk (HB.out.trans (hb.mono HB.out.size))
      have HH1 := Aside0.mk ((hb.block _ (Array.getElem?_eq_some_iff.1 HH.out).1).trans HH.out)
      clear hg hb
      go_wp2_with fail
      go_roundw
      case rel => exact ⟨1, _, by omega, rfl, HS1.out, fun h => absurd h (by omega), fun _ => rfl, fun h => absurd h (by omega), fun h => absurd h (by omega), HB1.out, HH1.out⟩
      case measure => simp [intOf]
    · have L := Aside0.mk (l1 rfl)
      clear l0 l1 l2 l3
      go_wp2_with fail
      refine (VaryP.nPut _ l s _ HS.out (by rw [L.out]; have := Q1.out; have := Q2.out; have := Q3.out; (try simp only [List.length_nil]); omega)).mono ?_
      rintro e1 w1 ⟨v1, rfl, hg, hb⟩
      have HS1 := Aside0.mk hg.sl
      rw [L.out] at HS1
      have HB1 := Aside0.mk (HB.out.trans (hb.mono HB.out.size))
      have HH1 := Aside0.mk ((hb.block _ (Array.getElem?_eq_some_iff.1 HH.out).1).trans HH.out)
      clear hg hb
      go_wp2_with fail
      go_roundw
      case rel => exact ⟨2, _, by omega, rfl, HS1.out, fun h => absurd h (by omega), fun h => absurd h (by omega), fun _ => rfl, fun h => absurd h (by omega), HB1.out, HH1.out⟩
      case measure => simp [intOf]
    · have L := Aside0.mk (l2 rfl)
      clear l0 l1 l2 l3
      go_wp2_with fail
      refine (VaryP.nPut _ l a _ HS.out (by rw [L.out]; have := Q1.out; have := Q2.out; have := Q3.out; (try simp only [List.length_nil]); omega)).mono ?_
      rintro e1 w1 ⟨v1, rfl, hg, hb⟩
      have HS1 := Aside0.mk hg.sl
      rw [L.out] at HS1
      have HB1 := Aside0.mk (HB.out.trans (hb.mono HB.out.size))
      have HH1 := Aside0.mk ((hb.block _ (Array.getElem?_eq_some_iff.1 HH.out).1).trans HH.out)
      clear hg hb
      go_wp2_with fail
      go_roundw
      case rel => exact ⟨3, _, by omega, rfl, HS1.out, fun h => absurd h (by omega), fun h => absurd h (by omega), fun h => absurd h (by omega), fun _ => rfl, HB1.out, HH1.out⟩
      case measure => simp [intOf]
    · have L := Aside0.mk (l3 rfl)
      clear l0 l1 l2 l3
      have hc3 : wr.cell? ⟨w.heap.size, 3, none⟩ = some (.string d) := by rw [cell_of_row wr _ 3 _ _ _ HH.out]; rfl
      go_wp2_with fail
      refine (VaryP.nPutText _ l d _ HS.out (by rw [L.out]; have := Q1.out; have := Q2.out; have := Q3.out; have := HD.out; omega)).mono ?_
      rintro e1 w1 ⟨v1, rfl, hg, hb⟩
      have HG1 := Aside0.mk (hg.mono HB.out.size)
      rw [L.out] at HG1
      have HB1 := Aside0.mk (HB.out.trans (hb.mono HB.out.size))
      clear hg hb
      go_wp2_with fail
      go_ret
      exact ⟨_, rfl, HG1.out, HB1.out⟩
set_option maxHeartbeats 2000000 in
set_option maxRecDepth 100000 in
theorem put_c (p : Pk) (w : World) : Calls Try.prog 13 #[p.val] w fun e w' => ∃ v, e = .returned (.tuple #[v, .int .i64 (if good p then 0 else 2)]) ∧ Gr w.heap.size 5 w' v (if good p then frame p else []) ∧ Below w.heap.size w w' := by
  have HL := Aside0.mk (frame_len p)
  have HBL := Aside0.mk (body_len p)
  have HPV := Aside0.mk (show p.val = .agg #[.int .i64 p.e, .int .i64 p.s, .int .i64 p.a, .string p.d] from rfl)
  have HGD := Aside0.mk (show good p = true → p.d.size ≤ 65536 by
    intro h
    unfold good at h
    simp only [Bool.and_eq_true, decide_eq_true_eq] at h
    exact h.1.2)
  have hg := good_c p
  have hbd := body_c p
  rw [HPV.out] at hg hbd ⊢
  have HG := Aside0.mk hg
  have HBD := Aside0.mk hbd
  have HF := Aside0.mk (show frame p = putL [] ((body p).length : Int) ++ Nice.sealL (body p) from rfl)
  clear hg hbd HPV
  cases hgp : good p with
  | false =>
    rw [hgp] at HG
    clear hgp
    go_enter Try.func13, Try.ntmps13
    go_wp2_with fail
    refine (HG.out _).mono ?_
    rintro e w1 ⟨rfl, hb⟩
    have HB1 := Aside0.mk ((below_alloc (Below.refl w.heap.size w) _).trans (hb.mono (by simp)))
    clear hb
    go_wp2_with fail
    go_ret2
    exact ⟨_, rfl, Gr.nil _ _ _, HB1.out⟩
  | true =>
    rw [hgp] at HG
    have hd := HGD.out hgp
    clear hgp
    have HD := Aside0.mk hd
    have hbl : ((body p).length : Int) ≤ 65572 := by have := HBL.out; omega
    clear hd
    go_enter Try.func13, Try.ntmps13
    go_wp2_with fail
    obtain ⟨w0, hw0⟩ : ∃ w0, w0 = w.alloc (.cells #[.int .i64 p.e, .int .i64 p.s, .int .i64 p.a, .string p.d] 23) := ⟨_, rfl⟩
    have HB0 := Aside0.mk (show Below w.heap.size w w0 by rw [hw0]; exact below_alloc (Below.refl _ _) _)
    have HH0 := Aside0.mk (show w0.heap[w.heap.size]? = some (.cells #[.int .i64 p.e, .int .i64 p.s, .int .i64 p.a, .string p.d] 23 (0, 0)) by rw [hw0]; exact Own.heap_new _ _)
    rw [← hw0]
    clear hw0
    refine (HG.out _).mono ?_
    rintro e w1 ⟨rfl, hb⟩
    have HB1 := Aside0.mk (HB0.out.trans (hb.mono HB0.out.size))
    have hh1 := (hb.block _ (Array.getElem?_eq_some_iff.1 HH0.out).1).trans HH0.out
    have c0 : w1.cell? ⟨w.heap.size, 0, none⟩ = some (.int .i64 p.e) := by rw [cell_of_row w1 _ 0 _ _ _ hh1]; rfl
    have c1 : w1.cell? ⟨w.heap.size, 1, none⟩ = some (.int .i64 p.s) := by rw [cell_of_row w1 _ 1 _ _ _ hh1]; rfl
    have c2 : w1.cell? ⟨w.heap.size, 2, none⟩ = some (.int .i64 p.a) := by rw [cell_of_row w1 _ 2 _ _ _ hh1]; rfl
    have c3 : w1.cell? ⟨w.heap.size, 3, none⟩ = some (.string p.d) := by rw [cell_of_row w1 _ 3 _ _ _ hh1]; rfl
    clear hh1
    clear hb HB0 HH0
    go_wp2_with fail
    refine (HBD.out _ (by have := HD.out; omega)).mono ?_
    rintro e w2 ⟨v2, rfl, hg2, hb2⟩
    have hs2 := hg2.sl
    obtain ⟨A2, cc2, rfl, hc2, hC2⟩ := hs2
    have HS2 := Aside0.mk (Sl.mk hC2 hc2)
    have HB2 := Aside0.mk (HB1.out.trans (hb2.mono HB1.out.size))
    clear hg2 hb2 hC2 HB1 c0 c1 c2 c3
    go_wp2_with fail
    refine (VaryP.nPut _ [] ((body p).length : Int) _ (Sl.nil _) (by decide)).mono ?_
    rintro e w3 ⟨v3, rfl, hg3, hb3⟩
    have HG3 := Aside0.mk (hg3.mono HB2.out.size)
    have HS3 := Aside0.mk (HS2.out.below hb3)
    have HB3 := Aside0.mk (HB2.out.trans (hb3.mono HB2.out.size))
    clear hg3 hb3 HS2 HB2
    go_wp2_with fail
    refine (Nice.nSeal _ (body p) _ HS3.out (by have := HBL.out; have := HD.out; omega)).mono ?_
    rintro e w4 ⟨v4, rfl, hs4, hb4⟩
    have HG4 := Aside0.mk (HG3.out.below hb4)
    have HS4 := Aside0.mk hs4
    have HB4 := Aside0.mk (HB3.out.trans (hb4.mono HB3.out.size))
    clear hs4 hb4 HG3 HS3 HB3
    go_wp2_with (at_builtin; refine wpList_gr rfl rfl Try.underlying25 info5 HB4.out.size rfl HG4.out rfl HS4.out ?b1 ?_)
    case b1 => have := HL.out; rw [HF.out, List.length_append] at this; have := HD.out; omega
    rw [← HF.out]
    intro v5 w5 hg5 hb5
    have HG5 := Aside0.mk hg5
    have HB5 := Aside0.mk (HB4.out.trans hb5)
    clear hg5 hb5 HG4 HS4 HB4
    go_wp2_with fail
    go_ret2
    exact ⟨_, rfl, HG5.out, HB5.out⟩

/-! The reference's. -/
theorem num_f (n : Int) : variorumref12_num.f n = some (numB n) := by
  unfold variorumref12_num.f numB
  by_cases h : n ≥ 0
  · rw [if_pos h, decide_eq_true (show 0 ≤ n from h), Bool.true_and]
  · rw [if_neg h, decide_eq_false (show ¬ 0 ≤ n from h), Bool.false_and]
theorem rgood_f (p : Pk) : variorumref12_Good.f p.e p.s p.a p.d = some (good p) := by
  unfold variorumref12_Good.f good
  rw [num_f, Option.bind_some]
  cases numB p.e with
  | false => simp
  | true =>
    rw [if_pos rfl, num_f, Option.bind_some]
    cases numB p.s with
    | false => simp
    | true =>
      rw [if_pos rfl, num_f, Option.bind_some]
      cases numB p.a with
      | false => simp
      | true =>
        rw [if_pos rfl]
        by_cases h : (p.d.size : Int) ≤ 65536
        · rw [if_pos h, decide_eq_true (show p.d.size ≤ 65536 by omega)]
          by_cases h2 : p.s > 0
          · rw [if_pos h2, decide_eq_true (show 0 < p.s from h2)]; rfl
          · rw [if_neg h2, decide_eq_false (show ¬ 0 < p.s from h2), empty_iff]; simp
        · rw [if_neg h, decide_eq_false (show ¬ p.d.size ≤ 65536 by omega)]; simp
theorem rbody_f (p : Pk) (k : Nat) (hk : 10 ≤ k) (hd : p.d.size ≤ 140737488000000) : variorumref12_body.f k p.e p.s p.a p.d = some (body p) := by
  have q1 := putL_len [] p.e
  have q2 := putL_len (putL [] p.e) p.s
  have q3 := putL_len (putL (putL [] p.e) p.s) p.a
  simp only [List.length_nil] at q1
  unfold variorumref12_body.f
  rw [VaryRef.put_f _ _ _ hk (by simp), Option.bind_some, VaryRef.put_f _ _ _ hk (by omega), Option.bind_some, VaryRef.put_f _ _ _ hk (by omega), Option.bind_some, VaryRef.putT_f _ _ _ hk (by omega)]
  rfl
theorem rput_f (p : Pk) : ∃ k, variorumref12_Put.f k p.e p.s p.a p.d = some (if good p then frame p else [], if good p then 0 else 2) := by
  cases hg : good p with
  | false =>
    refine ⟨10, ?_⟩
    unfold variorumref12_Put.f
    rw [rgood_f, Option.bind_some, hg]; rfl
  | true =>
    have hd : p.d.size ≤ 65536 := by
      unfold good at hg
      simp only [Bool.and_eq_true, decide_eq_true_eq] at hg
      exact hg.1.2
    have hb := body_len p
    have q := putL_len [] ((body p).length : Int)
    simp only [List.length_nil] at q
    refine ⟨(body p).length + 10, ?_⟩
    unfold variorumref12_Put.f
    rw [rgood_f, Option.bind_some, hg, if_pos rfl, rbody_f p _ (by omega) (by omega), Option.bind_some, VaryRef.put_f _ _ _ (by omega) (by simp), Option.bind_some, RefSum.seal_f _ (by omega) _ (Nat.le_refl _), Option.bind_some]
    rw [if_pos (by rw [List.length_append]; have : (Crc.le4 (Crc.sum (body p))).length = 4 := rfl; omega)]
    rfl
theorem nRefGood (p : Pk) (w : World) : Calls Try.prog 16 #[p.val] w fun e w' => e = .returned (.bool (good p)) ∧ Below w.heap.size w w' :=
  variorumref12_Good.calls p.e p.s p.a p.d _ w (rgood_f p)
theorem nRefPut (p : Pk) (w : World) : Calls Try.prog 14 #[p.val] w fun e w' => ∃ v, e = .returned (.tuple #[v, .int .i64 (if good p then 0 else 2)]) ∧ Gr w.heap.size 5 w' v (if good p then frame p else []) ∧ Below w.heap.size w w' := by
  obtain ⟨k, hk⟩ := rput_f p
  exact (variorumref12_Put.calls k p.e p.s p.a p.d _ _ w hk).mono fun e w' ⟨v, he, hr, hb⟩ => ⟨v, he, Gr.of_R hr, hb⟩
end Go.Proofs.Ytedfcjcnhgomoaa.FrameP

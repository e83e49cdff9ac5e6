/- The walks of vary's writers: what they put. -/
import Derived.Test.YtedfcjcnhgomoaaPBase
import Derived.Test.YtedfcjcnhgomoaaGr
import Derived.Test.YtedfcjcnhgomoaaVaryL
import Derived.Outline
namespace Go.Proofs.Ytedfcjcnhgomoaa.VaryP
open Go.RowKit Go.Proofs.Ytedfcjcnhgomoaa.P Go.Proofs.YtedfcjcnhgomoaaW.PrintWords Go.Proofs.YtedfcjcnhgomoaaW.PrintLast Go.Proofs.YtedfcjcnhgomoaaW.PrintMore Go.Proofs.Ytedfcjcnhgomoaa.Own Go.Proofs.Ytedfcjcnhgomoaa.Vy

set_option maxHeartbeats 1000000 in
set_option maxRecDepth 100000 in
theorem put_c (v : Value) (l : List Int) (n : Nat) (w : World) (hs : Sl w v l) (hl : l.length ≤ 140737488355000) (hn : n ≤ 4611686018427387904) :
    Calls Try.prog 38 #[v, .int .i64 (n : Int)] w fun e w' => ∃ v', e = .returned v' ∧ Gr w.heap.size 5 w' v' (l ++ enc n) ∧ Below w.heap.size w w' := by
  obtain ⟨A, c, rfl, hc, hC⟩ := hs
  have HG := Aside0.mk (Gr.cut w.heap.size 5 (Sl.mk hC hc))
  have HL := Aside0.mk hl
  have h63 : (l.length : Int) ≤ 140737488355000 := by omega
  have g1 : decide (4611686018427387904 < (n : Int)) = false := by simp; omega
  have g0 : decide ((n : Int) < 0) = false := by simp
  have HN := Aside0.mk hn
  clear hC hl hn
  go_enter Try.func38, Try.ntmps38
  go_wp2_with fail
  go_loopw [0, 1] (fun sv nv wr => ∃ (ys : List Int) (m : Nat), nv = .int .i64 (m : Int) ∧ m ≤ 4611686018427387904 ∧ Gr w.heap.size 5 wr sv ys ∧ ys ++ enc m = l ++ enc n ∧ Below w.heap.size w wr) (fun _ nv _ => (intOf nv).toNat)
  case atStart => exact ⟨l, n, rfl, HN.out, HG.out, rfl, Below.refl _ _⟩
  case round =>
    obtain ⟨ys, m, rfl, hm, hg, he, hb⟩ := hrel
    have HGR := Aside0.mk hg
    have HE := Aside0.mk he
    have HB := Aside0.mk hb
    clear hg he hb
    have HM := Aside0.mk hm
    by_cases hlt : m < 128
    · skip
      go_wp2_with (at_builtin; refine wpList_gr rfl rfl Try.underlying25 info5 ?hB rfl (HGR.out.alloc _) rfl (Sl.one _ _ _ _) ?b1 ?_)
      case hB => have := HB.out.size; simp; omega
      case b1 => have := HE.out; have h2 := congrArg List.length this; rw [List.length_append, List.length_append] at h2; have := enc_len9 HN.out; have := enc_pos m; have := HL.out; simp; omega
      intro v' w' hg hb
      clear HGR
      have hx : ∀ x : Int, x = (m : Int) → Gr w.heap.size 5 w' v' (ys ++ [x]) → Gr w.heap.size 5 w' v' (l ++ enc n) := fun x e h => by
        have he := HE.out
        rw [enc_lt hlt] at he
        rw [← he, ← e]; exact h
      have HR := Aside0.mk (hx _ (by omega) hg)
      have HBR := Aside0.mk ((below_alloc HB.out _).trans hb)
      clear hg hb hx
      go_wp2_with fail
      go_ret
      exact ⟨v', rfl, HR.out, HBR.out⟩
    · skip
      go_wp2_with (at_builtin; refine wpList_gr rfl rfl Try.underlying25 info5 ?hB rfl (HGR.out.alloc _) rfl (Sl.one _ _ _ _) ?b1 ?_)
      case hB => have := HB.out.size; simp; omega
      case b1 => have := HE.out; have h2 := congrArg List.length this; rw [List.length_append, List.length_append] at h2; have := enc_len9 HN.out; have := enc_pos m; have := HL.out; simp; omega
      intro v' w' hg hb
      clear HGR
      have hx : ∀ x : Int, x = ((m % 128 + 128 : Nat) : Int) → Gr w.heap.size 5 w' v' (ys ++ [x]) → Gr w.heap.size 5 w' v' (ys ++ [((m % 128 + 128 : Nat) : Int)]) := fun x e h => by rw [← e]; exact h
      have HR := Aside0.mk (hx _ (by omega) hg)
      have HBR := Aside0.mk ((below_alloc HB.out _).trans hb)
      have HE2 := Aside0.mk (show (ys ++ [((m % 128 + 128 : Nat) : Int)]) ++ enc (m / 128) = l ++ enc n by rw [List.append_assoc, ← HE.out, enc_ge (n := m) (by omega)]; rfl)
      clear hg hb hx
      go_wp2_with fail
      go_roundw
      case rel => exact ⟨_, m / 128, by go_num, by omega, HR.out, HE2.out, HBR.out⟩
      case measure => simp [intOf]; omega
theorem put_bad (v : Value) (l : List Int) (n : Int) (w : World) (hs : Sl w v l) (hl : l.length ≤ 140737488355000) (hn : n < 0 ∨ 4611686018427387904 < n) :
    Calls Try.prog 38 #[v, .int .i64 n] w fun e w' => ∃ v', e = .returned v' ∧ Gr w.heap.size 5 w' v' l ∧ Below w.heap.size w w' := by
  obtain ⟨A, c, rfl, hc, hC⟩ := hs
  have HG := Aside0.mk (Gr.cut w.heap.size 5 (Sl.mk hC hc))
  have h63 : (l.length : Int) ≤ 140737488355000 := by omega
  clear hC hl
  rcases hn with h | h
  · go_enter Try.func38, Try.ntmps38
    go_wp2_with fail
    go_ret
    exact ⟨_, rfl, HG.out, Below.refl _ _⟩
  · have h0 : decide (n < 0) = false := by simp; omega
    go_enter Try.func38, Try.ntmps38
    go_wp2_with fail
    go_ret
    exact ⟨_, rfl, HG.out, Below.refl _ _⟩
theorem nPut (v : Value) (l : List Int) (n : Int) (w : World) (hs : Sl w v l) (hl : l.length ≤ 140737488355000) :
    Calls Try.prog 38 #[v, .int .i64 n] w fun e w' => ∃ v', e = .returned v' ∧ Gr w.heap.size 5 w' v' (putL l n) ∧ Below w.heap.size w w' := by
  unfold putL
  by_cases h : n < 0 ∨ M < n
  · rw [if_pos h]; exact put_bad v l n w hs hl h
  · obtain ⟨m, rfl⟩ : ∃ m : Nat, n = (m : Int) := ⟨n.toNat, by omega⟩
    rw [if_neg h, Int.toNat_natCast]
    exact put_c v l m w hs hl (by have : M = 4611686018427387904 := rfl; omega)
set_option maxHeartbeats 1000000 in
set_option maxRecDepth 100000 in
theorem nPutSigned (v : Value) (l : List Int) (n : Int) (w : World) (hs : Sl w v l) (hl : l.length ≤ 140737488355000) :
    Calls Try.prog 92 #[v, .int .i64 n] w fun e w' => ∃ v', e = .returned v' ∧ Gr w.heap.size 5 w' v' (putSL l n) ∧ Below w.heap.size w w' := by
  have HC := hs
  obtain ⟨A, c, rfl, hc, hC⟩ := hs
  have HG := Aside0.mk (Gr.cut w.heap.size 5 (Sl.mk hC hc))
  have HS := Aside0.mk HC
  have HL := Aside0.mk hl
  have h63 : (l.length : Int) ≤ 140737488355000 := by omega
  clear hC hl HC
  unfold putSL
  by_cases h1 : n < -2305843009213693952
  · rw [if_pos (.inl h1)]
    go_enter Try.func92, Try.ntmps92
    go_wp2_with fail
    go_ret
    exact ⟨_, rfl, HG.out, Below.refl _ _⟩
  · have g1 : decide (n < -2305843009213693952) = false := by simp; omega
    by_cases h2 : 2305843009213693952 < n
    · rw [if_pos (.inr h2)]
      go_enter Try.func92, Try.ntmps92
      go_wp2_with fail
      go_ret
      exact ⟨_, rfl, HG.out, Below.refl _ _⟩
    · have g2 : decide (2305843009213693952 < n) = false := by simp; omega
      rw [if_neg (by omega)]
      by_cases h3 : n < 0
      · have HZ := Aside0.mk (show zig n = -2 * n - 1 by unfold zig; rw [if_pos h3])
        go_enter Try.func92, Try.ntmps92
        go_wp2_with fail
        rw [← HZ.out]
        refine (nPut _ l (zig n) _ HS.out HL.out).mono ?_
        rintro e w1 ⟨v', rfl, hg, hb⟩
        have HG1 := Aside0.mk hg
        have HB1 := Aside0.mk hb
        clear hg hb
        go_wp2_with fail
        go_ret
        exact ⟨_, rfl, HG1.out, HB1.out⟩
      · have HZ := Aside0.mk (show zig n = 2 * n by unfold zig; rw [if_neg h3])
        go_enter Try.func92, Try.ntmps92
        go_wp2_with fail
        rw [← HZ.out]
        refine (nPut _ l (zig n) _ HS.out HL.out).mono ?_
        rintro e w1 ⟨v', rfl, hg, hb⟩
        have HG1 := Aside0.mk hg
        have HB1 := Aside0.mk hb
        clear hg hb
        go_wp2_with fail
        go_ret
        exact ⟨_, rfl, HG1.out, HB1.out⟩
set_option maxHeartbeats 1000000 in
set_option maxRecDepth 100000 in
theorem nPutText (v : Value) (l : List Int) (s : ByteArray) (w : World) (hs : Sl w v l) (hl : l.length + s.size ≤ 140737488355000) :
    Calls Try.prog 60 #[v, .string s] w fun e w' => ∃ v', e = .returned v' ∧ Gr w.heap.size 5 w' v' (putTL l (numsOf s)) ∧ Below w.heap.size w w' := by
  have HS := Aside0.mk hs
  have HL := Aside0.mk hl
  obtain ⟨A, c, rfl, hc, hC⟩ := hs
  have h63 : (s.size : Int) ≤ 140737488355000 := by omega
  clear hC hl
  go_enter Try.func60, Try.ntmps60
  go_wp2_with fail
  refine (nPut _ l (s.size : Int) _ HS.out (by have := HL.out; omega)).mono ?_
  rintro e w1 ⟨v', rfl, hg, hb⟩
  have HG1 := Aside0.mk hg
  have HB1 := Aside0.mk hb
  clear hg hb
  go_wp2_with (at_builtin; refine wpList_gr_str rfl rfl Try.underlying25 Try.underlying9 info5 HB1.out.size rfl HG1.out rfl ?b1 ?_)
  case b1 => have := HL.out; have := putL_len l (s.size : Int); omega
  intro v2 w2 hg hb
  have HG2 := Aside0.mk hg
  have HB2 := Aside0.mk (HB1.out.trans hb)
  clear hg hb HG1 HB1
  go_wp2_with fail
  go_ret
  exact ⟨_, rfl, by unfold putTL; rw [numsOf_length]; exact HG2.out, HB2.out⟩
end Go.Proofs.Ytedfcjcnhgomoaa.VaryP

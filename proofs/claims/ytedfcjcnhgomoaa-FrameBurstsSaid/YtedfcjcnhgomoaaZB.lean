import Derived.Test.YtedfcjcnhgomoaaZA
import Derived.Outline
-- MERGED YtedfcjcnhgomoaaVaryP
section
/- The walks of vary's writers: what they put. -/
namespace Go.Proofs.Ytedfcjcnhgomoaa.VaryP
open Go.RowKit Go.Proofs.Ytedfcjcnhgomoaa.P Go.Proofs.YtedfcjcnhgomoaaW.PrintWords Go.Proofs.YtedfcjcnhgomoaaW.PrintLast Go.Proofs.YtedfcjcnhgomoaaW.PrintMore Go.Proofs.Ytedfcjcnhgomoaa.Own Go.Proofs.Ytedfcjcnhgomoaa.Vy

set_option maxHeartbeats 1000000 in
set_option maxRecDepth 100000 in
theorem put_c (v : Value) (l : List Int) (n : Nat) (w : World) (hs : Sl w v l) (hl : l.length ≤ 140737488355000) (hn : n ≤ 4611686018427387904) :
    Calls Try.prog 38 #[v, .int .i64 (n : Int)] w fun e w' => ∃ v', e = .returned v' ∧ Gr w.heap.size 5 w' v' (l ++ enc n) ∧ Below w.heap.size w w' := by
  obtain ⟨A, c, rfl, hc, hC⟩ := hs
  have HG := Aside0.mk (Gr.cut w.heap.size 5 (Sl.mk hC hc))
  have HL := Aside0.mk hl
  have h63 : (l.length : Int) ≤ 140737488355000 := by omega
  have g1 : decide (4611686018427387904 < (n : Int)) = false := by simp; omega
  have g0 : decide ((n : Int) < 0) = false := by simp
  have HN := Aside0.mk hn
  clear hC hl hn
  go_enter Try.func38, Try.ntmps38
  go_wp2_with fail
  go_loopw [0, 1] (fun sv nv wr => ∃ (ys : List Int) (m : Nat), nv = .int .i64 (m : Int) ∧ m ≤ 4611686018427387904 ∧ Gr w.heap.size 5 wr sv ys ∧ ys ++ enc m = l ++ enc n ∧ Below w.heap.size w wr) (fun _ nv _ => (intOf nv).toNat)
  case atStart => exact ⟨l, n, rfl, HN.out, HG.out, rfl, Below.refl _ _⟩
  case round =>
    obtain ⟨ys, m, rfl, hm, hg, he, hb⟩ := hrel
    have HGR := Aside0.mk hg
    have HE := Aside0.mk he
    have HB := Aside0.mk hb
    clear hg he hb
    have HM := Aside0.mk hm
    by_cases hlt : m < 128
    · skip
      go_wp2_with (at_builtin; refine wpList_gr rfl rfl Try.underlying25 info5 ?hB rfl (HGR.out.alloc _) rfl (Sl.one _ _ _ _) ?b1 ?_)
      case hB => have := HB.out.size; simp; omega
      case b1 => have := HE.out; have h2 := congrArg List.length this; rw [List.length_append, List.length_append] at h2; have := enc_len9 HN.out; have := enc_pos m; have := HL.out; simp; omega
      intro v' w' hg hb
      clear HGR
      have hx : ∀ x : Int, x = (m : Int) → Gr w.heap.size 5 w' v' (ys ++ [x]) → Gr w.heap.size 5 w' v' (l ++ enc n) := fun x e h => by
        have he := HE.out
        rw [enc_lt hlt] at he
        rw [← he, ← e]; exact h
      have HR := Aside0.mk (hx _ (by omega) hg)
      have HBR := Aside0.mk ((below_alloc HB.out _).trans hb)
      clear hg hb hx
      go_wp2_with fail
      go_ret
      exact ⟨v', rfl, HR.out, HBR.out⟩
    · skip
      go_wp2_with (at_builtin; refine wpList_gr rfl rfl Try.underlying25 info5 ?hB rfl (HGR.out.alloc _) rfl (Sl.one _ _ _ _) ?b1 ?_)
      case hB => have := HB.out.size; simp; omega
      case b1 => have := HE.out; have h2 := congrArg List.length this; rw [List.length_append, List.length_append] at h2; have := enc_len9 HN.out; have := enc_pos m; have := HL.out; simp; omega
      intro v' w' hg hb
      clear HGR
      have hx : ∀ x : Int, x = ((m % 128 + 128 : Nat) : Int) → Gr w.heap.size 5 w' v' (ys ++ [x]) → Gr w.heap.size 5 w' v' (ys ++ [((m % 128 + 128 : Nat) : Int)]) := fun x e h => by rw [← e]; exact h
      have HR := Aside0.mk (hx _ (by omega) hg)
      have HBR := Aside0.mk ((below_alloc HB.out _).trans hb)
      have HE2 := Aside0.mk (show (ys ++ [((m % 128 + 128 : Nat) : Int)]) ++ enc (m / 128) = l ++ enc n by rw [List.append_assoc, ← HE.out, enc_ge (n := m) (by omega)]; rfl)
      clear hg hb hx
      go_wp2_with fail
      go_roundw
      case rel => exact ⟨_, m / 128, by go_num, by omega, HR.out, HE2.out, HBR.out⟩
      case measure => simp [intOf]; omega
theorem put_bad (v : Value) (l : List Int) (n : Int) (w : World) (hs : Sl w v l) (hl : l.length ≤ 140737488355000) (hn : n < 0 ∨ 4611686018427387904 < n) :
    Calls Try.prog 38 #[v, .int .i64 n] w fun e w' => ∃ v', e = .returned v' ∧ Gr w.heap.size 5 w' v' l ∧ Below w.heap.size w w' := by
  obtain ⟨A, c, rfl, hc, hC⟩ := hs
  have HG := Aside0.mk (Gr.cut w.heap.size 5 (Sl.mk hC hc))
  have h63 : (l.length : Int) ≤ 140737488355000 := by omega
  clear hC hl
  rcases hn with h | h
  · go_enter Try.func38, Try.ntmps38
    go_wp2_with fail
    go_ret
    exact ⟨_, rfl, HG.out, Below.refl _ _⟩
  · have h0 : decide (n < 0) = false := by simp; omega
    go_enter Try.func38, Try.ntmps38
    go_wp2_with fail
    go_ret
    exact ⟨_, rfl, HG.out, Below.refl _ _⟩
theorem nPut (v : Value) (l : List Int) (n : Int) (w : World) (hs : Sl w v l) (hl : l.length ≤ 140737488355000) :
    Calls Try.prog 38 #[v, .int .i64 n] w fun e w' => ∃ v', e = .returned v' ∧ Gr w.heap.size 5 w' v' (putL l n) ∧ Below w.heap.size w w' := by
  unfold putL
  by_cases h : n < 0 ∨ M < n
  · rw [if_pos h]; exact put_bad v l n w hs hl h
  · obtain ⟨m, rfl⟩ : ∃ m : Nat, n = (m : Int) := ⟨n.toNat, by omega⟩
    rw [if_neg h, Int.toNat_natCast]
    exact put_c v l m w hs hl (by have : M = 4611686018427387904 := rfl; omega)
set_option maxHeartbeats 1000000 in
set_option maxRecDepth 100000 in
theorem nPutSigned (v : Value) (l : List Int) (n : Int) (w : World) (hs : Sl w v l) (hl : l.length ≤ 140737488355000) :
    Calls Try.prog 92 #[v, .int .i64 n] w fun e w' => ∃ v', e = .returned v' ∧ Gr w.heap.size 5 w' v' (putSL l n) ∧ Below w.heap.size w w' := by
  have HC := hs
  obtain ⟨A, c, rfl, hc, hC⟩ := hs
  have HG := Aside0.mk (Gr.cut w.heap.size 5 (Sl.mk hC hc))
  have HS := Aside0.mk HC
  have HL := Aside0.mk hl
  have h63 : (l.length : Int) ≤ 140737488355000 := by omega
  clear hC hl HC
  unfold putSL
  by_cases h1 : n < -2305843009213693952
  · rw [if_pos (.inl h1)]
    go_enter Try.func92, Try.ntmps92
    go_wp2_with fail
    go_ret
    exact ⟨_, rfl, HG.out, Below.refl _ _⟩
  · have g1 : decide (n < -2305843009213693952) = false := by simp; omega
    by_cases h2 : 2305843009213693952 < n
    · rw [if_pos (.inr h2)]
      go_enter Try.func92, Try.ntmps92
      go_wp2_with fail
      go_ret
      exact ⟨_, rfl, HG.out, Below.refl _ _⟩
    · have g2 : decide (2305843009213693952 < n) = false := by simp; omega
      rw [if_neg (by omega)]
      by_cases h3 : n < 0
      · have HZ := Aside0.mk (show zig n = -2 * n - 1 by unfold zig; rw [if_pos h3])
        go_enter Try.func92, Try.ntmps92
        go_wp2_with fail
        rw [← HZ.out]
        refine (nPut _ l (zig n) _ HS.out HL.out).mono ?_
        rintro e w1 ⟨v', rfl, hg, hb⟩
        have HG1 := Aside0.mk hg
        have HB1 := Aside0.mk hb
        clear hg hb
        go_wp2_with fail
        go_ret
        exact ⟨_, rfl, HG1.out, HB1.out⟩
      · have HZ := Aside0.mk (show zig n = 2 * n by unfold zig; rw [if_neg h3])
        go_enter Try.func92, Try.ntmps92
        go_wp2_with fail
        rw [← HZ.out]
        refine (nPut _ l (zig n) _ HS.out HL.out).mono ?_
        rintro e w1 ⟨v', rfl, hg, hb⟩
        have HG1 := Aside0.mk hg
        have HB1 := Aside0.mk hb
        clear hg hb
        go_wp2_with fail
        go_ret
        exact ⟨_, rfl, HG1.out, HB1.out⟩
set_option maxHeartbeats 1000000 in
set_option maxRecDepth 100000 in
theorem nPutText (v : Value) (l : List Int) (s : ByteArray) (w : World) (hs : Sl w v l) (hl : l.length + s.size ≤ 140737488355000) :
    Calls Try.prog 60 #[v, .string s] w fun e w' => ∃ v', e = .returned v' ∧ Gr w.heap.size 5 w' v' (putTL l (numsOf s)) ∧ Below w.heap.size w w' := by
  have HS := Aside0.mk hs
  have HL := Aside0.mk hl
  obtain ⟨A, c, rfl, hc, hC⟩ := hs
  have h63 : (s.size : Int) ≤ 140737488355000 := by omega
  clear hC hl
  go_enter Try.func60, Try.ntmps60
  go_wp2_with fail
  refine (nPut _ l (s.size : Int) _ HS.out (by have := HL.out; omega)).mono ?_
  rintro e w1 ⟨v', rfl, hg, hb⟩
  have HG1 := Aside0.mk hg
  have HB1 := Aside0.mk hb
  clear hg hb
  go_wp2_with (at_builtin; refine wpList_gr_str rfl rfl Try.underlying25 Try.underlying9 info5 HB1.out.size rfl HG1.out rfl ?b1 ?_)
  case b1 => have := HL.out; have := putL_len l (s.size : Int); omega
  intro v2 w2 hg hb
  have HG2 := Aside0.mk hg
  have HB2 := Aside0.mk (HB1.out.trans hb)
  clear hg hb HG1 HB1
  go_wp2_with fail
  go_ret
  exact ⟨_, rfl, by unfold putTL; rw [numsOf_length]; exact HG2.out, HB2.out⟩
end Go.Proofs.Ytedfcjcnhgomoaa.VaryP
end
-- MERGED YtedfcjcnhgomoaaPvariorumref12num
section
-- Written by wip/myprint.py of this session, over the kit's print.py: a Lean function for each Go function, and the proof that the code comes to it.
namespace Go.Proofs.Ytedfcjcnhgomoaa.P
open Go.RowKit Go.Proofs.YtedfcjcnhgomoaaW.PrintWords Go.Proofs.YtedfcjcnhgomoaaW.PrintLast Go.Proofs.YtedfcjcnhgomoaaW.PrintMore
attribute [local go_sem] max2_int min2_int max_two min_two max_three min_three max_four min_four   -- for this text's walks alone
set_option linter.unusedVariables false
set_option linter.unusedSimpArgs false

/-! ### variorumref12_num: function 43 -/
def variorumref12_num.f (a0 : Int) : Option (Bool) := if a0 ≥ 0 then (some (decide (a0 ≤ 4611686018427387904))) else (some false)
set_option maxHeartbeats 8000000 in
set_option maxRecDepth 100000 in
theorem variorumref12_num.calls (a0 : Int) (r : Bool) (w : World) (h : variorumref12_num.f a0 = some r) :
    Calls Try.prog 43 #[.int .i64 a0] w fun e w' => e = .returned (.bool r) ∧ Drawn0 w w' := by
  have H : (if a0 ≥ 0 then (some (decide (a0 ≤ 4611686018427387904))) else (some false)) = some r := h
  clear h
  by_cases c2 : a0 ≥ 0
  · rw [if_pos c2] at H
    have c2b0 : decide (0 ≤ a0) = true := decide_eq_true c2
    clear c2
    obtain rfl := Option.some.inj H
    go_enter Try.func43, Try.ntmps43
    go_wp2
    go_ret
    exact ⟨by first | rfl | (simp; done) | (simp [*]; done), by repeat (first | exact Drawn0.refl _ | apply Drawn0.step)⟩
  · rw [if_neg c2] at H
    have c2b0 : decide (0 ≤ a0) = false := decide_eq_false c2
    clear c2
    obtain rfl := Option.some.inj H
    go_enter Try.func43, Try.ntmps43
    go_wp2
    go_ret
    exact ⟨by first | rfl | (simp; done) | (simp [*]; done), by repeat (first | exact Drawn0.refl _ | apply Drawn0.step)⟩

end Go.Proofs.Ytedfcjcnhgomoaa.P
end
-- MERGED YtedfcjcnhgomoaaPvariorumref12Good
section
-- Written by wip/myprint.py of this session, over the kit's print.py: a Lean function for each Go function, and the proof that the code comes to it.
namespace Go.Proofs.Ytedfcjcnhgomoaa.P
open Go.RowKit Go.Proofs.YtedfcjcnhgomoaaW.PrintWords Go.Proofs.YtedfcjcnhgomoaaW.PrintLast Go.Proofs.YtedfcjcnhgomoaaW.PrintMore
attribute [local go_sem] max2_int min2_int max_two min_two max_three min_three max_four min_four   -- for this text's walks alone
set_option linter.unusedVariables false
set_option linter.unusedSimpArgs false

/-! ### variorumref12_Good: function 16 -/
def variorumref12_Good.f (a0_0 : Int) (a0_1 : Int) (a0_2 : Int) (a0_3 : ByteArray) : Option (Bool) := (variorumref12_num.f a0_0).bind fun t107 => (if t107 = true then ((variorumref12_num.f a0_1).bind fun t108 => (if t108 = true then ((variorumref12_num.f a0_2).bind fun t109 => (if t109 = true then (if (a0_3.size : Int) ≤ 65536 then (if a0_1 > 0 then (some true) else (some (a0_3.toList == ([] : List UInt8)))) else (some false)) else (some false))) else (some false))) else (some false))
set_option maxHeartbeats 8000000 in
set_option maxRecDepth 100000 in
theorem variorumref12_Good.calls (a0_0 : Int) (a0_1 : Int) (a0_2 : Int) (a0_3 : ByteArray) (r : Bool) (w : World) (h : variorumref12_Good.f a0_0 a0_1 a0_2 a0_3 = some r) :
    Calls Try.prog 16 #[.agg #[.int .i64 a0_0, .int .i64 a0_1, .int .i64 a0_2, .string a0_3]] w fun e w' => e = .returned (.bool r) ∧ Below w.heap.size w w' := by
  have hu23 := Try.underlying23
  have HB := Aside0.mk (Below.refl w.heap.size w)
  have H : ((variorumref12_num.f a0_0).bind fun t107 => (if t107 = true then ((variorumref12_num.f a0_1).bind fun t108 => (if t108 = true then ((variorumref12_num.f a0_2).bind fun t109 => (if t109 = true then (if (a0_3.size : Int) ≤ 65536 then (if a0_1 > 0 then (some true) else (some (a0_3.toList == ([] : List UInt8)))) else (some false)) else (some false))) else (some false))) else (some false))) = some r := h
  clear h
  replace H := Option.bind_eq_some_iff.mp H
  obtain ⟨t107, A20, H⟩ := H
  replace H : (if t107 = true then ((variorumref12_num.f a0_1).bind fun t108 => (if t108 = true then ((variorumref12_num.f a0_2).bind fun t109 => (if t109 = true then (if (a0_3.size : Int) ≤ 65536 then (if a0_1 > 0 then (some true) else (some (a0_3.toList == ([] : List UInt8)))) else (some false)) else (some false))) else (some false))) else (some false)) = some r := H
  have A2 := Aside0.mk A20
  clear A20
  by_cases c3 : t107 = true
  · subst c3
    have H1 : ((variorumref12_num.f a0_1).bind fun t108 => (if t108 = true then ((variorumref12_num.f a0_2).bind fun t109 => (if t109 = true then (if (a0_3.size : Int) ≤ 65536 then (if a0_1 > 0 then (some true) else (some (a0_3.toList == ([] : List UInt8)))) else (some false)) else (some false))) else (some false))) = some r := by rw [if_pos rfl] at H; exact H
    clear H
    have H := H1
    clear H1
    replace H := Option.bind_eq_some_iff.mp H
    obtain ⟨t108, A40, H⟩ := H
    replace H : (if t108 = true then ((variorumref12_num.f a0_2).bind fun t109 => (if t109 = true then (if (a0_3.size : Int) ≤ 65536 then (if a0_1 > 0 then (some true) else (some (a0_3.toList == ([] : List UInt8)))) else (some false)) else (some false))) else (some false)) = some r := H
    have A4 := Aside0.mk A40
    clear A40
    by_cases c5 : t108 = true
    · subst c5
      have H1 : ((variorumref12_num.f a0_2).bind fun t109 => (if t109 = true then (if (a0_3.size : Int) ≤ 65536 then (if a0_1 > 0 then (some true) else (some (a0_3.toList == ([] : List UInt8)))) else (some false)) else (some false))) = some r := by rw [if_pos rfl] at H; exact H
      clear H
      have H := H1
      clear H1
      replace H := Option.bind_eq_some_iff.mp H
      obtain ⟨t109, A60, H⟩ := H
      replace H : (if t109 = true then (if (a0_3.size : Int) ≤ 65536 then (if a0_1 > 0 then (some true) else (some (a0_3.toList == ([] : List UInt8)))) else (some false)) else (some false)) = some r := H
      have A6 := Aside0.mk A60
      clear A60
      by_cases c7 : t109 = true
      · subst c7
        have H1 : (if (a0_3.size : Int) ≤ 65536 then (if a0_1 > 0 then (some true) else (some (a0_3.toList == ([] : List UInt8)))) else (some false)) = some r := by rw [if_pos rfl] at H; exact H
        clear H
        have H := H1
        clear H1
        by_cases c8 : (a0_3.size : Int) ≤ 65536
        · rw [if_pos c8] at H
          have c8b0 : decide ((a0_3.size : Int) ≤ 65536) = true := decide_eq_true c8
          have c8b1 : decide (a0_3.size ≤ 65536) = true := decide_eq_true (by omega)
          clear c8
          by_cases c9 : a0_1 > 0
          · rw [if_pos c9] at H
            have c9b0 : decide (0 < a0_1) = true := decide_eq_true c9
            clear c9
            obtain rfl := Option.some.inj H
            go_enter Try.func16, Try.ntmps16
            go_wp2_with (first | ((with_reducible refine gate_dst (N := 1) rfl ?_); (try (refine gate_guard (by rfl) ?_; dsimp only)); refine box_event ?hg (N := 1) ?hd (cs := #[.int .i64 a0_0, .int .i64 a0_1, .int .i64 a0_2, .string a0_3]) (t := 23) ?hr ?_; (case hd => rfl); (case hg => rfl); (case hr => first | (go_simp; done) | (go_simp; rfl)); intro gb106 hg w10 hbox hb; have n0_ := Aside0.mk (below_step (by repeat (first | (with_reducible first | exact HB.out | apply below_alloc | apply pw_below_drewN | apply below_drew1) | exact HB.out)) hb); have n1_ := Aside0.mk (hbox); have n2_ := Aside0.mk ((by rw [hg]; exact (below_size (by repeat (first | (with_reducible first | exact HB.out | apply below_alloc | apply pw_below_drewN | apply below_drew1) | exact HB.out))) : w.heap.size ≤ gb106)); have n3_ := Aside0.mk ((by rw [hg]; exact (below_size (by repeat (first | (with_reducible first | exact HB.out | apply below_alloc | apply pw_below_drewN | apply below_drew1) | exact HB.out))) : w.heap.size ≤ gb106)); clear HB; have HB := n0_; have BK106 := n1_; have GW106 := n2_; have GE106 := n3_; clear n0_ n1_ n2_ n3_; clear hb hbox hg; have hcz11_0 : w10.cell? ⟨gb106, 0, none⟩ = some (.int .i64 a0_0) := (blk_cell BK106.out 0).trans rfl; have hcz11_1 : w10.cell? ⟨gb106, 1, none⟩ = some (.int .i64 a0_1) := (blk_cell BK106.out 1).trans rfl; have hcz11_2 : w10.cell? ⟨gb106, 2, none⟩ = some (.int .i64 a0_2) := (blk_cell BK106.out 2).trans rfl; have hcz11_3 : w10.cell? ⟨gb106, 3, none⟩ = some (.string a0_3) := (blk_cell BK106.out 3).trans rfl; have hfz11_0 := blk_frozen BK106.out 0; have hfz11_1 := blk_frozen BK106.out 1; have hfz11_2 := blk_frozen BK106.out 2; have hfz11_3 := blk_frozen BK106.out 3) | ((with_reducible refine gate_callee (f := 43) rfl ?_); refine goesL_ (some 5) rfl rfl Try.func43 (by kernel_rfl) rfl #[.int .i64 a0_0] rfl (by (try simp only [List.map_toArray, List.map_cons, List.map_nil]); first | done | rfl | (simp only [List.length_drop, List.length_take]; rfl)) ?_; (with_reducible refine (variorumref12_num.calls a0_0 true _ A2.out).mono ?_); rintro e w' ⟨rfl, ⟨nd, rfl⟩⟩; refine ⟨_, rfl, ?_⟩) | (go_at_call 43; (with_reducible refine (variorumref12_num.calls a0_1 true _ A4.out).mono ?_); rintro e w' ⟨rfl, ⟨nd, rfl⟩⟩) | (go_at_call 43; (with_reducible refine (variorumref12_num.calls a0_2 true _ A6.out).mono ?_); rintro e w' ⟨rfl, ⟨nd, rfl⟩⟩))
            go_ret
            exact ⟨by first | rfl | (simp [errW_none, errW_some] <;> rfl) | (simp [*, errW_none, errW_some] <;> rfl), by repeat (first | (with_reducible first | exact HB.out | apply below_alloc | apply pw_below_drewN | apply below_drew1 | refine below_set ?_ GE106.out) | exact HB.out)⟩
          · rw [if_neg c9] at H
            have c9b0 : decide (0 < a0_1) = false := decide_eq_false c9
            clear c9
            obtain rfl := Option.some.inj H
            go_enter Try.func16, Try.ntmps16
            go_wp2_with (first | ((with_reducible refine gate_dst (N := 1) rfl ?_); (try (refine gate_guard (by rfl) ?_; dsimp only)); refine box_event ?hg (N := 1) ?hd (cs := #[.int .i64 a0_0, .int .i64 a0_1, .int .i64 a0_2, .string a0_3]) (t := 23) ?hr ?_; (case hd => rfl); (case hg => rfl); (case hr => first | (go_simp; done) | (go_simp; rfl)); intro gb106 hg w12 hbox hb; have n0_ := Aside0.mk (below_step (by repeat (first | (with_reducible first | exact HB.out | apply below_alloc | apply pw_below_drewN | apply below_drew1) | exact HB.out)) hb); have n1_ := Aside0.mk (hbox); have n2_ := Aside0.mk ((by rw [hg]; exact (below_size (by repeat (first | (with_reducible first | exact HB.out | apply below_alloc | apply pw_below_drewN | apply below_drew1) | exact HB.out))) : w.heap.size ≤ gb106)); have n3_ := Aside0.mk ((by rw [hg]; exact (below_size (by repeat (first | (with_reducible first | exact HB.out | apply below_alloc | apply pw_below_drewN | apply below_drew1) | exact HB.out))) : w.heap.size ≤ gb106)); clear HB; have HB := n0_; have BK106 := n1_; have GW106 := n2_; have GE106 := n3_; clear n0_ n1_ n2_ n3_; clear hb hbox hg; have hcz13_0 : w12.cell? ⟨gb106, 0, none⟩ = some (.int .i64 a0_0) := (blk_cell BK106.out 0).trans rfl; have hcz13_1 : w12.cell? ⟨gb106, 1, none⟩ = some (.int .i64 a0_1) := (blk_cell BK106.out 1).trans rfl; have hcz13_2 : w12.cell? ⟨gb106, 2, none⟩ = some (.int .i64 a0_2) := (blk_cell BK106.out 2).trans rfl; have hcz13_3 : w12.cell? ⟨gb106, 3, none⟩ = some (.string a0_3) := (blk_cell BK106.out 3).trans rfl; have hfz13_0 := blk_frozen BK106.out 0; have hfz13_1 := blk_frozen BK106.out 1; have hfz13_2 := blk_frozen BK106.out 2; have hfz13_3 := blk_frozen BK106.out 3) | ((with_reducible refine gate_callee (f := 43) rfl ?_); refine goesL_ (some 5) rfl rfl Try.func43 (by kernel_rfl) rfl #[.int .i64 a0_0] rfl (by (try simp only [List.map_toArray, List.map_cons, List.map_nil]); first | done | rfl | (simp only [List.length_drop, List.length_take]; rfl)) ?_; (with_reducible refine (variorumref12_num.calls a0_0 true _ A2.out).mono ?_); rintro e w' ⟨rfl, ⟨nd, rfl⟩⟩; refine ⟨_, rfl, ?_⟩) | (go_at_call 43; (with_reducible refine (variorumref12_num.calls a0_1 true _ A4.out).mono ?_); rintro e w' ⟨rfl, ⟨nd, rfl⟩⟩) | (go_at_call 43; (with_reducible refine (variorumref12_num.calls a0_2 true _ A6.out).mono ?_); rintro e w' ⟨rfl, ⟨nd, rfl⟩⟩))
            go_ret
            exact ⟨by first | rfl | (simp [errW_none, errW_some] <;> rfl) | (simp [*, errW_none, errW_some] <;> rfl), by repeat (first | (with_reducible first | exact HB.out | apply below_alloc | apply pw_below_drewN | apply below_drew1 | refine below_set ?_ GE106.out) | exact HB.out)⟩
        · rw [if_neg c8] at H
          have c8b0 : decide ((a0_3.size : Int) ≤ 65536) = false := decide_eq_false c8
          have c8b1 : decide (a0_3.size ≤ 65536) = false := decide_eq_false (by omega)
          clear c8
          obtain rfl := Option.some.inj H
          go_enter Try.func16, Try.ntmps16
          go_wp2_with (first | ((with_reducible refine gate_dst (N := 1) rfl ?_); (try (refine gate_guard (by rfl) ?_; dsimp only)); refine box_event ?hg (N := 1) ?hd (cs := #[.int .i64 a0_0, .int .i64 a0_1, .int .i64 a0_2, .string a0_3]) (t := 23) ?hr ?_; (case hd => rfl); (case hg => rfl); (case hr => first | (go_simp; done) | (go_simp; rfl)); intro gb106 hg w14 hbox hb; have n0_ := Aside0.mk (below_step (by repeat (first | (with_reducible first | exact HB.out | apply below_alloc | apply pw_below_drewN | apply below_drew1) | exact HB.out)) hb); have n1_ := Aside0.mk (hbox); have n2_ := Aside0.mk ((by rw [hg]; exact (below_size (by repeat (first | (with_reducible first | exact HB.out | apply below_alloc | apply pw_below_drewN | apply below_drew1) | exact HB.out))) : w.heap.size ≤ gb106)); have n3_ := Aside0.mk ((by rw [hg]; exact (below_size (by repeat (first | (with_reducible first | exact HB.out | apply below_alloc | apply pw_below_drewN | apply below_drew1) | exact HB.out))) : w.heap.size ≤ gb106)); clear HB; have HB := n0_; have BK106 := n1_; have GW106 := n2_; have GE106 := n3_; clear n0_ n1_ n2_ n3_; clear hb hbox hg; have hcz15_0 : w14.cell? ⟨gb106, 0, none⟩ = some (.int .i64 a0_0) := (blk_cell BK106.out 0).trans rfl; have hcz15_1 : w14.cell? ⟨gb106, 1, none⟩ = some (.int .i64 a0_1) := (blk_cell BK106.out 1).trans rfl; have hcz15_2 : w14.cell? ⟨gb106, 2, none⟩ = some (.int .i64 a0_2) := (blk_cell BK106.out 2).trans rfl; have hcz15_3 : w14.cell? ⟨gb106, 3, none⟩ = some (.string a0_3) := (blk_cell BK106.out 3).trans rfl; have hfz15_0 := blk_frozen BK106.out 0; have hfz15_1 := blk_frozen BK106.out 1; have hfz15_2 := blk_frozen BK106.out 2; have hfz15_3 := blk_frozen BK106.out 3) | ((with_reducible refine gate_callee (f := 43) rfl ?_); refine goesL_ (some 5) rfl rfl Try.func43 (by kernel_rfl) rfl #[.int .i64 a0_0] rfl (by (try simp only [List.map_toArray, List.map_cons, List.map_nil]); first | done | rfl | (simp only [List.length_drop, List.length_take]; rfl)) ?_; (with_reducible refine (variorumref12_num.calls a0_0 true _ A2.out).mono ?_); rintro e w' ⟨rfl, ⟨nd, rfl⟩⟩; refine ⟨_, rfl, ?_⟩) | (go_at_call 43; (with_reducible refine (variorumref12_num.calls a0_1 true _ A4.out).mono ?_); rintro e w' ⟨rfl, ⟨nd, rfl⟩⟩) | (go_at_call 43; (with_reducible refine (variorumref12_num.calls a0_2 true _ A6.out).mono ?_); rintro e w' ⟨rfl, ⟨nd, rfl⟩⟩))
          go_ret
          exact ⟨by first | rfl | (simp [errW_none, errW_some] <;> rfl) | (simp [*, errW_none, errW_some] <;> rfl), by repeat (first | (with_reducible first | exact HB.out | apply below_alloc | apply pw_below_drewN | apply below_drew1 | refine below_set ?_ GE106.out) | exact HB.out)⟩
      · replace c7 := Bool.eq_false_iff.mpr c7
        subst c7
        have H1 : (some false) = some r := by rw [if_neg (show ¬ (false = true) by decide)] at H; exact H
        clear H
        have H := H1
        clear H1
        obtain rfl := Option.some.inj H
        go_enter Try.func16, Try.ntmps16
        go_wp2_with (first | ((with_reducible refine gate_dst (N := 1) rfl ?_); (try (refine gate_guard (by rfl) ?_; dsimp only)); refine box_event ?hg (N := 1) ?hd (cs := #[.int .i64 a0_0, .int .i64 a0_1, .int .i64 a0_2, .string a0_3]) (t := 23) ?hr ?_; (case hd => rfl); (case hg => rfl); (case hr => first | (go_simp; done) | (go_simp; rfl)); intro gb106 hg w16 hbox hb; have n0_ := Aside0.mk (below_step (by repeat (first | (with_reducible first | exact HB.out | apply below_alloc | apply pw_below_drewN | apply below_drew1) | exact HB.out)) hb); have n1_ := Aside0.mk (hbox); have n2_ := Aside0.mk ((by rw [hg]; exact (below_size (by repeat (first | (with_reducible first | exact HB.out | apply below_alloc | apply pw_below_drewN | apply below_drew1) | exact HB.out))) : w.heap.size ≤ gb106)); have n3_ := Aside0.mk ((by rw [hg]; exact (below_size (by repeat (first | (with_reducible first | exact HB.out | apply below_alloc | apply pw_below_drewN | apply below_drew1) | exact HB.out))) : w.heap.size ≤ gb106)); clear HB; have HB := n0_; have BK106 := n1_; have GW106 := n2_; have GE106 := n3_; clear n0_ n1_ n2_ n3_; clear hb hbox hg; have hcz17_0 : w16.cell? ⟨gb106, 0, none⟩ = some (.int .i64 a0_0) := (blk_cell BK106.out 0).trans rfl; have hcz17_1 : w16.cell? ⟨gb106, 1, none⟩ = some (.int .i64 a0_1) := (blk_cell BK106.out 1).trans rfl; have hcz17_2 : w16.cell? ⟨gb106, 2, none⟩ = some (.int .i64 a0_2) := (blk_cell BK106.out 2).trans rfl; have hcz17_3 : w16.cell? ⟨gb106, 3, none⟩ = some (.string a0_3) := (blk_cell BK106.out 3).trans rfl; have hfz17_0 := blk_frozen BK106.out 0; have hfz17_1 := blk_frozen BK106.out 1; have hfz17_2 := blk_frozen BK106.out 2; have hfz17_3 := blk_frozen BK106.out 3) | ((with_reducible refine gate_callee (f := 43) rfl ?_); refine goesL_ (some 5) rfl rfl Try.func43 (by kernel_rfl) rfl #[.int .i64 a0_0] rfl (by (try simp only [List.map_toArray, List.map_cons, List.map_nil]); first | done | rfl | (simp only [List.length_drop, List.length_take]; rfl)) ?_; (with_reducible refine (variorumref12_num.calls a0_0 true _ A2.out).mono ?_); rintro e w' ⟨rfl, ⟨nd, rfl⟩⟩; refine ⟨_, rfl, ?_⟩) | (go_at_call 43; (with_reducible refine (variorumref12_num.calls a0_1 true _ A4.out).mono ?_); rintro e w' ⟨rfl, ⟨nd, rfl⟩⟩) | (go_at_call 43; (with_reducible refine (variorumref12_num.calls a0_2 false _ A6.out).mono ?_); rintro e w' ⟨rfl, ⟨nd, rfl⟩⟩))
        go_ret
        exact ⟨by first | rfl | (simp [errW_none, errW_some] <;> rfl) | (simp [*, errW_none, errW_some] <;> rfl), by repeat (first | (with_reducible first | exact HB.out | apply below_alloc | apply pw_below_drewN | apply below_drew1 | refine below_set ?_ GE106.out) | exact HB.out)⟩
    · replace c5 := Bool.eq_false_iff.mpr c5
      subst c5
      have H1 : (some false) = some r := by rw [if_neg (show ¬ (false = true) by decide)] at H; exact H
      clear H
      have H := H1
      clear H1
      obtain rfl := Option.some.inj H
      go_enter Try.func16, Try.ntmps16
      go_wp2_with (first | ((with_reducible refine gate_dst (N := 1) rfl ?_); (try (refine gate_guard (by rfl) ?_; dsimp only)); refine box_event ?hg (N := 1) ?hd (cs := #[.int .i64 a0_0, .int .i64 a0_1, .int .i64 a0_2, .string a0_3]) (t := 23) ?hr ?_; (case hd => rfl); (case hg => rfl); (case hr => first | (go_simp; done) | (go_simp; rfl)); intro gb106 hg w18 hbox hb; have n0_ := Aside0.mk (below_step (by repeat (first | (with_reducible first | exact HB.out | apply below_alloc | apply pw_below_drewN | apply below_drew1) | exact HB.out)) hb); have n1_ := Aside0.mk (hbox); have n2_ := Aside0.mk ((by rw [hg]; exact (below_size (by repeat (first | (with_reducible first | exact HB.out | apply below_alloc | apply pw_below_drewN | apply below_drew1) | exact HB.out))) : w.heap.size ≤ gb106)); have n3_ := Aside0.mk ((by rw [hg]; exact (below_size (by repeat (first | (with_reducible first | exact HB.out | apply below_alloc | apply pw_below_drewN | apply below_drew1) | exact HB.out))) : w.heap.size ≤ gb106)); clear HB; have HB := n0_; have BK106 := n1_; have GW106 := n2_; have GE106 := n3_; clear n0_ n1_ n2_ n3_; clear hb hbox hg; have hcz19_0 : w18.cell? ⟨gb106, 0, none⟩ = some (.int .i64 a0_0) := (blk_cell BK106.out 0).trans rfl; have hcz19_1 : w18.cell? ⟨gb106, 1, none⟩ = some (.int .i64 a0_1) := (blk_cell BK106.out 1).trans rfl; have hcz19_2 : w18.cell? ⟨gb106, 2, none⟩ = some (.int .i64 a0_2) := (blk_cell BK106.out 2).trans rfl; have hcz19_3 : w18.cell? ⟨gb106, 3, none⟩ = some (.string a0_3) := (blk_cell BK106.out 3).trans rfl; have hfz19_0 := blk_frozen BK106.out 0; have hfz19_1 := blk_frozen BK106.out 1; have hfz19_2 := blk_frozen BK106.out 2; have hfz19_3 := blk_frozen BK106.out 3) | ((with_reducible refine gate_callee (f := 43) rfl ?_); refine goesL_ (some 5) rfl rfl Try.func43 (by kernel_rfl) rfl #[.int .i64 a0_0] rfl (by (try simp only [List.map_toArray, List.map_cons, List.map_nil]); first | done | rfl | (simp only [List.length_drop, List.length_take]; rfl)) ?_; (with_reducible refine (variorumref12_num.calls a0_0 true _ A2.out).mono ?_); rintro e w' ⟨rfl, ⟨nd, rfl⟩⟩; refine ⟨_, rfl, ?_⟩) | (go_at_call 43; (with_reducible refine (variorumref12_num.calls a0_1 false _ A4.out).mono ?_); rintro e w' ⟨rfl, ⟨nd, rfl⟩⟩))
      go_ret
      exact ⟨by first | rfl | (simp [errW_none, errW_some] <;> rfl) | (simp [*, errW_none, errW_some] <;> rfl), by repeat (first | (with_reducible first | exact HB.out | apply below_alloc | apply pw_below_drewN | apply below_drew1 | refine below_set ?_ GE106.out) | exact HB.out)⟩
  · replace c3 := Bool.eq_false_iff.mpr c3
    subst c3
    have H1 : (some false) = some r := by rw [if_neg (show ¬ (false = true) by decide)] at H; exact H
    clear H
    have H := H1
    clear H1
    obtain rfl := Option.some.inj H
    go_enter Try.func16, Try.ntmps16
    go_wp2_with (first | ((with_reducible refine gate_dst (N := 1) rfl ?_); (try (refine gate_guard (by rfl) ?_; dsimp only)); refine box_event ?hg (N := 1) ?hd (cs := #[.int .i64 a0_0, .int .i64 a0_1, .int .i64 a0_2, .string a0_3]) (t := 23) ?hr ?_; (case hd => rfl); (case hg => rfl); (case hr => first | (go_simp; done) | (go_simp; rfl)); intro gb106 hg w20 hbox hb; have n0_ := Aside0.mk (below_step (by repeat (first | (with_reducible first | exact HB.out | apply below_alloc | apply pw_below_drewN | apply below_drew1) | exact HB.out)) hb); have n1_ := Aside0.mk (hbox); have n2_ := Aside0.mk ((by rw [hg]; exact (below_size (by repeat (first | (with_reducible first | exact HB.out | apply below_alloc | apply pw_below_drewN | apply below_drew1) | exact HB.out))) : w.heap.size ≤ gb106)); have n3_ := Aside0.mk ((by rw [hg]; exact (below_size (by repeat (first | (with_reducible first | exact HB.out | apply below_alloc | apply pw_below_drewN | apply below_drew1) | exact HB.out))) : w.heap.size ≤ gb106)); clear HB; have HB := n0_; have BK106 := n1_; have GW106 := n2_; have GE106 := n3_; clear n0_ n1_ n2_ n3_; clear hb hbox hg; have hcz21_0 : w20.cell? ⟨gb106, 0, none⟩ = some (.int .i64 a0_0) := (blk_cell BK106.out 0).trans rfl; have hcz21_1 : w20.cell? ⟨gb106, 1, none⟩ = some (.int .i64 a0_1) := (blk_cell BK106.out 1).trans rfl; have hcz21_2 : w20.cell? ⟨gb106, 2, none⟩ = some (.int .i64 a0_2) := (blk_cell BK106.out 2).trans rfl; have hcz21_3 : w20.cell? ⟨gb106, 3, none⟩ = some (.string a0_3) := (blk_cell BK106.out 3).trans rfl; have hfz21_0 := blk_frozen BK106.out 0; have hfz21_1 := blk_frozen BK106.out 1; have hfz21_2 := blk_frozen BK106.out 2; have hfz21_3 := blk_frozen BK106.out 3) | ((with_reducible refine gate_callee (f := 43) rfl ?_); refine goesL_ (some 5) rfl rfl Try.func43 (by kernel_rfl) rfl #[.int .i64 a0_0] rfl (by (try simp only [List.map_toArray, List.map_cons, List.map_nil]); first | done | rfl | (simp only [List.length_drop, List.length_take]; rfl)) ?_; (with_reducible refine (variorumref12_num.calls a0_0 false _ A2.out).mono ?_); rintro e w' ⟨rfl, ⟨nd, rfl⟩⟩; refine ⟨_, rfl, ?_⟩))
    go_ret
    exact ⟨by first | rfl | (simp [errW_none, errW_some] <;> rfl) | (simp [*, errW_none, errW_some] <;> rfl), by repeat (first | (with_reducible first | exact HB.out | apply below_alloc | apply pw_below_drewN | apply below_drew1 | refine below_set ?_ GE106.out) | exact HB.out)⟩

end Go.Proofs.Ytedfcjcnhgomoaa.P
end
-- MERGED YtedfcjcnhgomoaaPvariorumref12body
section
-- Written by wip/myprint.py of this session, over the kit's print.py: a Lean function for each Go function, and the proof that the code comes to it.
namespace Go.Proofs.Ytedfcjcnhgomoaa.P
open Go.RowKit Go.Proofs.YtedfcjcnhgomoaaW.PrintWords Go.Proofs.YtedfcjcnhgomoaaW.PrintLast Go.Proofs.YtedfcjcnhgomoaaW.PrintMore
attribute [local go_sem] max2_int min2_int max_two min_two max_three min_three max_four min_four   -- for this text's walks alone
set_option linter.unusedVariables false
set_option linter.unusedSimpArgs false

/-! ### variorumref12_body: function 40 -/
def variorumref12_body.f (k : Nat) (a0_0 : Int) (a0_1 : Int) (a0_2 : Int) (a0_3 : ByteArray) : Option (List Int) := (variorumref01_Put.f k ([] : List Int) a0_0).bind fun t129 => ((variorumref01_Put.f k t129 a0_1).bind fun t132 => ((variorumref01_Put.f k t132 a0_2).bind fun t135 => ((variorumref01_PutText.f k t135 a0_3).bind fun t138 => (some t138))))
theorem variorumref12_body.mono : ∀ a0 a1 a2 a3 k, LeO (variorumref12_body.f k a0 a1 a2 a3) (variorumref12_body.f (k + 1) a0 a1 a2 a3) := by
  intro a0 a1 a2 a3 k
  unfold variorumref12_body.f
  repeat' first
      | (with_reducible exact variorumref01_Put.mono _ _ _)
      | (with_reducible exact variorumref01_PutText.mono _ _ _)
      | (with_reducible exact LeO.refl _)
      | (with_reducible exact LeO.none _)
      | (with_reducible refine LeO.ite ?_ ?_)
      | (with_reducible refine LeO.bind ?_ (fun _ => ?_))
      | exact variorumref01_Put.mono _ _ _
      | exact variorumref01_PutText.mono _ _ _
      | exact LeO.none _
      | refine LeO.ite ?_ ?_
      | refine LeO.bind ?_ (fun _ => ?_)
def variorumref12_body.T1 : Bool × List (List Nat × List Nat) := (true, [([], []), ([0], [0]), ([1], [1]), ([], []), ([3], [3]), ([2, 4, 2], [2, 4]), ([], []), ([6], [6]), ([5, 7, 5], [5, 7]), ([], []), ([9], [9]), ([8, 10, 8], [8, 10]), ([11, 11, 0, 1, 2, 3, 4, 5, 6, 7, 8, 9, 10, 11], [11])])
def variorumref12_body.B1 : List Nat := [0, 1, 3, 0, 8, 31, 0, 64, 255, 0, 512, 2047, 4095]
theorem variorumref12_body.tab1 : rtab .any (opsOf Try.f40 1) = variorumref12_body.T1 := by kernel_rfl
theorem variorumref12_body.bits1 : waitsOk variorumref12_body.T1.2 variorumref12_body.B1 = true := by kernel_rfl
set_option maxHeartbeats 8000000 in
set_option maxRecDepth 100000 in
theorem variorumref12_body.calls (k : Nat) (a0_0 : Int) (a0_1 : Int) (a0_2 : Int) (a0_3 : ByteArray) (r : List Int) (w : World) (h : variorumref12_body.f k a0_0 a0_1 a0_2 a0_3 = some r) :
    Calls Try.prog 40 #[.agg #[.int .i64 a0_0, .int .i64 a0_1, .int .i64 a0_2, .string a0_3]] w fun e w' => ∃ v0_ : Value, e = .returned (v0_) ∧ Kd.R (Kd.int .u8) 5 w' w.heap.size (fun _ => True) v0_ r ∧ Below w.heap.size w w' := by
  have hu23 := Try.underlying23
  have HB := Aside0.mk (Below.refl w.heap.size w)
  have H : ((variorumref01_Put.f k ([] : List Int) a0_0).bind fun t129 => ((variorumref01_Put.f k t129 a0_1).bind fun t132 => ((variorumref01_Put.f k t132 a0_2).bind fun t135 => ((variorumref01_PutText.f k t135 a0_3).bind fun t138 => (some t138))))) = some r := h
  clear h
  replace H := Option.bind_eq_some_iff.mp H
  obtain ⟨t129, A20, H⟩ := H
  replace H : ((variorumref01_Put.f k t129 a0_1).bind fun t132 => ((variorumref01_Put.f k t132 a0_2).bind fun t135 => ((variorumref01_PutText.f k t135 a0_3).bind fun t138 => (some t138)))) = some r := H
  have A2 := Aside0.mk A20
  clear A20
  replace H := Option.bind_eq_some_iff.mp H
  obtain ⟨t132, A30, H⟩ := H
  replace H : ((variorumref01_Put.f k t132 a0_2).bind fun t135 => ((variorumref01_PutText.f k t135 a0_3).bind fun t138 => (some t138))) = some r := H
  have A3 := Aside0.mk A30
  clear A30
  replace H := Option.bind_eq_some_iff.mp H
  obtain ⟨t135, A40, H⟩ := H
  replace H : ((variorumref01_PutText.f k t135 a0_3).bind fun t138 => (some t138)) = some r := H
  have A4 := Aside0.mk A40
  clear A40
  replace H := Option.bind_eq_some_iff.mp H
  obtain ⟨t138, A50, H⟩ := H
  replace H : (some t138) = some r := H
  have A5 := Aside0.mk A50
  clear A50
  obtain rfl := Option.some.inj H
  go_enter Try.func40, Try.ntmps40
  try go_wp2_with (first | ((with_reducible refine gate_dst (N := 1) rfl ?_); refine box_event ?hg (N := 1) ?hd (cs := #[.int .i64 a0_0, .int .i64 a0_1, .int .i64 a0_2, .string a0_3]) (t := 23) ?hr ?_; (case hd => rfl); (case hg => rfl); (case hr => first | (go_simp; done) | (go_simp; rfl)); intro gb128 hg w6 hbox hb; have n0_ := Aside0.mk (below_step (by repeat (first | (with_reducible first | exact HB.out | apply below_alloc | apply pw_below_drewN | apply below_drew1) | exact HB.out)) hb); have n1_ := Aside0.mk (hbox); have n2_ := Aside0.mk ((by rw [hg]; exact (below_size (by repeat (first | (with_reducible first | exact HB.out | apply below_alloc | apply pw_below_drewN | apply below_drew1) | exact HB.out))) : w.heap.size ≤ gb128)); have n3_ := Aside0.mk ((by rw [hg]; exact (below_size (by repeat (first | (with_reducible first | exact HB.out | apply below_alloc | apply pw_below_drewN | apply below_drew1) | exact HB.out))) : w.heap.size ≤ gb128)); clear HB; have HB := n0_; have BK128 := n1_; have GW128 := n2_; have GE128 := n3_; clear n0_ n1_ n2_ n3_; clear hb hbox hg))
  have n0_ := Aside0.mk (blk_drew BK128.out)
  have n1_ := Aside0.mk (below_drew1 HB.out)
  clear BK128
  clear HB
  have BK128 := n0_
  have HB := n1_
  clear n0_ n1_
  refine start_ (n := 13) (S := fun w' => w'.cell? ⟨gb128, 0, none⟩ = some (.int .i64 a0_0) ∧ w'.cell? ⟨gb128, 1, none⟩ = some (.int .i64 a0_1) ∧ w'.cell? ⟨gb128, 2, none⟩ = some (.int .i64 a0_2) ∧ w'.cell? ⟨gb128, 3, none⟩ = some (.string a0_3)) (ds := []) #[false, false, false, false, false, false, false, false, false, false, false, false, false] (by kernel_rfl) rfl rfl ⟨(blk_cell BK128.out 0).trans rfl, (blk_cell BK128.out 1).trans rfl, (blk_cell BK128.out 2).trans rfl, (blk_cell BK128.out 3).trans rfl⟩ (fun hHeld => ?_); refine with_tabW variorumref12_body.tab1 variorumref12_body.bits1 (fun HT_ HW_ => ?_)
  generalize w6.drew = w7 at BK128 HB hHeld ⊢
  refine pure_ (i := 0) (N := some 3) (v := ?_) (a' := ?_) #[true, false, false, false, false, false, false, false, false, false, false, false, false] rfl rfl (any_of HT_.out (by kernel_rfl)) (fun _ _ _ h => h) (Or.inl ⟨by rfl, ?_⟩) ?_ ?_
  rotate_left
  · intro w'
    go_simp
    with_reducible rfl
  rotate_left
  · simp only [Act.put, List.setIfInBounds_toArray, List.set_cons_zero, List.set_cons_succ, i64_w, i32_w]
    rfl
  refine pure_ (i := 3) (N := some 6) (v := ?_) (a' := ?_) #[true, false, false, true, false, false, false, false, false, false, false, false, false] rfl rfl (any_of HT_.out (by kernel_rfl)) (fun _ _ _ h => h) (Or.inl ⟨by rfl, ?_⟩) ?_ ?_
  rotate_left
  · intro w'
    go_simp
    with_reducible rfl
  rotate_left
  · simp only [Act.put, List.setIfInBounds_toArray, List.set_cons_zero, List.set_cons_succ, i64_w, i32_w]
    rfl
  refine pure_ (i := 6) (N := some 9) (v := ?_) (a' := ?_) #[true, false, false, true, false, false, true, false, false, false, false, false, false] rfl rfl (any_of HT_.out (by kernel_rfl)) (fun _ _ _ h => h) (Or.inl ⟨by rfl, ?_⟩) ?_ ?_
  rotate_left
  · intro w'
    go_simp
    with_reducible rfl
  rotate_left
  · simp only [Act.put, List.setIfInBounds_toArray, List.set_cons_zero, List.set_cons_succ, i64_w, i32_w]
    rfl
  refine pure_ (i := 9) (N := some 12) (v := ?_) (a' := ?_) #[true, false, false, true, false, false, true, false, false, true, false, false, false] rfl rfl (any_of HT_.out (by kernel_rfl)) (fun _ _ _ h => h) (Or.inl ⟨by rfl, ?_⟩) ?_ ?_
  rotate_left
  · intro w'
    go_simp
    with_reducible rfl
  rotate_left
  · simp only [Act.put, List.setIfInBounds_toArray, List.set_cons_zero, List.set_cons_succ, i64_w, i32_w]
    rfl
  refine take_ (i := 1) (N := some 4) (v := ?_) (a' := ?_) #[true, true, false, true, false, false, true, false, false, true, false, false, false] rfl rfl (take_ofW HT_.out HW_.out (by kernel_rfl)) (fun _ _ _ h => h) (Or.inl ⟨by rfl, ?_⟩) hHeld ?_ ?_
  rotate_left
  · rintro w' ⟨s0, s1, s2, s3⟩
    go_simp
    with_reducible rfl
  rotate_left
  · simp only [Act.put, List.setIfInBounds_toArray, List.set_cons_zero, List.set_cons_succ, i64_w, i32_w]
    rfl
  refine take_ (i := 4) (N := some 7) (v := ?_) (a' := ?_) #[true, true, false, true, true, false, true, false, false, true, false, false, false] rfl rfl (take_ofW HT_.out HW_.out (by kernel_rfl)) (fun _ _ _ h => h) (Or.inl ⟨by rfl, ?_⟩) hHeld ?_ ?_
  rotate_left
  · rintro w' ⟨s0, s1, s2, s3⟩
    go_simp
    with_reducible rfl
  rotate_left
  · simp only [Act.put, List.setIfInBounds_toArray, List.set_cons_zero, List.set_cons_succ, i64_w, i32_w]
    rfl
  refine take_ (i := 7) (N := some 10) (v := ?_) (a' := ?_) #[true, true, false, true, true, false, true, true, false, true, false, false, false] rfl rfl (take_ofW HT_.out HW_.out (by kernel_rfl)) (fun _ _ _ h => h) (Or.inl ⟨by rfl, ?_⟩) hHeld ?_ ?_
  rotate_left
  · rintro w' ⟨s0, s1, s2, s3⟩
    go_simp
    with_reducible rfl
  rotate_left
  · simp only [Act.put, List.setIfInBounds_toArray, List.set_cons_zero, List.set_cons_succ, i64_w, i32_w]
    rfl
  refine take_ (i := 10) (N := some 13) (v := ?_) (a' := ?_) #[true, true, false, true, true, false, true, true, false, true, true, false, false] rfl rfl (take_ofW HT_.out HW_.out (by kernel_rfl)) (fun _ _ _ h => h) (Or.inl ⟨by rfl, ?_⟩) hHeld ?_ ?_
  rotate_left
  · rintro w' ⟨s0, s1, s2, s3⟩
    go_simp
    with_reducible rfl
  rotate_left
  · simp only [Act.put, List.setIfInBounds_toArray, List.set_cons_zero, List.set_cons_succ, i64_w, i32_w]
    rfl
  refine one_ (i := 2) (N := some 5) #[true, true, true, true, true, false, true, true, false, true, true, false, false] rfl rfl (one_of HT_.out (by kernel_rfl)) (by decide) (fun K hK => ?_)
  refine goes_ Try.func41 (by kernel_rfl) rfl #[.slice none 0 0, .int .i64 a0_0] (by rfl) rfl rfl (by (try simp only [List.map_toArray, List.map_cons, List.map_nil]); first | done | rfl | (simp only [List.length_drop, List.length_take]; rfl)) ?_
  refine (variorumref01_Put.calls k _ _ ([] : List Int) a0_0 t129 _ ?side1 ?side2 A2.out).mono ?_
  (case side1 => exact Kd.C_nil _ _)
  (case side2 => exact Nat.le_refl _)
  rintro e w8 ⟨v130, rfl, ho0, hb⟩
  refine ⟨_, rfl, ?_⟩
  have n0_ := Aside0.mk (Kd.R_lower ho0 (below_size (by repeat (first | (with_reducible first | exact HB.out | apply below_alloc | apply pw_below_drewN | apply below_drew1 | refine below_set ?_ GE128.out) | exact HB.out))))
  have n1_ := Aside0.mk (blk_below (g := gb128) (o := .cells #[.int .i64 a0_0, .int .i64 a0_1, .int .i64 a0_2, .string a0_3] 23 (0, 0)) (by (with_reducible repeat (first | refine blk_drewN ?_ _ | refine blk_drew ?_ | refine blk_alloc ?_ _)); exact BK128.out) hb)
  have n2_ := Aside0.mk (below_step (by repeat (first | (with_reducible first | exact HB.out | apply below_alloc | apply pw_below_drewN | apply below_drew1 | refine below_set ?_ GE128.out) | exact HB.out)) hb)
  clear BK128
  clear HB
  have HO131 := n0_
  have BK128 := n1_
  have HB := n2_
  clear n0_ n1_ n2_
  (try clear hb)
  (try clear hb2)
  (try clear hk)
  (try clear hi)
  (try clear ho0)
  obtain ⟨Ao9, co9, eo9⟩ := Kd.R_slice HO131.out
  (first | subst eo9 | (injection eo9 with f1_ f2_ f3_; have f4_ := f1_.symm; have f5_ := f3_.symm; clear f1_ f2_ f3_; subst f4_; subst f5_))
  refine hK.out _ _ ⟨(blk_cell BK128.out 0).trans rfl, (blk_cell BK128.out 1).trans rfl, (blk_cell BK128.out 2).trans rfl, (blk_cell BK128.out 3).trans rfl⟩ (fun hHeld => ?_)
  clear hK K
  refine norm_ (a' := ?_) ?_ ?_
  rotate_left
  · show Act.put _ (some 5) _ = _
    simp only [Act.put, List.setIfInBounds_toArray, List.set_cons_zero, List.set_cons_succ, i64_w, i32_w]
    rfl
  refine one_ (i := 5) (N := some 8) #[true, true, true, true, true, true, true, true, false, true, true, false, false] rfl rfl (one_of HT_.out (by kernel_rfl)) (by decide) (fun K hK => ?_)
  refine goes_ Try.func41 (by kernel_rfl) rfl #[.slice Ao9 t129.length co9, .int .i64 a0_1] (by rfl) rfl rfl (by (try simp only [List.map_toArray, List.map_cons, List.map_nil]); first | done | rfl | (simp only [List.length_drop, List.length_take]; rfl)) ?_
  with_reducible refine (variorumref01_Put.calls k _ _ t129 a0_1 t132 _ ?side1 ?side2 A3.out).mono ?_
  (case side1 => repeat (first | exact (Kd.R_reads' HO131.out).2.2 | (with_reducible refine Kd.C_alloc ?_ _) | (with_reducible refine Kd.C_drewN ?_ _) | (with_reducible refine Kd.C_drew ?_)))
  (case side2 => exact (Kd.R_reads' HO131.out).2.1)
  rintro e w10 ⟨v133, rfl, ho0, hb⟩
  refine ⟨_, rfl, ?_⟩
  have n0_ := Aside0.mk (Kd.R_elder' (by (with_reducible repeat (first | apply Kd.R_alloc | apply Kd.R_drewN | apply Kd.R_drew)); exact HO131.out) (Kd.R_base ho0) hb)
  have n1_ := Aside0.mk (Kd.R_lower (Kd.R_new' ho0 (Kd.R_lt (by (with_reducible repeat (first | apply Kd.R_alloc | apply Kd.R_drewN | apply Kd.R_drew)); exact HO131.out))) (below_size (by repeat (first | (with_reducible first | exact HB.out | apply below_alloc | apply pw_below_drewN | apply below_drew1 | refine below_set ?_ GE128.out) | exact HB.out))))
  have n2_ := Aside0.mk (blk_below (g := gb128) (o := .cells #[.int .i64 a0_0, .int .i64 a0_1, .int .i64 a0_2, .string a0_3] 23 (0, 0)) (by (with_reducible repeat (first | refine blk_drewN ?_ _ | refine blk_drew ?_ | refine blk_alloc ?_ _)); exact BK128.out) hb)
  have n3_ := Aside0.mk (below_step (by repeat (first | (with_reducible first | exact HB.out | apply below_alloc | apply pw_below_drewN | apply below_drew1 | refine below_set ?_ GE128.out) | exact HB.out)) hb)
  clear HO131
  clear BK128
  clear HB
  have HO131 := n0_
  have HO134 := n1_
  have BK128 := n2_
  have HB := n3_
  clear n0_ n1_ n2_ n3_
  (try clear hb)
  (try clear hb2)
  (try clear hk)
  (try clear hi)
  (try clear ho0)
  obtain ⟨Ao11, co11, eo11⟩ := Kd.R_slice HO134.out
  (first | subst eo11 | (injection eo11 with f1_ f2_ f3_; have f4_ := f1_.symm; have f5_ := f3_.symm; clear f1_ f2_ f3_; subst f4_; subst f5_))
  refine hK.out _ _ ⟨(blk_cell BK128.out 0).trans rfl, (blk_cell BK128.out 1).trans rfl, (blk_cell BK128.out 2).trans rfl, (blk_cell BK128.out 3).trans rfl⟩ (fun hHeld => ?_)
  clear hK K
  refine norm_ (a' := ?_) ?_ ?_
  rotate_left
  · show Act.put _ (some 8) _ = _
    simp only [Act.put, List.setIfInBounds_toArray, List.set_cons_zero, List.set_cons_succ, i64_w, i32_w]
    rfl
  refine one_ (i := 8) (N := some 11) #[true, true, true, true, true, true, true, true, true, true, true, false, false] rfl rfl (one_of HT_.out (by kernel_rfl)) (by decide) (fun K hK => ?_)
  refine goes_ Try.func41 (by kernel_rfl) rfl #[.slice Ao11 t132.length co11, .int .i64 a0_2] (by rfl) rfl rfl (by (try simp only [List.map_toArray, List.map_cons, List.map_nil]); first | done | rfl | (simp only [List.length_drop, List.length_take]; rfl)) ?_
  with_reducible refine (variorumref01_Put.calls k _ _ t132 a0_2 t135 _ ?side1 ?side2 A4.out).mono ?_
  (case side1 => repeat (first | exact (Kd.R_reads' HO134.out).2.2 | (with_reducible refine Kd.C_alloc ?_ _) | (with_reducible refine Kd.C_drewN ?_ _) | (with_reducible refine Kd.C_drew ?_)))
  (case side2 => exact (Kd.R_reads' HO134.out).2.1)
  rintro e w12 ⟨v136, rfl, ho0, hb⟩
  refine ⟨_, rfl, ?_⟩
  have n0_ := Aside0.mk (Kd.R_elder' (by (with_reducible repeat (first | apply Kd.R_alloc | apply Kd.R_drewN | apply Kd.R_drew)); exact HO131.out) (Kd.R_base ho0) hb)
  have n1_ := Aside0.mk (Kd.R_elder' (by (with_reducible repeat (first | apply Kd.R_alloc | apply Kd.R_drewN | apply Kd.R_drew)); exact HO134.out) (Kd.R_base ho0) hb)
  have n2_ := Aside0.mk (Kd.R_lower (Kd.R_new' (Kd.R_new' ho0 (Kd.R_lt (by (with_reducible repeat (first | apply Kd.R_alloc | apply Kd.R_drewN | apply Kd.R_drew)); exact HO131.out))) (Kd.R_lt (by (with_reducible repeat (first | apply Kd.R_alloc | apply Kd.R_drewN | apply Kd.R_drew)); exact HO134.out))) (below_size (by repeat (first | (with_reducible first | exact HB.out | apply below_alloc | apply pw_below_drewN | apply below_drew1 | refine below_set ?_ GE128.out) | exact HB.out))))
  have n3_ := Aside0.mk (blk_below (g := gb128) (o := .cells #[.int .i64 a0_0, .int .i64 a0_1, .int .i64 a0_2, .string a0_3] 23 (0, 0)) (by (with_reducible repeat (first | refine blk_drewN ?_ _ | refine blk_drew ?_ | refine blk_alloc ?_ _)); exact BK128.out) hb)
  have n4_ := Aside0.mk (below_step (by repeat (first | (with_reducible first | exact HB.out | apply below_alloc | apply pw_below_drewN | apply below_drew1 | refine below_set ?_ GE128.out) | exact HB.out)) hb)
  clear HO131
  clear HO134
  clear BK128
  clear HB
  have HO131 := n0_
  have HO134 := n1_
  have HO137 := n2_
  have BK128 := n3_
  have HB := n4_
  clear n0_ n1_ n2_ n3_ n4_
  (try clear hb)
  (try clear hb2)
  (try clear hk)
  (try clear hi)
  (try clear ho0)
  obtain ⟨Ao13, co13, eo13⟩ := Kd.R_slice HO137.out
  (first | subst eo13 | (injection eo13 with f1_ f2_ f3_; have f4_ := f1_.symm; have f5_ := f3_.symm; clear f1_ f2_ f3_; subst f4_; subst f5_))
  refine hK.out _ _ ⟨(blk_cell BK128.out 0).trans rfl, (blk_cell BK128.out 1).trans rfl, (blk_cell BK128.out 2).trans rfl, (blk_cell BK128.out 3).trans rfl⟩ (fun hHeld => ?_)
  clear hK K
  refine norm_ (a' := ?_) ?_ ?_
  rotate_left
  · show Act.put _ (some 11) _ = _
    simp only [Act.put, List.setIfInBounds_toArray, List.set_cons_zero, List.set_cons_succ, i64_w, i32_w]
    rfl
  refine one_ (i := 11) (N := some 14) #[true, true, true, true, true, true, true, true, true, true, true, true, false] rfl rfl (one_of HT_.out (by kernel_rfl)) (by decide) (fun K hK => ?_)
  refine goes_ Try.func65 (by kernel_rfl) rfl #[.slice Ao13 t135.length co13, .string a0_3] (by rfl) rfl rfl (by (try simp only [List.map_toArray, List.map_cons, List.map_nil]); first | done | rfl | (simp only [List.length_drop, List.length_take]; rfl)) ?_
  with_reducible refine (variorumref01_PutText.calls k _ _ t135 a0_3 t138 _ ?side1 ?side2 A5.out).mono ?_
  (case side1 => repeat (first | exact (Kd.R_reads' HO137.out).2.2 | (with_reducible refine Kd.C_alloc ?_ _) | (with_reducible refine Kd.C_drewN ?_ _) | (with_reducible refine Kd.C_drew ?_)))
  (case side2 => exact (Kd.R_reads' HO137.out).2.1)
  rintro e w14 ⟨v139, rfl, ho0, hb⟩
  refine ⟨_, rfl, ?_⟩
  have n0_ := Aside0.mk (Kd.R_elder' (by (with_reducible repeat (first | apply Kd.R_alloc | apply Kd.R_drewN | apply Kd.R_drew)); exact HO131.out) (Kd.R_base ho0) hb)
  have n1_ := Aside0.mk (Kd.R_elder' (by (with_reducible repeat (first | apply Kd.R_alloc | apply Kd.R_drewN | apply Kd.R_drew)); exact HO134.out) (Kd.R_base ho0) hb)
  have n2_ := Aside0.mk (Kd.R_elder' (by (with_reducible repeat (first | apply Kd.R_alloc | apply Kd.R_drewN | apply Kd.R_drew)); exact HO137.out) (Kd.R_base ho0) hb)
  have n3_ := Aside0.mk (Kd.R_lower (Kd.R_new' (Kd.R_new' (Kd.R_new' ho0 (Kd.R_lt (by (with_reducible repeat (first | apply Kd.R_alloc | apply Kd.R_drewN | apply Kd.R_drew)); exact HO131.out))) (Kd.R_lt (by (with_reducible repeat (first | apply Kd.R_alloc | apply Kd.R_drewN | apply Kd.R_drew)); exact HO134.out))) (Kd.R_lt (by (with_reducible repeat (first | apply Kd.R_alloc | apply Kd.R_drewN | apply Kd.R_drew)); exact HO137.out))) (below_size (by repeat (first | (with_reducible first | exact HB.out | apply below_alloc | apply pw_below_drewN | apply below_drew1 | refine below_set ?_ GE128.out) | exact HB.out))))
  have n4_ := Aside0.mk (blk_below (g := gb128) (o := .cells #[.int .i64 a0_0, .int .i64 a0_1, .int .i64 a0_2, .string a0_3] 23 (0, 0)) (by (with_reducible repeat (first | refine blk_drewN ?_ _ | refine blk_drew ?_ | refine blk_alloc ?_ _)); exact BK128.out) hb)
  have n5_ := Aside0.mk (below_step (by repeat (first | (with_reducible first | exact HB.out | apply below_alloc | apply pw_below_drewN | apply below_drew1 | refine below_set ?_ GE128.out) | exact HB.out)) hb)
  clear HO131
  clear HO134
  clear HO137
  clear BK128
  clear HB
  have HO131 := n0_
  have HO134 := n1_
  have HO137 := n2_
  have HO140 := n3_
  have BK128 := n4_
  have HB := n5_
  clear n0_ n1_ n2_ n3_ n4_ n5_
  (try clear hb)
  (try clear hb2)
  (try clear hk)
  (try clear hi)
  (try clear ho0)
  refine hK.out _ _ ⟨(blk_cell BK128.out 0).trans rfl, (blk_cell BK128.out 1).trans rfl, (blk_cell BK128.out 2).trans rfl, (blk_cell BK128.out 3).trans rfl⟩ (fun hHeld => ?_)
  clear hK K
  refine norm_ (a' := ?_) ?_ ?_
  rotate_left
  · show Act.put _ (some 14) _ = _
    simp only [Act.put, List.setIfInBounds_toArray, List.set_cons_zero, List.set_cons_succ, i64_w, i32_w]
    rfl
  refine pure_ (i := 12) (N := some 2) (v := ?_) (a' := ?_) #[true, true, true, true, true, true, true, true, true, true, true, true, true] rfl rfl (any_of HT_.out (by kernel_rfl)) (fun _ _ _ h => h) (Or.inl ⟨by rfl, ?_⟩) ?_ ?_
  rotate_left
  · intro w'
    go_simp
    with_reducible rfl
  rotate_left
  · simp only [Act.put, List.setIfInBounds_toArray, List.set_cons_zero, List.set_cons_succ, i64_w, i32_w]
    rfl
  refine done_ (done_of HT_.out (by kernel_rfl)) ?_
  try go_wp2
  go_ret
  exact ⟨_, by first | rfl | (simp [errW_none, errW_some] <;> rfl) | (simp [*, errW_none, errW_some] <;> rfl), by (with_reducible repeat (first | apply Kd.R_alloc | apply Kd.R_drewN | apply Kd.R_drew)); exact Kd.R_mono HO140.out (fun _ hk => trivial), by repeat (first | (with_reducible first | exact HB.out | apply below_alloc | apply pw_below_drewN | apply below_drew1 | refine below_set ?_ GE128.out) | exact HB.out)⟩

end Go.Proofs.Ytedfcjcnhgomoaa.P
end
-- MERGED YtedfcjcnhgomoaaPvariorumref12Put
section
-- Written by wip/myprint.py of this session, over the kit's print.py: a Lean function for each Go function, and the proof that the code comes to it.
namespace Go.Proofs.Ytedfcjcnhgomoaa.P
open Go.RowKit Go.Proofs.YtedfcjcnhgomoaaW.PrintWords Go.Proofs.YtedfcjcnhgomoaaW.PrintLast Go.Proofs.YtedfcjcnhgomoaaW.PrintMore
attribute [local go_sem] max2_int min2_int max_two min_two max_three min_three max_four min_four   -- for this text's walks alone
set_option linter.unusedVariables false
set_option linter.unusedSimpArgs false

/-! ### variorumref12_Put: function 14 -/
def variorumref12_Put.f (k : Nat) (a0_0 : Int) (a0_1 : Int) (a0_2 : Int) (a0_3 : ByteArray) : Option (List Int × Int) := (variorumref12_Good.f a0_0 a0_1 a0_2 a0_3).bind fun t154 => (if t154 = true then ((variorumref12_body.f k a0_0 a0_1 a0_2 a0_3).bind fun t155 => ((variorumref01_Put.f k ([] : List Int) (t155.length : Int)).bind fun t158 => ((variorumref02_Seal.f k t155).bind fun t161 => (if t158.length + t161.length < 140737488355328 then (some ((t158 ++ t161), 0)) else (none))))) else (some (([] : List Int), 2)))
theorem variorumref12_Put.mono : ∀ a0 a1 a2 a3 k, LeO (variorumref12_Put.f k a0 a1 a2 a3) (variorumref12_Put.f (k + 1) a0 a1 a2 a3) := by
  intro a0 a1 a2 a3 k
  unfold variorumref12_Put.f
  repeat' first
      | (with_reducible exact variorumref01_Put.mono _ _ _)
      | (with_reducible exact variorumref02_Seal.mono _ _)
      | (with_reducible exact variorumref12_body.mono _ _ _ _ _)
      | (with_reducible exact LeO.refl _)
      | (with_reducible exact LeO.none _)
      | (with_reducible refine LeO.ite ?_ ?_)
      | (with_reducible refine LeO.bind ?_ (fun _ => ?_))
      | exact variorumref01_Put.mono _ _ _
      | exact variorumref02_Seal.mono _ _
      | exact variorumref12_body.mono _ _ _ _ _
      | exact LeO.none _
      | refine LeO.ite ?_ ?_
      | refine LeO.bind ?_ (fun _ => ?_)
set_option maxHeartbeats 8000000 in
set_option maxRecDepth 100000 in
theorem variorumref12_Put.calls (k : Nat) (a0_0 : Int) (a0_1 : Int) (a0_2 : Int) (a0_3 : ByteArray) (r1 : List Int) (r2 : Int) (w : World) (h : variorumref12_Put.f k a0_0 a0_1 a0_2 a0_3 = some (r1, r2)) :
    Calls Try.prog 14 #[.agg #[.int .i64 a0_0, .int .i64 a0_1, .int .i64 a0_2, .string a0_3]] w fun e w' => ∃ v0_ : Value, e = .returned (.tuple #[v0_, .int .i64 r2]) ∧ Kd.R (Kd.int .u8) 5 w' w.heap.size (fun _ => True) v0_ r1 ∧ Below w.heap.size w w' := by
  have hu23 := Try.underlying23
  have HB := Aside0.mk (Below.refl w.heap.size w)
  have H : ((variorumref12_Good.f a0_0 a0_1 a0_2 a0_3).bind fun t154 => (if t154 = true then ((variorumref12_body.f k a0_0 a0_1 a0_2 a0_3).bind fun t155 => ((variorumref01_Put.f k ([] : List Int) (t155.length : Int)).bind fun t158 => ((variorumref02_Seal.f k t155).bind fun t161 => (if t158.length + t161.length < 140737488355328 then (some ((t158 ++ t161), 0)) else (none))))) else (some (([] : List Int), 2)))) = some (r1, r2) := h
  clear h
  replace H := Option.bind_eq_some_iff.mp H
  obtain ⟨t154, A20, H⟩ := H
  replace H : (if t154 = true then ((variorumref12_body.f k a0_0 a0_1 a0_2 a0_3).bind fun t155 => ((variorumref01_Put.f k ([] : List Int) (t155.length : Int)).bind fun t158 => ((variorumref02_Seal.f k t155).bind fun t161 => (if t158.length + t161.length < 140737488355328 then (some ((t158 ++ t161), 0)) else (none))))) else (some (([] : List Int), 2))) = some (r1, r2) := H
  have A2 := Aside0.mk A20
  clear A20
  by_cases c3 : t154 = true
  · subst c3
    have H1 : ((variorumref12_body.f k a0_0 a0_1 a0_2 a0_3).bind fun t155 => ((variorumref01_Put.f k ([] : List Int) (t155.length : Int)).bind fun t158 => ((variorumref02_Seal.f k t155).bind fun t161 => (if t158.length + t161.length < 140737488355328 then (some ((t158 ++ t161), 0)) else (none))))) = some (r1, r2) := by rw [if_pos rfl] at H; exact H
    clear H
    have H := H1
    clear H1
    replace H := Option.bind_eq_some_iff.mp H
    obtain ⟨t155, A40, H⟩ := H
    replace H : ((variorumref01_Put.f k ([] : List Int) (t155.length : Int)).bind fun t158 => ((variorumref02_Seal.f k t155).bind fun t161 => (if t158.length + t161.length < 140737488355328 then (some ((t158 ++ t161), 0)) else (none)))) = some (r1, r2) := H
    have A4 := Aside0.mk A40
    clear A40
    replace H := Option.bind_eq_some_iff.mp H
    obtain ⟨t158, A50, H⟩ := H
    replace H : ((variorumref02_Seal.f k t155).bind fun t161 => (if t158.length + t161.length < 140737488355328 then (some ((t158 ++ t161), 0)) else (none))) = some (r1, r2) := H
    have A5 := Aside0.mk A50
    clear A50
    replace H := Option.bind_eq_some_iff.mp H
    obtain ⟨t161, A60, H⟩ := H
    replace H : (if t158.length + t161.length < 140737488355328 then (some ((t158 ++ t161), 0)) else (none)) = some (r1, r2) := H
    have A6 := Aside0.mk A60
    clear A60
    by_cases c7 : t158.length + t161.length < 140737488355328
    · rw [if_pos c7] at H
      have LMc7 := Aside0.mk c7
      clear c7
      obtain ⟨y164, hy164⟩ : ∃ y_ : List Int, y_ = (t158 ++ t161) := ⟨_, rfl⟩
      replace H : (some (y164, 0)) = some (r1, r2) := by first | (rw [hy164]; with_reducible exact H) | (have H2_ := (Option.bind_some _ _).symm.trans H; rw [hy164]; with_reducible exact H2_) | (have H2_ := (Option.bind_some _ _).symm.trans H; with_reducible exact H2_) | with_reducible exact H | (rw [hy164]; exact H) | exact H
      have Ny164 := Aside0.mk hy164
      clear hy164
      simp only [Option.some.injEq, Prod.mk.injEq] at H
      obtain ⟨rfl, rfl⟩ := H
      go_enter Try.func14, Try.ntmps14
      go_wp2_with (first | ((with_reducible refine gate_dst (N := 1) rfl ?_); refine box_event ?hg (N := 1) ?hd (cs := #[.int .i64 a0_0, .int .i64 a0_1, .int .i64 a0_2, .string a0_3]) (t := 23) ?hr ?_; (case hd => rfl); (case hg => rfl); (case hr => first | (go_simp; done) | (go_simp; rfl)); intro gb153 hg w8 hbox hb; have n0_ := Aside0.mk (below_step (by repeat (first | (with_reducible first | exact HB.out | apply below_alloc | apply pw_below_drewN | apply below_drew1) | exact HB.out)) hb); have n1_ := Aside0.mk (hbox); have n2_ := Aside0.mk ((by rw [hg]; exact (below_size (by repeat (first | (with_reducible first | exact HB.out | apply below_alloc | apply pw_below_drewN | apply below_drew1) | exact HB.out))) : w.heap.size ≤ gb153)); have n3_ := Aside0.mk ((by rw [hg]; exact (below_size (by repeat (first | (with_reducible first | exact HB.out | apply below_alloc | apply pw_below_drewN | apply below_drew1) | exact HB.out))) : w.heap.size ≤ gb153)); clear HB; have HB := n0_; have BK153 := n1_; have GW153 := n2_; have GE153 := n3_; clear n0_ n1_ n2_ n3_; clear hb hbox hg; have hcz9_0 : w8.cell? ⟨gb153, 0, none⟩ = some (.int .i64 a0_0) := (blk_cell BK153.out 0).trans rfl; have hcz9_1 : w8.cell? ⟨gb153, 1, none⟩ = some (.int .i64 a0_1) := (blk_cell BK153.out 1).trans rfl; have hcz9_2 : w8.cell? ⟨gb153, 2, none⟩ = some (.int .i64 a0_2) := (blk_cell BK153.out 2).trans rfl; have hcz9_3 : w8.cell? ⟨gb153, 3, none⟩ = some (.string a0_3) := (blk_cell BK153.out 3).trans rfl; have hfz9_0 := blk_frozen BK153.out 0; have hfz9_1 := blk_frozen BK153.out 1; have hfz9_2 := blk_frozen BK153.out 2; have hfz9_3 := blk_frozen BK153.out 3) | ((with_reducible refine gate_callee (f := 16) rfl ?_); refine goesL_ (some 6) rfl rfl Try.func16 (by kernel_rfl) rfl #[.agg #[.int .i64 a0_0, .int .i64 a0_1, .int .i64 a0_2, .string a0_3]] rfl (by (try simp only [List.map_toArray, List.map_cons, List.map_nil]); first | done | rfl | (simp only [List.length_drop, List.length_take]; rfl)) ?_; (with_reducible refine (variorumref12_Good.calls a0_0 a0_1 a0_2 a0_3 true _ A2.out).mono ?_); rintro e w10 ⟨rfl, hb⟩; refine ⟨_, rfl, ?_⟩; have n0_ := Aside0.mk (blk_below (g := gb153) (o := .cells #[.int .i64 a0_0, .int .i64 a0_1, .int .i64 a0_2, .string a0_3] 23 (0, 0)) (by (with_reducible repeat (first | refine blk_drewN ?_ _ | refine blk_drew ?_ | refine blk_alloc ?_ _)); exact BK153.out) hb); have n1_ := Aside0.mk (below_step (by repeat (first | (with_reducible first | exact HB.out | apply below_alloc | apply pw_below_drewN | apply below_drew1 | refine below_set ?_ GE153.out) | exact HB.out)) hb); clear BK153; clear HB; have BK153 := n0_; have HB := n1_; clear n0_ n1_; (try clear hb); (try clear hb2); (try clear hk); (try clear hi); have hcz11_0 : w10.cell? ⟨gb153, 0, none⟩ = some (.int .i64 a0_0) := (blk_cell BK153.out 0).trans rfl; have hcz11_1 : w10.cell? ⟨gb153, 1, none⟩ = some (.int .i64 a0_1) := (blk_cell BK153.out 1).trans rfl; have hcz11_2 : w10.cell? ⟨gb153, 2, none⟩ = some (.int .i64 a0_2) := (blk_cell BK153.out 2).trans rfl; have hcz11_3 : w10.cell? ⟨gb153, 3, none⟩ = some (.string a0_3) := (blk_cell BK153.out 3).trans rfl; have hfz11_0 := blk_frozen BK153.out 0; have hfz11_1 := blk_frozen BK153.out 1; have hfz11_2 := blk_frozen BK153.out 2; have hfz11_3 := blk_frozen BK153.out 3) | ((with_reducible refine gate_callee (f := 40) rfl ?_); refine goesL_ (some 9) rfl rfl Try.func40 (by kernel_rfl) rfl #[.agg #[.int .i64 a0_0, .int .i64 a0_1, .int .i64 a0_2, .string a0_3]] rfl (by (try simp only [List.map_toArray, List.map_cons, List.map_nil]); first | done | rfl | (simp only [List.length_drop, List.length_take]; rfl)) ?_; (with_reducible refine (variorumref12_body.calls k a0_0 a0_1 a0_2 a0_3 t155 _ A4.out).mono ?_); rintro e w12 ⟨v156, rfl, ho0, hb⟩; refine ⟨_, rfl, ?_⟩; have n0_ := Aside0.mk (Kd.R_lower ho0 (below_size (by repeat (first | (with_reducible first | exact HB.out | apply below_alloc | apply pw_below_drewN | apply below_drew1 | refine below_set ?_ GE153.out) | exact HB.out)))); have n1_ := Aside0.mk (blk_below (g := gb153) (o := .cells #[.int .i64 a0_0, .int .i64 a0_1, .int .i64 a0_2, .string a0_3] 23 (0, 0)) (by (with_reducible repeat (first | refine blk_drewN ?_ _ | refine blk_drew ?_ | refine blk_alloc ?_ _)); exact BK153.out) hb); have n2_ := Aside0.mk (below_step (by repeat (first | (with_reducible first | exact HB.out | apply below_alloc | apply pw_below_drewN | apply below_drew1 | refine below_set ?_ GE153.out) | exact HB.out)) hb); clear BK153; clear HB; have HO157 := n0_; have BK153 := n1_; have HB := n2_; clear n0_ n1_ n2_; (try clear hb); (try clear hb2); (try clear hk); (try clear hi); (try clear ho0); obtain ⟨Ao13, co13, eo13⟩ := Kd.R_slice HO157.out; subst eo13) | ((with_reducible refine gate_callee (f := 41) rfl ?_); refine goesL_ (some 12) rfl rfl Try.func41 (by kernel_rfl) rfl #[.slice none 0 0, .int .i64 (t155.length : Int)] rfl (by (try simp only [List.map_toArray, List.map_cons, List.map_nil]); first | done | rfl | (simp only [List.length_drop, List.length_take]; rfl)) ?_; (refine (variorumref01_Put.calls k _ _ ([] : List Int) (t155.length : Int) t158 _ ?side1 ?side2 A5.out).mono ?_); (case side1 => exact Kd.C_nil _ _); (case side2 => exact Nat.le_refl _); rintro e w14 ⟨v159, rfl, ho0, hb⟩; refine ⟨_, rfl, ?_⟩; have n0_ := Aside0.mk (Kd.R_elder' (by (with_reducible repeat (first | apply Kd.R_alloc | apply Kd.R_drewN | apply Kd.R_drew)); exact HO157.out) (Kd.R_base ho0) hb); have n1_ := Aside0.mk (Kd.R_lower (Kd.R_new' ho0 (Kd.R_lt (by (with_reducible repeat (first | apply Kd.R_alloc | apply Kd.R_drewN | apply Kd.R_drew)); exact HO157.out))) (below_size (by repeat (first | (with_reducible first | exact HB.out | apply below_alloc | apply pw_below_drewN | apply below_drew1 | refine below_set ?_ GE153.out) | exact HB.out)))); have n2_ := Aside0.mk (blk_below (g := gb153) (o := .cells #[.int .i64 a0_0, .int .i64 a0_1, .int .i64 a0_2, .string a0_3] 23 (0, 0)) (by (with_reducible repeat (first | refine blk_drewN ?_ _ | refine blk_drew ?_ | refine blk_alloc ?_ _)); exact BK153.out) hb); have n3_ := Aside0.mk (below_step (by repeat (first | (with_reducible first | exact HB.out | apply below_alloc | apply pw_below_drewN | apply below_drew1 | refine below_set ?_ GE153.out) | exact HB.out)) hb); clear HO157; clear BK153; clear HB; have HO157 := n0_; have HO160 := n1_; have BK153 := n2_; have HB := n3_; clear n0_ n1_ n2_ n3_; (try clear hb); (try clear hb2); (try clear hk); (try clear hi); (try clear ho0)) | ((with_reducible refine gate_callee (f := 42) rfl ?_); refine goesL_ (some 14) rfl rfl Try.func42 (by kernel_rfl) rfl #[.slice Ao13 t155.length co13] rfl (by (try simp only [List.map_toArray, List.map_cons, List.map_nil]); first | done | rfl | (simp only [List.length_drop, List.length_take]; rfl)) ?_; (with_reducible refine (variorumref02_Seal.calls k _ _ t155 t161 _ ?side1 ?side2 A6.out).mono ?_); (case side1 => repeat (first | exact (Kd.R_reads' HO157.out).2.2 | (with_reducible refine Kd.C_alloc ?_ _) | (with_reducible refine Kd.C_drewN ?_ _) | (with_reducible refine Kd.C_drew ?_))); (case side2 => exact (Kd.R_reads' HO157.out).2.1); rintro e w15 ⟨v162, rfl, ho0, hb⟩; refine ⟨_, rfl, ?_⟩; have n0_ := Aside0.mk (Kd.R_elder' (by (with_reducible repeat (first | apply Kd.R_alloc | apply Kd.R_drewN | apply Kd.R_drew)); exact HO157.out) (Kd.R_base ho0) hb); have n1_ := Aside0.mk (Kd.R_elder' (by (with_reducible repeat (first | apply Kd.R_alloc | apply Kd.R_drewN | apply Kd.R_drew)); exact HO160.out) (Kd.R_base ho0) hb); have n2_ := Aside0.mk (Kd.R_lower (Kd.R_new' (Kd.R_new' ho0 (Kd.R_lt (by (with_reducible repeat (first | apply Kd.R_alloc | apply Kd.R_drewN | apply Kd.R_drew)); exact HO157.out))) (Kd.R_lt (by (with_reducible repeat (first | apply Kd.R_alloc | apply Kd.R_drewN | apply Kd.R_drew)); exact HO160.out))) (below_size (by repeat (first | (with_reducible first | exact HB.out | apply below_alloc | apply pw_below_drewN | apply below_drew1 | refine below_set ?_ GE153.out) | exact HB.out)))); have n3_ := Aside0.mk (blk_below (g := gb153) (o := .cells #[.int .i64 a0_0, .int .i64 a0_1, .int .i64 a0_2, .string a0_3] 23 (0, 0)) (by (with_reducible repeat (first | refine blk_drewN ?_ _ | refine blk_drew ?_ | refine blk_alloc ?_ _)); exact BK153.out) hb); have n4_ := Aside0.mk (below_step (by repeat (first | (with_reducible first | exact HB.out | apply below_alloc | apply pw_below_drewN | apply below_drew1 | refine below_set ?_ GE153.out) | exact HB.out)) hb); clear HO157; clear HO160; clear BK153; clear HB; have HO157 := n0_; have HO160 := n1_; have HO163 := n2_; have BK153 := n3_; have HB := n4_; clear n0_ n1_ n2_ n3_ n4_; (try clear hb); (try clear hb2); (try clear hk); (try clear hi); (try clear ho0); obtain ⟨Ao17, co17, eo17⟩ := Kd.R_slice HO163.out; subst eo17) | ((with_reducible refine gate_builtin (b := .append) (xs := #[.tmp 12, .tmp 14]) rfl ?_); at_builtin; refine Kd.R_append_rows (Kd.int .u8) (w0 := w) w.heap.size rfl (.tmp 12) (.tmp 14) 25 5 (.int .u8 0) 1 rfl Try.underlying25 info5 rfl (by decide) (by omega) v159 t158 t161 _ _ _ (fun k_ => some k_ ≠ (.slice Ao13 t155.length co13 : Value).ownBlock ∧ some k_ ≠ (.slice Ao17 t161.length co17 : Value).ownBlock) (fun _ => False) rfl rfl ?aO ?aR (fun _ _ h => h) (fun _ h => h.elim) ?aF ?aB ?aS ?aL ?_; (case aR => repeat (first | exact (Kd.R_reads' HO163.out).2.2 | (with_reducible refine Kd.C_alloc ?_ _) | (with_reducible refine Kd.C_drewN ?_ _) | (with_reducible refine Kd.C_drew ?_))); (case aB => exact (by repeat (first | (with_reducible first | exact HB.out | apply below_alloc | apply pw_below_drewN | apply below_drew1 | refine below_set ?_ GE153.out) | exact HB.out))); (case aF => exact (fun k_ hk => ⟨Kd.fresh' (Kd.R_lt (by (with_reducible repeat (first | apply Kd.R_alloc | apply Kd.R_drewN | apply Kd.R_drew)); exact HO157.out)) k_ hk, Kd.fresh' (Kd.R_lt (by (with_reducible repeat (first | apply Kd.R_alloc | apply Kd.R_drewN | apply Kd.R_drew)); exact HO163.out)) k_ hk⟩)); (case aO => exact (by (with_reducible repeat (first | apply Kd.R_alloc | apply Kd.R_drewN | apply Kd.R_drew)); exact Kd.R_mono HO160.out (fun _ hk => ⟨hk.1.2, hk.2⟩))); (case aS => exact (below_size (by repeat (first | (with_reducible first | exact HB.out | apply below_alloc | apply pw_below_drewN | apply below_drew1 | refine below_set ?_ GE153.out) | exact HB.out)))); (case aL => have := LMc7.out; omega); intro v165 w16 ho hb hg hat; rw [← Ny164.out] at ho; have n0_ := Aside0.mk (blk_grown (g := gb153) (o := .cells #[.int .i64 a0_0, .int .i64 a0_1, .int .i64 a0_2, .string a0_3] 23 (0, 0)) (by (with_reducible repeat (first | refine blk_drewN ?_ _ | refine blk_drew ?_ | refine blk_alloc ?_ _)); exact BK153.out) hg (Kd.R_ne HO160.out BK153.out (by decide))); have n1_ := Aside0.mk (Kd.R_after (ok := (fun k_ => some k_ ≠ (.slice Ao17 t161.length co17 : Value).ownBlock)) (by (with_reducible repeat (first | apply Kd.R_alloc | apply Kd.R_drewN | apply Kd.R_drew)); exact Kd.R_mono HO157.out (fun _ hk => ⟨hk.2, hk.1.2⟩)) hg hat); have n2_ := Aside0.mk (Kd.R_after (ok := (fun k_ => some k_ ≠ (.slice Ao13 t155.length co13 : Value).ownBlock)) (by (with_reducible repeat (first | apply Kd.R_alloc | apply Kd.R_drewN | apply Kd.R_drew)); exact Kd.R_mono HO163.out (fun _ hk => ⟨hk.1.2, hk.2⟩)) hg hat); have n3_ := Aside0.mk (hb); have n4_ := Aside0.mk (ho); clear BK153; clear HO157; clear HO163; clear HB; clear HO160; have BK153 := n0_; have HO157 := n1_; have HO163 := n2_; have HB := n3_; have HO166 := n4_; clear n0_ n1_ n2_ n3_ n4_; clear ho hb hg hat))
      go_ret2
      exact ⟨_, by first | rfl | (simp [errW_none, errW_some] <;> rfl) | (simp [*, errW_none, errW_some] <;> rfl), by (with_reducible repeat (first | apply Kd.R_alloc | apply Kd.R_drewN | apply Kd.R_drew)); exact Kd.R_mono HO166.out (fun _ hk => trivial), by repeat (first | (with_reducible first | exact HB.out | apply below_alloc | apply pw_below_drewN | apply below_drew1 | refine below_set ?_ GE153.out) | exact HB.out)⟩
    · rw [if_neg c7] at H
      exact absurd H (by simp)
  · replace c3 := Bool.eq_false_iff.mpr c3
    subst c3
    have H1 : (some (([] : List Int), 2)) = some (r1, r2) := by rw [if_neg (show ¬ (false = true) by decide)] at H; exact H
    clear H
    have H := H1
    clear H1
    simp only [Option.some.injEq, Prod.mk.injEq] at H
    obtain ⟨rfl, rfl⟩ := H
    go_enter Try.func14, Try.ntmps14
    go_wp2_with (first | ((with_reducible refine gate_dst (N := 1) rfl ?_); refine box_event ?hg (N := 1) ?hd (cs := #[.int .i64 a0_0, .int .i64 a0_1, .int .i64 a0_2, .string a0_3]) (t := 23) ?hr ?_; (case hd => rfl); (case hg => rfl); (case hr => first | (go_simp; done) | (go_simp; rfl)); intro gb153 hg w18 hbox hb; have n0_ := Aside0.mk (below_step (by repeat (first | (with_reducible first | exact HB.out | apply below_alloc | apply pw_below_drewN | apply below_drew1) | exact HB.out)) hb); have n1_ := Aside0.mk (hbox); have n2_ := Aside0.mk ((by rw [hg]; exact (below_size (by repeat (first | (with_reducible first | exact HB.out | apply below_alloc | apply pw_below_drewN | apply below_drew1) | exact HB.out))) : w.heap.size ≤ gb153)); have n3_ := Aside0.mk ((by rw [hg]; exact (below_size (by repeat (first | (with_reducible first | exact HB.out | apply below_alloc | apply pw_below_drewN | apply below_drew1) | exact HB.out))) : w.heap.size ≤ gb153)); clear HB; have HB := n0_; have BK153 := n1_; have GW153 := n2_; have GE153 := n3_; clear n0_ n1_ n2_ n3_; clear hb hbox hg; have hcz19_0 : w18.cell? ⟨gb153, 0, none⟩ = some (.int .i64 a0_0) := (blk_cell BK153.out 0).trans rfl; have hcz19_1 : w18.cell? ⟨gb153, 1, none⟩ = some (.int .i64 a0_1) := (blk_cell BK153.out 1).trans rfl; have hcz19_2 : w18.cell? ⟨gb153, 2, none⟩ = some (.int .i64 a0_2) := (blk_cell BK153.out 2).trans rfl; have hcz19_3 : w18.cell? ⟨gb153, 3, none⟩ = some (.string a0_3) := (blk_cell BK153.out 3).trans rfl; have hfz19_0 := blk_frozen BK153.out 0; have hfz19_1 := blk_frozen BK153.out 1; have hfz19_2 := blk_frozen BK153.out 2; have hfz19_3 := blk_frozen BK153.out 3) | ((with_reducible refine gate_callee (f := 16) rfl ?_); refine goesL_ (some 6) rfl rfl Try.func16 (by kernel_rfl) rfl #[.agg #[.int .i64 a0_0, .int .i64 a0_1, .int .i64 a0_2, .string a0_3]] rfl (by (try simp only [List.map_toArray, List.map_cons, List.map_nil]); first | done | rfl | (simp only [List.length_drop, List.length_take]; rfl)) ?_; (with_reducible refine (variorumref12_Good.calls a0_0 a0_1 a0_2 a0_3 false _ A2.out).mono ?_); rintro e w20 ⟨rfl, hb⟩; refine ⟨_, rfl, ?_⟩; have n0_ := Aside0.mk (blk_below (g := gb153) (o := .cells #[.int .i64 a0_0, .int .i64 a0_1, .int .i64 a0_2, .string a0_3] 23 (0, 0)) (by (with_reducible repeat (first | refine blk_drewN ?_ _ | refine blk_drew ?_ | refine blk_alloc ?_ _)); exact BK153.out) hb); have n1_ := Aside0.mk (below_step (by repeat (first | (with_reducible first | exact HB.out | apply below_alloc | apply pw_below_drewN | apply below_drew1 | refine below_set ?_ GE153.out) | exact HB.out)) hb); clear BK153; clear HB; have BK153 := n0_; have HB := n1_; clear n0_ n1_; (try clear hb); (try clear hb2); (try clear hk); (try clear hi)))
    go_ret2
    exact ⟨_, by first | rfl | (simp [errW_none, errW_some] <;> rfl) | (simp [*, errW_none, errW_some] <;> rfl), by first | exact Kd.R_nil _ _ _ _ _ | exact Kd.N_nil _ _ _ _ _ | exact Kd.V_nil _ _ _ _ _ | exact Kd.Q_nil _ _ _ _ _ | exact Kd.S_nil _ _ _ _ _, by repeat (first | (with_reducible first | exact HB.out | apply below_alloc | apply pw_below_drewN | apply below_drew1 | refine below_set ?_ GE153.out) | exact HB.out)⟩

end Go.Proofs.Ytedfcjcnhgomoaa.P
end
-- MERGED YtedfcjcnhgomoaaFrameP
section
/- The walks of frames: whether a packet is right, its body, its frame; the reference's the same. -/
namespace Go.Proofs.Ytedfcjcnhgomoaa.FrameP
open Go.RowKit Go.Proofs.Ytedfcjcnhgomoaa.P Go.Proofs.YtedfcjcnhgomoaaW.PrintWords Go.Proofs.YtedfcjcnhgomoaaW.PrintLast Go.Proofs.YtedfcjcnhgomoaaW.PrintMore Go.Proofs.Ytedfcjcnhgomoaa.Own Go.Proofs.Ytedfcjcnhgomoaa.Vy
set_option linter.unusedSimpArgs false
set_option linter.unusedVariables false

/-- A packet. -/
structure Pk where
  e : Int
  s : Int
  a : Int
  d : ByteArray
def Pk.val (p : Pk) : Value := .agg #[.int .i64 p.e, .int .i64 p.s, .int .i64 p.a, .string p.d]
def numB (n : Int) : Bool := decide (0 ≤ n) && decide (n ≤ 4611686018427387904)
/-- Is it right? -/
def good (p : Pk) : Bool := numB p.e && numB p.s && numB p.a && decide (p.d.size ≤ 65536) && (decide (0 < p.s) || decide (p.d.size = 0))
def body (p : Pk) : List Int := putTL (putL (putL (putL [] p.e) p.s) p.a) (numsOf p.d)
def frame (p : Pk) : List Int := putL [] ((body p).length : Int) ++ Nice.sealL (body p)
theorem ok_body (p : Pk) : Byt.Ok (body p) := ok_putTL (ok_putL (ok_putL (ok_putL Byt.ok_nil _) _) _) (ok_numsOf _)
theorem body_len (p : Pk) : (body p).length ≤ p.d.size + 36 := by
  unfold body putTL
  have h1 := putL_len [] p.e
  have h2 := putL_len (putL [] p.e) p.s
  have h3 := putL_len (putL (putL [] p.e) p.s) p.a
  have h4 := putL_len (putL (putL (putL [] p.e) p.s) p.a) ((numsOf p.d).length : Int)
  rw [List.length_append, numsOf_length]
  simp only [List.length_nil] at h1
  rw [numsOf_length] at h4
  omega
theorem frame_len (p : Pk) : (frame p).length ≤ p.d.size + 49 := by
  unfold frame
  have h1 := body_len p
  have h2 := putL_len [] ((body p).length : Int)
  rw [List.length_append, Nice.sealL_length]
  simp only [List.length_nil] at h2
  omega
theorem ok_frame (p : Pk) : Byt.Ok (frame p) := Byt.ok_append (ok_putL Byt.ok_nil _) (Nice.sealL_ok (ok_body p))
theorem empty_iff (d : ByteArray) : (d.toList == ([] : List UInt8)) = decide (d.size = 0) := by
  rw [Bool.eq_iff_iff]
  simp only [beq_iff_eq, decide_eq_true_eq]
  rw [ByteArray.toList_eq]
  constructor
  · intro h
    show d.data.size = 0
    rw [← Array.length_toList, h]; rfl
  · intro h
    have : d.data.toList.length = 0 := by rw [Array.length_toList]; exact h
    exact List.eq_nil_of_length_eq_zero this

theorem numB_low {n : Int} (h : n < 0) : numB n = false := by unfold numB; rw [decide_eq_false (by omega)]; rfl
theorem numB_high {n : Int} (h : 4611686018427387904 < n) : numB n = false := by unfold numB; rw [decide_eq_false (p := n ≤ 4611686018427387904) (by omega), Bool.and_false]
theorem numB_ok {n : Int} (h : 0 ≤ n) (h2 : n ≤ 4611686018427387904) : numB n = true := by unfold numB; rw [decide_eq_true h, decide_eq_true h2]; rfl
set_option maxRecDepth 100000 in
theorem index3 (e s a : Int) (i : Int) (x : Int) (h : (#[Value.int .i64 e, .int .i64 s, .int .i64 a] : Array Value)[i.toNat]? = some (.int .i64 x)) (h0 : decide (0 ≤ i ∧ i < 3) = true) :
    ∀ W : World, (Instr.index 71 (.agg #[.int .i64 e, .int .i64 s, .int .i64 a]) (.int .i64 i)).run Try.prog W = .ok (.int .i64 x) W := by
  intro W
  have h1 := of_decide_eq_true h0
  have h2 : i = 0 ∨ i = 1 ∨ i = 2 := by omega
  rcases h2 with rfl | rfl | rfl
  · obtain rfl : e = x := by simpa using h
    rfl
  · obtain rfl : s = x := by simpa using h
    rfl
  · obtain rfl : a = x := by simpa using h
    rfl
set_option maxHeartbeats 2000000 in
set_option maxRecDepth 100000 in
theorem good_c (p : Pk) (w : World) : Calls Try.prog 15 #[p.val] w fun e w' => e = .returned (.bool (good p)) ∧ Below w.heap.size w w' := by
  obtain ⟨e, s, a, d⟩ := p
  unfold Pk.val
  simp only
  have HE := Aside0.mk (empty_iff d)
  have HGD := Aside0.mk (show good ⟨e, s, a, d⟩ = (numB e && numB s && numB a && decide (d.size ≤ 65536) && (decide (0 < s) || decide (d.size = 0))) from rfl)
  go_enter Try.func15, Try.ntmps15
  go_wp2_with fail
  have hx0 := index3 e s a 0 e rfl rfl
  have hx1 := index3 e s a 1 s rfl rfl
  have hx2 := index3 e s a 2 a rfl rfl
  have HB := Aside0.mk (below_alloc (Below.refl w.heap.size w) (.cells #[.int .i64 e, .int .i64 s, .int .i64 a, .string d] 23))
  go_loopw [12] (fun i wr => ∃ k : Nat, k ≤ 3 ∧ i = .int .i64 (k : Int) ∧ (0 < k → numB e = true) ∧ (1 < k → numB s = true) ∧ (2 < k → numB a = true) ∧ wr = w.alloc (.cells #[.int .i64 e, .int .i64 s, .int .i64 a, .string d] 23)) (fun i _ => 3 - (intOf i).toNat)
  case atStart => exact ⟨0, by omega, rfl, fun h => absurd h (by omega), fun h => absurd h (by omega), fun h => absurd h (by omega), rfl⟩
  case round =>
    obtain ⟨k, hk, rfl, hn0, hn1, hn2, rfl⟩ := hrel
    have h5 : k = 0 ∨ k = 1 ∨ k = 2 ∨ k = 3 := by omega
    clear hk
    rcases h5 with rfl | rfl | rfl | rfl
    · by_cases h1 : e < 0
      · go_wp2_with fail
        go_ret
        exact ⟨by rw [HGD.out, show numB e = false from numB_low h1]; simp, HB.out⟩
      · by_cases h2 : 4611686018427387904 < e
        · have h3 : decide (e < 0) = false := by simp; omega
          go_wp2_with fail
          go_ret
          exact ⟨by rw [HGD.out, show numB e = false from numB_high h2]; simp, HB.out⟩
        · have h3 : decide (e < 0) = false := by simp; omega
          have h4 : decide (4611686018427387904 < e) = false := by simp; omega
          have HN := Aside0.mk (show numB e = true from numB_ok (by omega) (by omega))
          go_wp2_with fail
          go_roundw
          case rel => exact ⟨1, by omega, rfl, fun _ => HN.out, fun h => absurd h (by omega), fun h => absurd h (by omega), by first | rfl | trivial⟩
          case measure => simp [intOf]
    · by_cases h1 : s < 0
      · go_wp2_with fail
        go_ret
        exact ⟨by rw [HGD.out, show numB s = false from numB_low h1]; simp, HB.out⟩
      · by_cases h2 : 4611686018427387904 < s
        · have h3 : decide (s < 0) = false := by simp; omega
          go_wp2_with fail
          go_ret
          exact ⟨by rw [HGD.out, show numB s = false from numB_high h2]; simp, HB.out⟩
        · have h3 : decide (s < 0) = false := by simp; omega
          have h4 : decide (4611686018427387904 < s) = false := by simp; omega
          have HN := Aside0.mk (show numB s = true from numB_ok (by omega) (by omega))
          go_wp2_with fail
          go_roundw
          case rel => exact ⟨2, by omega, rfl, fun _ => hn0 (by omega), fun _ => HN.out, fun h => absurd h (by omega), by first | rfl | trivial⟩
          case measure => simp [intOf]
    · by_cases h1 : a < 0
      · go_wp2_with fail
        go_ret
        exact ⟨by rw [HGD.out, show numB a = false from numB_low h1]; simp, HB.out⟩
      · by_cases h2 : 4611686018427387904 < a
        · have h3 : decide (a < 0) = false := by simp; omega
          go_wp2_with fail
          go_ret
          exact ⟨by rw [HGD.out, show numB a = false from numB_high h2]; simp, HB.out⟩
        · have h3 : decide (a < 0) = false := by simp; omega
          have h4 : decide (4611686018427387904 < a) = false := by simp; omega
          have HN := Aside0.mk (show numB a = true from numB_ok (by omega) (by omega))
          go_wp2_with fail
          go_roundw
          case rel => exact ⟨3, by omega, rfl, fun _ => hn0 (by omega), fun _ => hn1 (by omega), fun _ => HN.out, by first | rfl | trivial⟩
          case measure => simp [intOf]
    · have N0 := Aside0.mk (hn0 (by omega))
      have N1 := Aside0.mk (hn1 (by omega))
      have N2 := Aside0.mk (hn2 (by omega))
      clear hn0 hn1 hn2
      by_cases h1 : (d.size : Int) ≤ 65536
      · by_cases h2 : 0 < s
        · go_wp2_with fail
          go_ret
          exact ⟨by rw [HGD.out, N0.out, N1.out, N2.out, decide_eq_true (show d.size ≤ 65536 by omega), decide_eq_true h2]; rfl, HB.out⟩
        · have h3 : decide (0 < s) = false := by simp; omega
          by_cases h4 : d.size = 0
          · have h5 : (d.toList == ([] : List UInt8)) = true := by rw [HE.out]; simpa using h4
            have HZ := Aside0.mk (decide_eq_true h4)
            have h6 : d.toList = [] := by simpa using h5
            clear h4
            go_wp2_with fail
            go_ret
            exact ⟨by rw [HGD.out, N0.out, N1.out, N2.out, decide_eq_true (show d.size ≤ 65536 by omega), HZ.out]; simp; first | rfl | skip, HB.out⟩
          · have h5 : (d.toList == ([] : List UInt8)) = false := by rw [HE.out]; simpa using h4
            have HZ := Aside0.mk (decide_eq_false h4)
            have h6 : ¬ d.toList = [] := by simpa using h5
            clear h4
            go_wp2_with fail
            go_ret
            exact ⟨by rw [HGD.out, N0.out, N1.out, N2.out, decide_eq_true (show d.size ≤ 65536 by omega), HZ.out, h3]; simp; first | rfl | skip, HB.out⟩
      · have h2 : (65536 : Int) < (d.size : Int) := by omega
        have HZ := Aside0.mk (show decide (d.size ≤ 65536) = false by simp; omega)
        go_wp2_with fail
        go_ret
        exact ⟨by rw [HGD.out, HZ.out]; simp; first | rfl | skip, HB.out⟩

set_option maxHeartbeats 2000000 in
set_option maxRecDepth 100000 in
theorem body_c (p : Pk) (w : World) (hd : p.d.size ≤ 140737488000000) : Calls Try.prog 37 #[p.val] w fun e w' => ∃ v, e = .returned v ∧ Gr w.heap.size 5 w' v (body p) ∧ Below w.heap.size w w' := by
  obtain ⟨e, s, a, d⟩ := p
  unfold Pk.val body
  simp only at hd ⊢
  have HD := Aside0.mk hd
  have hx0 := index3 e s a 0 e rfl rfl
  have hx1 := index3 e s a 1 s rfl rfl
  have hx2 := index3 e s a 2 a rfl rfl
  have q1 := putL_len [] e
  have q2 := putL_len (putL [] e) s
  have q3 := putL_len (putL (putL [] e) s) a
  simp only [List.length_nil] at q1
  have Q1 := Aside0.mk q1
  have Q2 := Aside0.mk q2
  have Q3 := Aside0.mk q3
  clear hd q1 q2 q3
  go_enter Try.func37, Try.ntmps37
  go_wp2_with fail
  have hh := Own.heap_new w (.cells #[.int .i64 e, .int .i64 s, .int .i64 a, .string d] 23)
  have HH := Aside0.mk hh
  have hsz : w.heap.size < (w.alloc (.cells #[.int .i64 e, .int .i64 s, .int .i64 a, .string d] 23)).heap.size := by simp
  have HB := Aside0.mk (below_alloc (Below.refl w.heap.size w) (.cells #[.int .i64 e, .int .i64 s, .int .i64 a, .string d] 23))
  obtain ⟨w0, hw0⟩ : ∃ w0, w0 = w.alloc (.cells #[.int .i64 e, .int .i64 s, .int .i64 a, .string d] 23) := ⟨_, rfl⟩
  rw [← hw0] at HH HB hsz ⊢
  have HSZ := Aside0.mk hsz
  clear hw0 hh hsz
  go_loopw [3, 13] (fun bv i wr => ∃ (k : Nat) (l : List Int), k ≤ 3 ∧ i = .int .i64 (k : Int) ∧ Sl wr bv l ∧ (k = 0 → l = []) ∧ (k = 1 → l = putL [] e) ∧ (k = 2 → l = putL (putL [] e) s) ∧ (k = 3 → l = putL (putL (putL [] e) s) a) ∧ Below w.heap.size w wr ∧ wr.heap[w.heap.size]? = some (.cells #[.int .i64 e, .int .i64 s, .int .i64 a, .string d] 23 (0, 0))) (fun _ i _ => 3 - (intOf i).toNat)
  case atStart => exact ⟨0, [], by omega, rfl, Sl.nil _, fun _ => rfl, fun h => absurd h (by omega), fun h => absurd h (by omega), fun h => absurd h (by omega), HB.out, HH.out⟩
  case round =>
    clear HB HH
    obtain ⟨k, l, hk, rfl, hs, l0, l1, l2, l3, hb, hh⟩ := hrel
    have HS := Aside0.mk hs
    have HB := Aside0.mk hb
    have HH := Aside0.mk hh
    have h5 : k = 0 ∨ k = 1 ∨ k = 2 ∨ k = 3 := by omega
    clear hk hs hb hh
    rcases h5 with rfl | rfl | rfl | rfl
    · have L := Aside0.mk (l0 rfl)
      clear l0 l1 l2 l3
      go_wp2_with fail
      refine (VaryP.nPut _ l e _ HS.out (by rw [L.out]; have := Q1.out; have := Q2.out; have := Q3.out; (try simp only [List.length_nil]); omega)).mono ?_
      rintro e1 w1 ⟨v1, rfl, hg, hb⟩
      have HS1 := Aside0.mk hg.sl
      rw [L.out] at HS1
      have HB1 := Aside0.mk (HB.out.trans (hb.mono HB.out.size))
      have HH1 := Aside0.mk ((hb.block _ (Array.getElem?_eq_some_iff.1 HH.out).1).trans HH.out)
      clear hg hb
      go_wp2_with fail
      go_roundw
      case rel => exact ⟨1, _, by omega, rfl, HS1.out, fun h => absurd h (by omega), fun _ => rfl, fun h => absurd h (by omega), fun h => absurd h (by omega), HB1.out, HH1.out⟩
      case measure => simp [intOf]
    · have L := Aside0.mk (l1 rfl)
      clear l0 l1 l2 l3
      go_wp2_with fail
      refine (VaryP.nPut _ l s _ HS.out (by rw [L.out]; have := Q1.out; have := Q2.out; have := Q3.out; (try simp only [List.length_nil]); omega)).mono ?_
      rintro e1 w1 ⟨v1, rfl, hg, hb⟩
      have HS1 := Aside0.mk hg.sl
      rw [L.out] at HS1
      have HB1 := Aside0.mk (HB.out.trans (hb.mono HB.out.size))
      have HH1 := Aside0.mk ((hb.block _ (Array.getElem?_eq_some_iff.1 HH.out).1).trans HH.out)
      clear hg hb
      go_wp2_with fail
      go_roundw
      case rel => exact ⟨2, _, by omega, rfl, HS1.out, fun h => absurd h (by omega), fun h => absurd h (by omega), fun _ => rfl, fun h => absurd h (by omega), HB1.out, HH1.out⟩
      case measure => simp [intOf]
    · have L := Aside0.mk (l2 rfl)
      clear l0 l1 l2 l3
      go_wp2_with fail
      refine (VaryP.nPut _ l a _ HS.out (by rw [L.out]; have := Q1.out; have := Q2.out; have := Q3.out; (try simp only [List.length_nil]); omega)).mono ?_
      rintro e1 w1 ⟨v1, rfl, hg, hb⟩
      have HS1 := Aside0.mk hg.sl
      rw [L.out] at HS1
      have HB1 := Aside0.mk (HB.out.trans (hb.mono HB.out.size))
      have HH1 := Aside0.mk ((hb.block _ (Array.getElem?_eq_some_iff.1 HH.out).1).trans HH.out)
      clear hg hb
      go_wp2_with fail
      go_roundw
      case rel => exact ⟨3, _, by omega, rfl, HS1.out, fun h => absurd h (by omega), fun h => absurd h (by omega), fun h => absurd h (by omega), fun _ => rfl, HB1.out, HH1.out⟩
      case measure => simp [intOf]
    · have L := Aside0.mk (l3 rfl)
      clear l0 l1 l2 l3
      have hc3 : wr.cell? ⟨w.heap.size, 3, none⟩ = some (.string d) := by rw [cell_of_row wr _ 3 _ _ _ HH.out]; rfl
      go_wp2_with fail
      refine (VaryP.nPutText _ l d _ HS.out (by rw [L.out]; have := Q1.out; have := Q2.out; have := Q3.out; have := HD.out; omega)).mono ?_
      rintro e1 w1 ⟨v1, rfl, hg, hb⟩
      have HG1 := Aside0.mk (hg.mono HB.out.size)
      rw [L.out] at HG1
      have HB1 := Aside0.mk (HB.out.trans (hb.mono HB.out.size))
      clear hg hb
      go_wp2_with fail
      go_ret
      exact ⟨_, rfl, HG1.out, HB1.out⟩
set_option maxHeartbeats 2000000 in
set_option maxRecDepth 100000 in
theorem put_c (p : Pk) (w : World) : Calls Try.prog 13 #[p.val] w fun e w' => ∃ v, e = .returned (.tuple #[v, .int .i64 (if good p then 0 else 2)]) ∧ Gr w.heap.size 5 w' v (if good p then frame p else []) ∧ Below w.heap.size w w' := by
  have HL := Aside0.mk (frame_len p)
  have HBL := Aside0.mk (body_len p)
  have HPV := Aside0.mk (show p.val = .agg #[.int .i64 p.e, .int .i64 p.s, .int .i64 p.a, .string p.d] from rfl)
  have HGD := Aside0.mk (show good p = true → p.d.size ≤ 65536 by
    intro h
    unfold good at h
    simp only [Bool.and_eq_true, decide_eq_true_eq] at h
    exact h.1.2)
  have hg := good_c p
  have hbd := body_c p
  rw [HPV.out] at hg hbd ⊢
  have HG := Aside0.mk hg
  have HBD := Aside0.mk hbd
  have HF := Aside0.mk (show frame p = putL [] ((body p).length : Int) ++ Nice.sealL (body p) from rfl)
  clear hg hbd HPV
  cases hgp : good p with
  | false =>
    rw [hgp] at HG
    clear hgp
    go_enter Try.func13, Try.ntmps13
    go_wp2_with fail
    refine (HG.out _).mono ?_
    rintro e w1 ⟨rfl, hb⟩
    have HB1 := Aside0.mk ((below_alloc (Below.refl w.heap.size w) _).trans (hb.mono (by simp)))
    clear hb
    go_wp2_with fail
    go_ret2
    exact ⟨_, rfl, Gr.nil _ _ _, HB1.out⟩
  | true =>
    rw [hgp] at HG
    have hd := HGD.out hgp
    clear hgp
    have HD := Aside0.mk hd
    have hbl : ((body p).length : Int) ≤ 65572 := by have := HBL.out; omega
    clear hd
    go_enter Try.func13, Try.ntmps13
    go_wp2_with fail
    obtain ⟨w0, hw0⟩ : ∃ w0, w0 = w.alloc (.cells #[.int .i64 p.e, .int .i64 p.s, .int .i64 p.a, .string p.d] 23) := ⟨_, rfl⟩
    have HB0 := Aside0.mk (show Below w.heap.size w w0 by rw [hw0]; exact below_alloc (Below.refl _ _) _)
    have HH0 := Aside0.mk (show w0.heap[w.heap.size]? = some (.cells #[.int .i64 p.e, .int .i64 p.s, .int .i64 p.a, .string p.d] 23 (0, 0)) by rw [hw0]; exact Own.heap_new _ _)
    rw [← hw0]
    clear hw0
    refine (HG.out _).mono ?_
    rintro e w1 ⟨rfl, hb⟩
    have HB1 := Aside0.mk (HB0.out.trans (hb.mono HB0.out.size))
    have hh1 := (hb.block _ (Array.getElem?_eq_some_iff.1 HH0.out).1).trans HH0.out
    have c0 : w1.cell? ⟨w.heap.size, 0, none⟩ = some (.int .i64 p.e) := by rw [cell_of_row w1 _ 0 _ _ _ hh1]; rfl
    have c1 : w1.cell? ⟨w.heap.size, 1, none⟩ = some (.int .i64 p.s) := by rw [cell_of_row w1 _ 1 _ _ _ hh1]; rfl
    have c2 : w1.cell? ⟨w.heap.size, 2, none⟩ = some (.int .i64 p.a) := by rw [cell_of_row w1 _ 2 _ _ _ hh1]; rfl
    have c3 : w1.cell? ⟨w.heap.size, 3, none⟩ = some (.string p.d) := by rw [cell_of_row w1 _ 3 _ _ _ hh1]; rfl
    clear hh1
    clear hb HB0 HH0
    go_wp2_with fail
    refine (HBD.out _ (by have := HD.out; omega)).mono ?_
    rintro e w2 ⟨v2, rfl, hg2, hb2⟩
    have hs2 := hg2.sl
    obtain ⟨A2, cc2, rfl, hc2, hC2⟩ := hs2
    have HS2 := Aside0.mk (Sl.mk hC2 hc2)
    have HB2 := Aside0.mk (HB1.out.trans (hb2.mono HB1.out.size))
    clear hg2 hb2 hC2 HB1 c0 c1 c2 c3
    go_wp2_with fail
    refine (VaryP.nPut _ [] ((body p).length : Int) _ (Sl.nil _) (by decide)).mono ?_
    rintro e w3 ⟨v3, rfl, hg3, hb3⟩
    have HG3 := Aside0.mk (hg3.mono HB2.out.size)
    have HS3 := Aside0.mk (HS2.out.below hb3)
    have HB3 := Aside0.mk (HB2.out.trans (hb3.mono HB2.out.size))
    clear hg3 hb3 HS2 HB2
    go_wp2_with fail
    refine (Nice.nSeal _ (body p) _ HS3.out (by have := HBL.out; have := HD.out; omega)).mono ?_
    rintro e w4 ⟨v4, rfl, hs4, hb4⟩
    have HG4 := Aside0.mk (HG3.out.below hb4)
    have HS4 := Aside0.mk hs4
    have HB4 := Aside0.mk (HB3.out.trans (hb4.mono HB3.out.size))
    clear hs4 hb4 HG3 HS3 HB3
    go_wp2_with (at_builtin; refine wpList_gr rfl rfl Try.underlying25 info5 HB4.out.size rfl HG4.out rfl HS4.out ?b1 ?_)
    case b1 => have := HL.out; rw [HF.out, List.length_append] at this; have := HD.out; omega
    rw [← HF.out]
    intro v5 w5 hg5 hb5
    have HG5 := Aside0.mk hg5
    have HB5 := Aside0.mk (HB4.out.trans hb5)
    clear hg5 hb5 HG4 HS4 HB4
    go_wp2_with fail
    go_ret2
    exact ⟨_, rfl, HG5.out, HB5.out⟩

/-! The reference's. -/
theorem num_f (n : Int) : variorumref12_num.f n = some (numB n) := by
  unfold variorumref12_num.f numB
  by_cases h : n ≥ 0
  · rw [if_pos h, decide_eq_true (show 0 ≤ n from h), Bool.true_and]
  · rw [if_neg h, decide_eq_false (show ¬ 0 ≤ n from h), Bool.false_and]
theorem rgood_f (p : Pk) : variorumref12_Good.f p.e p.s p.a p.d = some (good p) := by
  unfold variorumref12_Good.f good
  rw [num_f, Option.bind_some]
  cases numB p.e with
  | false => simp
  | true =>
    rw [if_pos rfl, num_f, Option.bind_some]
    cases numB p.s with
    | false => simp
    | true =>
      rw [if_pos rfl, num_f, Option.bind_some]
      cases numB p.a with
      | false => simp
      | true =>
        rw [if_pos rfl]
        by_cases h : (p.d.size : Int) ≤ 65536
        · rw [if_pos h, decide_eq_true (show p.d.size ≤ 65536 by omega)]
          by_cases h2 : p.s > 0
          · rw [if_pos h2, decide_eq_true (show 0 < p.s from h2)]; rfl
          · rw [if_neg h2, decide_eq_false (show ¬ 0 < p.s from h2), empty_iff]; simp
        · rw [if_neg h, decide_eq_false (show ¬ p.d.size ≤ 65536 by omega)]; simp
theorem rbody_f (p : Pk) (k : Nat) (hk : 10 ≤ k) (hd : p.d.size ≤ 140737488000000) : variorumref12_body.f k p.e p.s p.a p.d = some (body p) := by
  have q1 := putL_len [] p.e
  have q2 := putL_len (putL [] p.e) p.s
  have q3 := putL_len (putL (putL [] p.e) p.s) p.a
  simp only [List.length_nil] at q1
  unfold variorumref12_body.f
  rw [VaryRef.put_f _ _ _ hk (by simp), Option.bind_some, VaryRef.put_f _ _ _ hk (by omega), Option.bind_some, VaryRef.put_f _ _ _ hk (by omega), Option.bind_some, VaryRef.putT_f _ _ _ hk (by omega)]
  rfl
theorem rput_f (p : Pk) : ∃ k, variorumref12_Put.f k p.e p.s p.a p.d = some (if good p then frame p else [], if good p then 0 else 2) := by
  cases hg : good p with
  | false =>
    refine ⟨10, ?_⟩
    unfold variorumref12_Put.f
    rw [rgood_f, Option.bind_some, hg]; rfl
  | true =>
    have hd : p.d.size ≤ 65536 := by
      unfold good at hg
      simp only [Bool.and_eq_true, decide_eq_true_eq] at hg
      exact hg.1.2
    have hb := body_len p
    have q := putL_len [] ((body p).length : Int)
    simp only [List.length_nil] at q
    refine ⟨(body p).length + 10, ?_⟩
    unfold variorumref12_Put.f
    rw [rgood_f, Option.bind_some, hg, if_pos rfl, rbody_f p _ (by omega) (by omega), Option.bind_some, VaryRef.put_f _ _ _ (by omega) (by simp), Option.bind_some, RefSum.seal_f _ (by omega) _ (Nat.le_refl _), Option.bind_some]
    rw [if_pos (by rw [List.length_append]; have : (Crc.le4 (Crc.sum (body p))).length = 4 := rfl; omega)]
    rfl
theorem nRefGood (p : Pk) (w : World) : Calls Try.prog 16 #[p.val] w fun e w' => e = .returned (.bool (good p)) ∧ Below w.heap.size w w' :=
  variorumref12_Good.calls p.e p.s p.a p.d _ w (rgood_f p)
theorem nRefPut (p : Pk) (w : World) : Calls Try.prog 14 #[p.val] w fun e w' => ∃ v, e = .returned (.tuple #[v, .int .i64 (if good p then 0 else 2)]) ∧ Gr w.heap.size 5 w' v (if good p then frame p else []) ∧ Below w.heap.size w w' := by
  obtain ⟨k, hk⟩ := rput_f p
  exact (variorumref12_Put.calls k p.e p.s p.a p.d _ _ w hk).mono fun e w' ⟨v, he, hr, hb⟩ => ⟨v, he, Gr.of_R hr, hb⟩
end Go.Proofs.Ytedfcjcnhgomoaa.FrameP
end
-- MERGED YtedfcjcnhgomoaaFrameLives
section
/- The chapter's example of frames. -/
namespace Go.Proofs.Ytedfcjcnhgomoaa.FrameLives
open Go.RowKit Go.Proofs.Ytedfcjcnhgomoaa.P Go.Proofs.YtedfcjcnhgomoaaW.PrintWords Go.Proofs.YtedfcjcnhgomoaaW.PrintLast Go.Proofs.YtedfcjcnhgomoaaW.PrintMore Go.Proofs.Ytedfcjcnhgomoaa.Own Go.Proofs.Ytedfcjcnhgomoaa.Vy Go.Proofs.Ytedfcjcnhgomoaa.FrameP
set_option linter.unusedSimpArgs false
set_option linter.unusedVariables false

def lives.T2 : Bool × List (List Nat × List Nat) := (true, [([], []), ([0], [0]), ([1], [1]), ([2], [2]), ([3, 2], [2, 3]), ([4, 2], [2, 4]), ([2, 5], [2, 5]), ([6, 2], [6]), ([7], [7]), ([8, 7], [7, 8]), ([9, 7], [7, 9]), ([7], [7]), ([11, 7], [7, 11]), ([10, 12, 7], [7, 10, 12]), ([7, 13], [7, 13]), ([14, 7, 0, 1, 2, 3, 4, 5, 6, 7, 8, 9, 10, 11, 12, 13, 14], [14])])
def lives.B2 : List Nat := [0, 1, 3, 7, 15, 31, 63, 127, 255, 511, 1023, 255, 2303, 8191, 16383, 32767]
theorem lives.tab2 : rtab .any (opsOf Try.f12 2) = lives.T2 := by kernel_rfl
theorem lives.bits2 : waitsOk lives.T2.2 lives.B2 = true := by kernel_rfl
theorem put_small (l : List Int) (n : Nat) (h : n < 128) : putL l (n : Int) = l ++ [(n : Int)] := by rw [putL_good (by have : M = 4611686018427387904 := rfl; omega), enc_lt h]
def pk : Pk := ⟨1, 2, 3, ⟨#[97, 98]⟩⟩
theorem body_pk : body pk = [1, 2, 3, 2, 97, 98] := by
  unfold body putTL pk
  simp only
  rw [show (1 : Int) = ((1 : Nat) : Int) from rfl, put_small _ _ (by decide), show (2 : Int) = ((2 : Nat) : Int) from rfl, put_small _ _ (by decide), show (3 : Int) = ((3 : Nat) : Int) from rfl, put_small _ _ (by decide), show ((numsOf ⟨#[97, 98]⟩).length : Int) = ((2 : Nat) : Int) from rfl, put_small _ _ (by decide)]
  rfl
theorem frame_pk : ∃ t, frame pk = [6, 1, 2, 3, 2, 97, 98] ++ t ∧ t.length = 4 := by
  refine ⟨Crc.le4 (Crc.sum (body pk)), ?_, rfl⟩
  unfold frame Nice.sealL
  rw [body_pk, show (([1, 2, 3, 2, 97, 98] : List Int).length : Int) = ((6 : Nat) : Int) from rfl, put_small _ _ (by decide)]; rfl
theorem good_pk : good pk = true := by decide +kernel
set_option maxHeartbeats 8000000 in
set_option maxRecDepth 100000 in
theorem lives_c (w : World) : Calls Try.prog 12 #[] w fun e w' => e = .returned (.bool true) ∧ Below w.heap.size w w' := by
  have hp := put_c pk
  unfold Pk.val pk at hp
  simp only at hp
  have hg : good ⟨1, 2, 3, ⟨#[97, 98]⟩⟩ = true := good_pk
  have hf : ∃ t, frame ⟨1, 2, 3, ⟨#[97, 98]⟩⟩ = [6, 1, 2, 3, 2, 97, 98] ++ t ∧ t.length = 4 := frame_pk
  obtain ⟨t, hf, ht⟩ := hf
  rw [hg, if_pos rfl, if_pos rfl, hf] at hp
  have HP := Aside0.mk hp
  have HT := Aside0.mk ht
  clear hp hg hf ht
  go_enter Try.func12, Try.ntmps12
  go_wp2_with fail
  refine (HP.out _).mono ?_
  rintro e w1 ⟨v, rfl, hg, hb⟩
  obtain ⟨A, c, rfl, hc, hC⟩ := hg.sl
  have hl : ([6, 1, 2, 3, 2, 97, 98] ++ t : List Int).length = 11 := by rw [List.length_append, HT.out]; rfl
  rw [hl] at hC hc ⊢
  have HS : Aside0 (Sl w1 (.slice A 7 c) [6, 1, 2, 3, 2, 97, 98]) := Aside0.mk (by
    have := (show Sl w1 (.slice A 11 c) ([6, 1, 2, 3, 2, 97, 98] ++ t) from ⟨A, c, by rw [hl], by rw [hl]; exact hc, by rw [hl]; exact hC⟩).take 7 (by omega)
    rwa [show ([6, 1, 2, 3, 2, 97, 98] ++ t : List Int).take 7 = [6, 1, 2, 3, 2, 97, 98] from rfl] at this)
  obtain ⟨i0, hi0, _, hsz, _⟩ := info_parts info5
  have HCUT := Aside0.mk (cut_to (P := Try.prog) 25 5 .i64 Try.underlying25 hi0 A 11 c 7 (by omega) (by omega) hc)
  have HB := Aside0.mk hb
  clear hg hC hl hb hi0 hsz
  go_wp2_with fail
  refine start_ (n := 16) (S := fun w' => True) (ds := []) #[false, false, false, false, false, false, false, false, false, false, false, false, false, false, false, false] (by kernel_rfl) rfl rfl trivial (fun hHeld => ?_); refine with_tabW lives.tab2 lives.bits2 (fun HT_ HW_ => ?_)
  refine inv_at [0, 1, 2, 3, 4, 5, 6, 7, 8, 9, 10, 11, 12, 13, 14, 15] (fun a0_ b a w' => ∃ (v19 : Value), a = putSel a0_ b [(0, 8, (.int .i64 0)), (1, 9, (.bool true)), (2, 10, (.bool true)), (3, 11, (.slice A 11 c)), (4, 12, (.int .i64 11)), (5, 13, (.bool true)), (6, 14, (.bool true)), (7, 15, (.bool true)), (8, 16, (.slice A 11 c)), (9, 17, (.slice A 7 c)), (10, 18, (.string (strOfNums [6, 1, 2, 3, 2, 97, 98]))), (11, 19, v19), (12, 20, (.string (strOfNums [6, 1, 2, 3, 2, 97, 98]))), (13, 21, (.bool true)), (14, 22, (.bool true)), (15, 0, (.bool true))] ∧ (Below w.heap.size w w') ∧ (Sl w' (.slice A 7 c) [6, 1, 2, 3, 2, 97, 98]) ∧ (b 11 = true → Sl w' v19 [6, 1, 2, 3, 2, 97, 98])) HT_.out HW_.out (by kernel_rfl) (by kernel_rfl) ?_ ?_ ?_
  · exact ⟨.bool false, by simp only [putSel, Bool.false_eq_true, if_false], below_drew1 HB.out, HS.out.drew, fun h_ => absurd h_ (by decide)⟩
  · skip
    clear HB HS
    refine steps_cons ?_ ?_
    · rintro b a w' ⟨v19, ha, Q_HB, Q_HS, Q_S19⟩ hb_ hon hoff
      refine ⟨_, rfl, fun K hK => ?_⟩
      have e2 : a.tmps[2]? = some ((.int .i64 0)) := by rw [ha]; exact (putSel_off rfl).trans rfl
      replace ha := Aside0.mk ha
      have HB := Aside0.mk Q_HB
      have HS := Aside0.mk Q_HS
      refine value_ (w1 := w') (v := (.int .i64 0)) (by rfl) rfl ?_ ?_
      · go_simp
        (try simp only [i64_w])
        try rfl
      refine hK.out _ _ ⟨v19, (by rw [ha.out]; exact putSel_upk 0 hb_ rfl rfl rfl), Q_HB, Q_HS, fun h0_ => absurd ((hoff 11 (by kernel_rfl)).symm.trans h0_) (by decide)⟩
    refine steps_cons ?_ ?_
    · rintro b a w' ⟨v19, ha, Q_HB, Q_HS, Q_S19⟩ hb_ hon hoff
      refine ⟨_, rfl, fun K hK => ?_⟩
      have e8 : a.tmps[8]? = some ((.int .i64 0)) := by rw [ha]; exact putSel_on (e := (0, 8, (.int .i64 0))) 0 rfl rfl (hon 0 (by kernel_rfl)) rfl
      replace ha := Aside0.mk ha
      have HB := Aside0.mk Q_HB
      have HS := Aside0.mk Q_HS
      refine value_ (w1 := w') (v := (.bool true)) (by rfl) rfl ?_ ?_
      · go_simp
        (try simp only [i64_w])
        try rfl
      refine hK.out _ _ ⟨v19, (by rw [ha.out]; exact putSel_upk 1 hb_ rfl rfl rfl), Q_HB, Q_HS, fun h0_ => absurd ((hoff 11 (by kernel_rfl)).symm.trans h0_) (by decide)⟩
    refine steps_cons ?_ ?_
    · rintro b a w' ⟨v19, ha, Q_HB, Q_HS, Q_S19⟩ hb_ hon hoff
      refine ⟨_, rfl, fun K hK => ?_⟩
      have e9 : a.tmps[9]? = some ((.bool true)) := by rw [ha]; exact putSel_on (e := (1, 9, (.bool true))) 1 rfl rfl (hon 1 (by kernel_rfl)) rfl
      replace ha := Aside0.mk ha
      have HB := Aside0.mk Q_HB
      have HS := Aside0.mk Q_HS
      refine value_ (w1 := w') (v := (.bool true)) (by rfl) rfl ?_ ?_
      · go_simp
        (try simp only [i64_w])
        try rfl
      refine hK.out _ _ ⟨v19, (by rw [ha.out]; exact putSel_upk 2 hb_ rfl rfl rfl), Q_HB, Q_HS, fun h0_ => absurd ((hoff 11 (by kernel_rfl)).symm.trans h0_) (by decide)⟩
    refine steps_cons ?_ ?_
    · rintro b a w' ⟨v19, ha, Q_HB, Q_HS, Q_S19⟩ hb_ hon hoff
      refine ⟨_, rfl, fun K hK => ?_⟩
      have e1 : a.tmps[1]? = some ((.slice A 11 c)) := by rw [ha]; exact (putSel_off rfl).trans rfl
      have e10 : a.tmps[10]? = some ((.bool true)) := by rw [ha]; exact putSel_on (e := (2, 10, (.bool true))) 2 rfl rfl (hon 2 (by kernel_rfl)) rfl
      replace ha := Aside0.mk ha
      have HB := Aside0.mk Q_HB
      have HS := Aside0.mk Q_HS
      refine value_ (w1 := w') (v := (.slice A 11 c)) (wanted_on rfl rfl rfl (e10.trans (by first | rfl | (simp [*]; done)))) rfl ?_ ?_
      · go_simp
        (try simp only [i64_w])
        try rfl
      refine hK.out _ _ ⟨v19, (by rw [ha.out]; exact putSel_upk 3 hb_ rfl rfl rfl), Q_HB, Q_HS, fun h0_ => absurd ((hoff 11 (by kernel_rfl)).symm.trans h0_) (by decide)⟩
    refine steps_cons ?_ ?_
    · rintro b a w' ⟨v19, ha, Q_HB, Q_HS, Q_S19⟩ hb_ hon hoff
      refine ⟨_, rfl, fun K hK => ?_⟩
      have e11 : a.tmps[11]? = some ((.slice A 11 c)) := by rw [ha]; exact putSel_on (e := (3, 11, (.slice A 11 c))) 3 rfl rfl (hon 3 (by kernel_rfl)) rfl
      have e10 : a.tmps[10]? = some ((.bool true)) := by rw [ha]; exact putSel_on (e := (2, 10, (.bool true))) 2 rfl rfl (hon 2 (by kernel_rfl)) rfl
      replace ha := Aside0.mk ha
      have HB := Aside0.mk Q_HB
      have HS := Aside0.mk Q_HS
      refine value_ (w1 := w') (v := (.int .i64 11)) (wanted_on rfl rfl rfl (e10.trans (by first | rfl | (simp [*]; done)))) rfl ?_ ?_
      · go_simp
        (try simp only [i64_w])
        try rfl
      refine hK.out _ _ ⟨v19, (by rw [ha.out]; exact putSel_upk 4 hb_ rfl rfl rfl), Q_HB, Q_HS, fun h0_ => absurd ((hoff 11 (by kernel_rfl)).symm.trans h0_) (by decide)⟩
    refine steps_cons ?_ ?_
    · rintro b a w' ⟨v19, ha, Q_HB, Q_HS, Q_S19⟩ hb_ hon hoff
      refine ⟨_, rfl, fun K hK => ?_⟩
      have e12 : a.tmps[12]? = some ((.int .i64 11)) := by rw [ha]; exact putSel_on (e := (4, 12, (.int .i64 11))) 4 rfl rfl (hon 4 (by kernel_rfl)) rfl
      have e10 : a.tmps[10]? = some ((.bool true)) := by rw [ha]; exact putSel_on (e := (2, 10, (.bool true))) 2 rfl rfl (hon 2 (by kernel_rfl)) rfl
      replace ha := Aside0.mk ha
      have HB := Aside0.mk Q_HB
      have HS := Aside0.mk Q_HS
      refine value_ (w1 := w') (v := (.bool true)) (wanted_on rfl rfl rfl (e10.trans (by first | rfl | (simp [*]; done)))) rfl ?_ ?_
      · go_simp
        (try simp only [i64_w])
        try rfl
      refine hK.out _ _ ⟨v19, (by rw [ha.out]; exact putSel_upk 5 hb_ rfl rfl rfl), Q_HB, Q_HS, fun h0_ => absurd ((hoff 11 (by kernel_rfl)).symm.trans h0_) (by decide)⟩
    refine steps_cons ?_ ?_
    · rintro b a w' ⟨v19, ha, Q_HB, Q_HS, Q_S19⟩ hb_ hon hoff
      refine ⟨_, rfl, fun K hK => ?_⟩
      have e10 : a.tmps[10]? = some ((.bool true)) := by rw [ha]; exact putSel_on (e := (2, 10, (.bool true))) 2 rfl rfl (hon 2 (by kernel_rfl)) rfl
      have e13 : a.tmps[13]? = some ((.bool true)) := by rw [ha]; exact putSel_on (e := (5, 13, (.bool true))) 5 rfl rfl (hon 5 (by kernel_rfl)) rfl
      replace ha := Aside0.mk ha
      have HB := Aside0.mk Q_HB
      have HS := Aside0.mk Q_HS
      refine value_ (w1 := w') (v := (.bool true)) (by rfl) rfl ?_ ?_
      · go_simp
        (try simp only [i64_w])
        try rfl
      refine hK.out _ _ ⟨v19, (by rw [ha.out]; exact putSel_upk 6 hb_ rfl rfl rfl), Q_HB, Q_HS, fun h0_ => absurd ((hoff 11 (by kernel_rfl)).symm.trans h0_) (by decide)⟩
    refine steps_cons ?_ ?_
    · rintro b a w' ⟨v19, ha, Q_HB, Q_HS, Q_S19⟩ hb_ hon hoff
      refine ⟨_, rfl, fun K hK => ?_⟩
      have e14 : a.tmps[14]? = some ((.bool true)) := by rw [ha]; exact putSel_on (e := (6, 14, (.bool true))) 6 rfl rfl (hon 6 (by kernel_rfl)) rfl
      replace ha := Aside0.mk ha
      have HB := Aside0.mk Q_HB
      have HS := Aside0.mk Q_HS
      refine value_ (w1 := w') (v := (.bool true)) (by rfl) rfl ?_ ?_
      · go_simp
        (try simp only [i64_w])
        try rfl
      refine hK.out _ _ ⟨v19, (by rw [ha.out]; exact putSel_upk 7 hb_ rfl rfl rfl), Q_HB, Q_HS, fun h0_ => absurd ((hoff 11 (by kernel_rfl)).symm.trans h0_) (by decide)⟩
    refine steps_cons ?_ ?_
    · rintro b a w' ⟨v19, ha, Q_HB, Q_HS, Q_S19⟩ hb_ hon hoff
      refine ⟨_, rfl, fun K hK => ?_⟩
      have e1 : a.tmps[1]? = some ((.slice A 11 c)) := by rw [ha]; exact (putSel_off rfl).trans rfl
      have e15 : a.tmps[15]? = some ((.bool true)) := by rw [ha]; exact putSel_on (e := (7, 15, (.bool true))) 7 rfl rfl (hon 7 (by kernel_rfl)) rfl
      replace ha := Aside0.mk ha
      have HB := Aside0.mk Q_HB
      have HS := Aside0.mk Q_HS
      refine value_ (w1 := w') (v := (.slice A 11 c)) (wanted_on rfl rfl rfl (e15.trans (by first | rfl | (simp [*]; done)))) rfl ?_ ?_
      · go_simp
        (try simp only [i64_w])
        try rfl
      refine hK.out _ _ ⟨v19, (by rw [ha.out]; exact putSel_upk 8 hb_ rfl rfl rfl), Q_HB, Q_HS, Q_S19⟩
    refine steps_cons ?_ ?_
    · rintro b a w' ⟨v19, ha, Q_HB, Q_HS, Q_S19⟩ hb_ hon hoff
      refine ⟨_, rfl, fun K hK => ?_⟩
      have e16 : a.tmps[16]? = some ((.slice A 11 c)) := by rw [ha]; exact putSel_on (e := (8, 16, (.slice A 11 c))) 8 rfl rfl (hon 8 (by kernel_rfl)) rfl
      have e15 : a.tmps[15]? = some ((.bool true)) := by rw [ha]; exact putSel_on (e := (7, 15, (.bool true))) 7 rfl rfl (hon 7 (by kernel_rfl)) rfl
      replace ha := Aside0.mk ha
      have HB := Aside0.mk Q_HB
      have HS := Aside0.mk Q_HS
      have hc_ := HCUT.out
      rw [show (7 : Int).toNat = 7 from rfl] at hc_
      refine value_ (w1 := w') (v := (.slice A 7 c)) (wanted_on rfl rfl rfl (e15.trans (by first | rfl | (simp [*]; done)))) rfl ?_ ?_
      · go_simp
        (try simp only [i64_w])
        try rfl
      refine hK.out _ _ ⟨v19, (by rw [ha.out]; exact putSel_upk 9 hb_ rfl rfl rfl), Q_HB, Q_HS, Q_S19⟩
    refine steps_cons ?_ ?_
    · rintro b a w' ⟨v19, ha, Q_HB, Q_HS, Q_S19⟩ hb_ hon hoff
      refine ⟨_, rfl, fun K hK => ?_⟩
      have e17 : a.tmps[17]? = some ((.slice A 7 c)) := by rw [ha]; exact putSel_on (e := (9, 17, (.slice A 7 c))) 9 rfl rfl (hon 9 (by kernel_rfl)) rfl
      have e15 : a.tmps[15]? = some ((.bool true)) := by rw [ha]; exact putSel_on (e := (7, 15, (.bool true))) 7 rfl rfl (hon 7 (by kernel_rfl)) rfl
      replace ha := Aside0.mk ha
      have HB := Aside0.mk Q_HB
      have HS := Aside0.mk Q_HS
      have hc_ := Sl.string (P := Try.prog) Try.underlying25 Try.underlying5 Try.underlying9 HS.out
      refine value_ (w1 := w') (v := (.string (strOfNums [6, 1, 2, 3, 2, 97, 98]))) (wanted_on rfl rfl rfl (e15.trans (by first | rfl | (simp [*]; done)))) rfl ?_ ?_
      · go_simp
        (try simp only [i64_w])
        try rfl
      refine hK.out _ _ ⟨v19, (by rw [ha.out]; exact putSel_upk 10 hb_ rfl rfl rfl), Q_HB, Q_HS, Q_S19⟩
    refine steps_cons ?_ ?_
    · rintro b a w' ⟨v19, ha, Q_HB, Q_HS, Q_S19⟩ hb_ hon hoff
      refine ⟨_, rfl, fun K hK => ?_⟩
      have e15 : a.tmps[15]? = some ((.bool true)) := by rw [ha]; exact putSel_on (e := (7, 15, (.bool true))) 7 rfl rfl (hon 7 (by kernel_rfl)) rfl
      replace ha := Aside0.mk ha
      have HB := Aside0.mk Q_HB
      have HS := Aside0.mk Q_HS
      refine value_lit (P := Try.prog) (C := #[.int .u8 6, .int .u8 1, .int .u8 2, .int .u8 3, .int .u8 2, .int .u8 97, .int .u8 98]) (T := 5) (l := [6, 1, 2, 3, 2, 97, 98]) (wanted_on rfl rfl rfl (e15.trans (by first | rfl | (simp [*]; done)))) rfl (by go_simp) rfl (by decide) ?_
      intro v19 w1_ hs hb
      refine hK.out _ _ ⟨v19, (by rw [ha.out]; exact putSel_upk 11 hb_ rfl rfl rfl), below_step HB.out hb, HS.out.below hb, fun _ => hs⟩
    refine steps_cons ?_ ?_
    · rintro b a w' ⟨v19, ha, Q_HB, Q_HS, Q_S19⟩ hb_ hon hoff
      refine ⟨_, rfl, fun K hK => ?_⟩
      have e19 : a.tmps[19]? = some (v19) := by rw [ha]; exact putSel_on (e := (11, 19, v19)) 11 rfl rfl (hon 11 (by kernel_rfl)) rfl
      have e15 : a.tmps[15]? = some ((.bool true)) := by rw [ha]; exact putSel_on (e := (7, 15, (.bool true))) 7 rfl rfl (hon 7 (by kernel_rfl)) rfl
      replace ha := Aside0.mk ha
      have HB := Aside0.mk Q_HB
      have HS := Aside0.mk Q_HS
      have S19 := Aside0.mk (Q_S19 (hon 11 (by kernel_rfl)))
      have hc_ := Sl.string (P := Try.prog) Try.underlying25 Try.underlying5 Try.underlying9 S19.out
      refine value_ (w1 := w') (v := (.string (strOfNums [6, 1, 2, 3, 2, 97, 98]))) (wanted_on rfl rfl rfl (e15.trans (by first | rfl | (simp [*]; done)))) rfl ?_ ?_
      · go_simp
        (try simp only [i64_w])
        try rfl
      refine hK.out _ _ ⟨v19, (by rw [ha.out]; exact putSel_upk 12 hb_ rfl rfl rfl), Q_HB, Q_HS, Q_S19⟩
    refine steps_cons ?_ ?_
    · rintro b a w' ⟨v19, ha, Q_HB, Q_HS, Q_S19⟩ hb_ hon hoff
      refine ⟨_, rfl, fun K hK => ?_⟩
      have e18 : a.tmps[18]? = some ((.string (strOfNums [6, 1, 2, 3, 2, 97, 98]))) := by rw [ha]; exact putSel_on (e := (10, 18, (.string (strOfNums [6, 1, 2, 3, 2, 97, 98])))) 10 rfl rfl (hon 10 (by kernel_rfl)) rfl
      have e20 : a.tmps[20]? = some ((.string (strOfNums [6, 1, 2, 3, 2, 97, 98]))) := by rw [ha]; exact putSel_on (e := (12, 20, (.string (strOfNums [6, 1, 2, 3, 2, 97, 98])))) 12 rfl rfl (hon 12 (by kernel_rfl)) rfl
      have e15 : a.tmps[15]? = some ((.bool true)) := by rw [ha]; exact putSel_on (e := (7, 15, (.bool true))) 7 rfl rfl (hon 7 (by kernel_rfl)) rfl
      replace ha := Aside0.mk ha
      have HB := Aside0.mk Q_HB
      have HS := Aside0.mk Q_HS
      have S19 := Aside0.mk (Q_S19 (hon 11 (by kernel_rfl)))
      refine value_ (w1 := w') (v := (.bool true)) (wanted_on rfl rfl rfl (e15.trans (by first | rfl | (simp [*]; done)))) rfl ?_ ?_
      · go_simp
        (try simp only [i64_w])
        try rfl
      refine hK.out _ _ ⟨v19, (by rw [ha.out]; exact putSel_upk 13 hb_ rfl rfl rfl), Q_HB, Q_HS, Q_S19⟩
    refine steps_cons ?_ ?_
    · rintro b a w' ⟨v19, ha, Q_HB, Q_HS, Q_S19⟩ hb_ hon hoff
      refine ⟨_, rfl, fun K hK => ?_⟩
      have e15 : a.tmps[15]? = some ((.bool true)) := by rw [ha]; exact putSel_on (e := (7, 15, (.bool true))) 7 rfl rfl (hon 7 (by kernel_rfl)) rfl
      have e21 : a.tmps[21]? = some ((.bool true)) := by rw [ha]; exact putSel_on (e := (13, 21, (.bool true))) 13 rfl rfl (hon 13 (by kernel_rfl)) rfl
      replace ha := Aside0.mk ha
      have HB := Aside0.mk Q_HB
      have HS := Aside0.mk Q_HS
      have S19 := Aside0.mk (Q_S19 (hon 11 (by kernel_rfl)))
      refine value_ (w1 := w') (v := (.bool true)) (by rfl) rfl ?_ ?_
      · go_simp
        (try simp only [i64_w])
        try rfl
      refine hK.out _ _ ⟨v19, (by rw [ha.out]; exact putSel_upk 14 hb_ rfl rfl rfl), Q_HB, Q_HS, Q_S19⟩
    refine steps_cons ?_ ?_
    · rintro b a w' ⟨v19, ha, Q_HB, Q_HS, Q_S19⟩ hb_ hon hoff
      refine ⟨_, rfl, fun K hK => ?_⟩
      have e22 : a.tmps[22]? = some ((.bool true)) := by rw [ha]; exact putSel_on (e := (14, 22, (.bool true))) 14 rfl rfl (hon 14 (by kernel_rfl)) rfl
      replace ha := Aside0.mk ha
      have HB := Aside0.mk Q_HB
      have HS := Aside0.mk Q_HS
      have S19 := Aside0.mk (Q_S19 (hon 11 (by kernel_rfl)))
      refine value_ (w1 := w') (v := (.bool true)) (by rfl) rfl ?_ ?_
      · go_simp
        (try simp only [i64_w])
        try rfl
      refine hK.out _ _ ⟨v19, (by rw [ha.out]; exact putSel_upk 15 hb_ rfl rfl rfl), Q_HB, Q_HS, Q_S19⟩
    exact steps_nil
  rintro b a we hall ⟨v19, ha, Q_HB, Q_HS, Q_S19⟩
  clear HB HS
  have hb0_ := hall 0 (by kernel_rfl)
  have hb1_ := hall 1 (by kernel_rfl)
  have hb2_ := hall 2 (by kernel_rfl)
  have hb3_ := hall 3 (by kernel_rfl)
  have hb4_ := hall 4 (by kernel_rfl)
  have hb5_ := hall 5 (by kernel_rfl)
  have hb6_ := hall 6 (by kernel_rfl)
  have hb7_ := hall 7 (by kernel_rfl)
  have hb8_ := hall 8 (by kernel_rfl)
  have hb9_ := hall 9 (by kernel_rfl)
  have hb10_ := hall 10 (by kernel_rfl)
  have hb11_ := hall 11 (by kernel_rfl)
  have hb12_ := hall 12 (by kernel_rfl)
  have hb13_ := hall 13 (by kernel_rfl)
  have hb14_ := hall 14 (by kernel_rfl)
  have hb15_ := hall 15 (by kernel_rfl)
  subst ha
  simp only [putSel, hb0_, hb1_, hb2_, hb3_, hb4_, hb5_, hb6_, hb7_, hb8_, hb9_, hb10_, hb11_, hb12_, hb13_, hb14_, hb15_, if_true, Act.put, List.setIfInBounds_toArray, List.set_cons_zero, List.set_cons_succ]
  have HB := Aside0.mk Q_HB
  clear Q_HB
  have HS := Aside0.mk Q_HS
  clear Q_HS
  have S19 := Aside0.mk (Q_S19 hb11_)
  clear Q_S19
  clear hall hb0_ hb1_ hb2_ hb3_ hb4_ hb5_ hb6_ hb7_ hb8_ hb9_ hb10_ hb11_ hb12_ hb13_ hb14_ hb15_
  go_wp2_with fail
  go_ret
  exact ⟨rfl, HB.out⟩
end Go.Proofs.Ytedfcjcnhgomoaa.FrameLives
end
-- MERGED YtedfcjcnhgomoaaFrameL
section
/- The plain law of frames that are got: how a body parses; no program in sight. -/
namespace Go.Proofs.Ytedfcjcnhgomoaa.FrameL
open Go.RowKit Go.Proofs.Ytedfcjcnhgomoaa.Own Go.Proofs.Ytedfcjcnhgomoaa.Vy Go.Proofs.Ytedfcjcnhgomoaa.FrameP Go.Proofs.Ytedfcjcnhgomoaa.VaryR

/-- What four reads tell: the packet, where the reader stands, whether it is bad. -/
def a1 (x : List Int) : Nat := stepA false 0 (numL (x.drop 0)).2
def b1 (x : List Int) : Bool := stepB false (numL (x.drop 0)).2
def a2 (x : List Int) : Nat := stepA (b1 x) (a1 x) (numL (x.drop (a1 x))).2
def b2 (x : List Int) : Bool := stepB (b1 x) (numL (x.drop (a1 x))).2
def a3 (x : List Int) : Nat := stepA (b2 x) (a2 x) (numL (x.drop (a2 x))).2
def b3 (x : List Int) : Bool := stepB (b2 x) (numL (x.drop (a2 x))).2
def a4 (x : List Int) : Nat := stepA (b3 x) (a3 x) (textL (x.drop (a3 x))).2
def b4 (x : List Int) : Bool := stepB (b3 x) (textL (x.drop (a3 x))).2
def pk (x : List Int) : Pk := ⟨stepV 0 false (numL (x.drop 0)).2 (numL (x.drop 0)).1, stepV 0 (b1 x) (numL (x.drop (a1 x))).2 (numL (x.drop (a1 x))).1, stepV 0 (b2 x) (numL (x.drop (a2 x))).2 (numL (x.drop (a2 x))).1, strOfNums (stepV [] (b3 x) (textL (x.drop (a3 x))).2 (textL (x.drop (a3 x))).1)⟩
/-- Is all read, and was nothing wrong? -/
def dn (x : List Int) : Bool := !b4 x && decide (x.length - a4 x = 0)
def parse (x : List Int) : Option Pk := if dn x && good (pk x) then some (pk x) else none

theorem stepB_false {b : Bool} {k : Nat} : stepB b k = false ↔ b = false ∧ k ≠ 0 := by unfold stepB; simp
theorem stepV_ok {α : Type} {z : α} {b : Bool} {k : Nat} {x : α} (h : stepB b k = false) : stepV z b k x = x := by unfold stepV; rw [h]; rfl
theorem textL_one {l : List Int} (hok : Byt.Ok l) (h : (textL l).2 ≠ 0) : l.take (textL l).2 = putTL [] (textL l).1 ∧ (textL l).2 ≤ l.length ∧ Byt.Ok (textL l).1 := by
  have hle := textL_le hok
  refine ⟨?_, hle, ?_⟩
  · unfold textL at h ⊢
    split at h
    · exact absurd rfl h
    · rename_i hc
      rw [if_neg hc]
      simp only at h ⊢
      have hk : (numL l).2 ≠ 0 := fun e => hc (.inl e)
      obtain ⟨m, h1, h2, h3, h4, _⟩ := numL_one hok hk
      have hlen : ((l.drop (numL l).2).take (numL l).1.toNat).length = m := by
        rw [List.length_take, List.length_drop, h1, Int.toNat_natCast]
        have : (numL l).1 = (m : Int) := h1
        omega
      unfold putTL
      rw [hlen, putL_good h3, List.nil_append, ← h2, List.take_add]
  · unfold textL
    split
    · exact Byt.ok_nil
    · exact Byt.ok_take (Byt.ok_drop hok _) _
theorem numsOf_strOf {l : List Int} (hok : Byt.Ok l) : numsOf (strOfNums l) = l := by
  have h : strOfNums (numsOf (strOfNums l)) = strOfNums l := strOf_numsOf _
  have h2 := congrArg ByteArray.toList h
  exact (Byt.str_eq (ok_numsOf _) hok).1 h2
/-- What was read without a fault has just these bytes. -/
theorem body_take {x : List Int} (hok : Byt.Ok x) (hb : b4 x = false) : body (pk x) = x.take (a4 x) ∧ a4 x ≤ x.length := by
  obtain ⟨h3, k4⟩ := stepB_false.1 hb
  obtain ⟨h2, k3⟩ := stepB_false.1 h3
  obtain ⟨h1, k2⟩ := stepB_false.1 h2
  obtain ⟨_, k1⟩ := stepB_false.1 h1
  have ea1 : a1 x = (numL (x.drop 0)).2 := by unfold a1 stepA; simp
  have ea2 : a2 x = a1 x + (numL (x.drop (a1 x))).2 := by unfold a2 stepA; rw [h1]; rfl
  have ea3 : a3 x = a2 x + (numL (x.drop (a2 x))).2 := by unfold a3 stepA; rw [h2]; rfl
  have ea4 : a4 x = a3 x + (textL (x.drop (a3 x))).2 := by unfold a4 stepA; rw [h3]; rfl
  obtain ⟨m1, e1, t1, M1, l1, _⟩ := numL_one (Byt.ok_drop hok 0) k1
  obtain ⟨m2, e2, t2, M2, l2, _⟩ := numL_one (Byt.ok_drop hok (a1 x)) k2
  obtain ⟨m3, e3, t3, M3, l3, _⟩ := numL_one (Byt.ok_drop hok (a2 x)) k3
  obtain ⟨t4, l4, o4⟩ := textL_one (Byt.ok_drop hok (a3 x)) k4
  rw [List.length_drop] at l1 l2 l3 l4
  have hp : pk x = ⟨(m1 : Int), (m2 : Int), (m3 : Int), strOfNums (textL (x.drop (a3 x))).1⟩ := by
    unfold pk
    rw [stepV_ok (stepB_false.2 ⟨rfl, k1⟩), stepV_ok (stepB_false.2 ⟨h1, k2⟩), stepV_ok (stepB_false.2 ⟨h2, k3⟩), stepV_ok (stepB_false.2 ⟨h3, k4⟩), e1, e2, e3]
  refine ⟨?_, by omega⟩
  rw [hp]
  unfold body
  simp only
  rw [putL_good M1, putL_good M2, putL_good M3, numsOf_strOf o4, List.nil_append]
  have ht : putTL (enc m1 ++ enc m2 ++ enc m3) (textL (x.drop (a3 x))).1 = enc m1 ++ enc m2 ++ enc m3 ++ putTL [] (textL (x.drop (a3 x))).1 := by
    unfold putTL putL
    split
    · simp
    · simp
  rw [ht, ← t4, ← t3, ← t2, ← t1]
  rw [List.drop_zero] at ea1 ⊢
  rw [ea4, ea3, ea2, ea1]
  simp only [List.take_add]
theorem dn_iff {x : List Int} (hok : Byt.Ok x) : dn x = true ↔ b4 x = false ∧ body (pk x) = x := by
  unfold dn
  simp only [Bool.and_eq_true, Bool.not_eq_true', decide_eq_true_eq]
  constructor
  · rintro ⟨h1, h2⟩
    obtain ⟨h3, h4⟩ := body_take hok h1
    exact ⟨h1, by rw [h3, List.take_of_length_le (by omega)]⟩
  · rintro ⟨h1, h2⟩
    obtain ⟨h3, h4⟩ := body_take hok h1
    refine ⟨h1, ?_⟩
    have := congrArg List.length (h3.symm.trans h2)
    rw [List.length_take] at this
    omega
/-- What bytes begin with: the packet, how many bytes, the error. -/
def zp : Pk := ⟨0, 0, 0, ⟨#[]⟩⟩
def segL (b : List Int) : List Int := (b.take ((numL b).2 + (numL b).1.toNat + 4)).drop (numL b).2
def sizeL (b : List Int) : Nat := (numL b).2 + (numL b).1.toNat + 4
def getTail (s : Nat) (seg : List Int) : Pk × Nat × Int :=
  if Nice.openB seg = false then (zp, s, 12)
  else match parse (Nice.openL seg) with
    | none => (zp, s, 10)
    | some p => (p, s, 0)
def get (b : List Int) : Pk × Nat × Int :=
  if (numL b).2 = 0 then (zp, 0, 10)
  else if 65576 < (numL b).1 then (zp, 0, 11)
  else if b.length < sizeL b then (zp, 0, 10)
  else getTail (sizeL b) (segL b)
theorem tail_shut {s : Nat} {seg : List Int} (h : Nice.openB seg = false) : getTail s seg = (zp, s, 12) := by unfold getTail; rw [if_pos h]
theorem tail_none {s : Nat} {seg : List Int} (h : Nice.openB seg = true) (h2 : parse (Nice.openL seg) = none) : getTail s seg = (zp, s, 10) := by unfold getTail; rw [if_neg (by rw [h]; simp), h2]
theorem tail_some {s : Nat} {seg : List Int} {p : Pk} (h : Nice.openB seg = true) (h2 : parse (Nice.openL seg) = some p) : getTail s seg = (p, s, 0) := by unfold getTail; rw [if_neg (by rw [h]; simp), h2]
theorem get_long {l : List Int} {k m : Nat} (hk : (numL l).2 = k) (hk0 : ¬ (numL l).2 = 0) (hm : (numL l).1 = (m : Int)) (hb : ¬ (65576 : Int) < (m : Int)) (hs : k + m + 4 ≤ l.length) : FrameL.get l = getTail (k + m + 4) ((l.take (k + m + 4)).drop k) := by
  have hz : sizeL l = k + m + 4 := by unfold sizeL; rw [hk, hm, Int.toNat_natCast]
  unfold FrameL.get segL
  rw [if_neg hk0, hm, if_neg hb, if_neg (by rw [hz]; omega), hz, hk, Int.toNat_natCast]
end Go.Proofs.Ytedfcjcnhgomoaa.FrameL
end

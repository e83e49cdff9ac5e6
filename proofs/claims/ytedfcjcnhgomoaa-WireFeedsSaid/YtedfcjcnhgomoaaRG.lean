import Derived.Test.YtedfcjcnhgomoaaRF
import Derived.Test.YtedfcjcnhgomoaaQD
import Derived.Maps.AppendAt
-- MERGED YtedfcjcnhgomoaaWireS
section
/- The walks of the reference's Same and Feed of packets. -/
namespace Go.Proofs.Ytedfcjcnhgomoaa.WireS
open Go.RowKit Go.Proofs.Ytedfcjcnhgomoaa.P Go.Proofs.YtedfcjcnhgomoaaW.PrintWords Go.Proofs.YtedfcjcnhgomoaaW.PrintLast Go.Proofs.YtedfcjcnhgomoaaW.PrintMore Go.Proofs.Ytedfcjcnhgomoaa.Own Go.Proofs.Ytedfcjcnhgomoaa.Vy Go.Proofs.Ytedfcjcnhgomoaa.FrameP Go.Proofs.Ytedfcjcnhgomoaa.FrameL Go.Proofs.Ytedfcjcnhgomoaa.VaryR Go.Proofs.Ytedfcjcnhgomoaa.FrameG Go.Proofs.Ytedfcjcnhgomoaa.WireP Go.Proofs.Ytedfcjcnhgomoaa.WireI Go.Proofs.Ytedfcjcnhgomoaa.WireF Go.Proofs.Ytedfcjcnhgomoaa.WireR
set_option linter.unusedSimpArgs false
set_option linter.unusedVariables false

theorem pk_at {w : World} {v : Value} {l : List Pk} (h : Pks w v l) {i : Nat} (hi : i < l.length) : ∃ A c ad, v = .slice (some A) l.length c ∧ ad = A.add (i * 4) ∧ ∃ p : Pk, l[i]? = some p ∧ w.cell? ad = some (.int .i64 p.e) ∧ w.cell? ⟨ad.block, ad.off + 1, none⟩ = some (.int .i64 p.s) ∧ w.cell? ⟨ad.block, ad.off + 2, none⟩ = some (.int .i64 p.a) ∧ w.cell? ⟨ad.block, ad.off + 3, none⟩ = some (.string p.d) := by
  obtain ⟨A, c, rfl, hp⟩ := h
  have hg : l[i]? = some l[i] := List.getElem?_eq_getElem hi
  obtain ⟨ad, rfl, h0, h1, h2, h3⟩ := hp i _ hg
  have f : ∀ k, 0 < k → ad.add (4 * i + k) = ⟨(ad.add (i * 4)).block, (ad.add (i * 4)).off + k, none⟩ := fun k hk => by
    unfold Addr.add
    rw [if_neg (by omega)]
    by_cases e : i * 4 = 0
    · rw [if_pos e]; first | (simp; done) | (simp; omega)
    · rw [if_neg e]; first | (simp; done) | (simp; omega)
  refine ⟨ad, c, _, rfl, rfl, _, hg, by rw [show i * 4 = 4 * i by omega]; exact h0, by rw [← f 1 (by omega)]; exact h1, by rw [← f 2 (by omega)]; exact h2, by rw [← f 3 (by omega)]; exact h3⟩
theorem Pks.form {w : World} {v : Value} {l : List Pk} (h : Pks w v l) : ∃ A c, v = .slice A l.length c := by
  obtain ⟨A, c, e, _⟩ := h
  exact ⟨A, c, e⟩
def WireS.T6 : Bool × List (List Nat × List Nat) := (true, [([], []), ([], []), ([0, 1], [0, 1]), ([2], [2]), ([], []), ([], []), ([4, 5], [4, 5]), ([6], [6]), ([3, 7], [3, 7])])
def WireS.B6 : List Nat := [0, 0, 3, 7, 0, 0, 48, 112, 255]
theorem WireS.tab6 : rtab .any (opsOf Try.f31 6) = WireS.T6 := by kernel_rfl
theorem WireS.bits6 : waitsOk WireS.T6.2 WireS.B6 = true := by kernel_rfl
set_option maxHeartbeats 8000000 in
set_option maxRecDepth 100000 in
theorem same_yes (v1 v2 : Value) (l : List Pk) (w : World) (h1 : Pks w v1 l) (h2 : Pks w v2 l) (hl : l.length ≤ 1000000) : Calls Try.prog 31 #[v1, v2] w fun e w' => e = .returned (.bool true) ∧ Below w.heap.size w w' := by
  obtain ⟨A1, c1, rfl⟩ := Pks.form h1
  obtain ⟨A2, c2, rfl⟩ := Pks.form h2
  have hcell : ∀ (W : World), w.heap = W.heap → ∀ i, i < l.length → ∃ (a1 a2 : Addr) (p : Pk), A1 = some a1 ∧ A2 = some a2 ∧ (W.cell? (a1.add (i * 4)) = some (.int .i64 p.e) ∧ W.cell? ⟨(a1.add (i * 4)).block, (a1.add (i * 4)).off + 1, none⟩ = some (.int .i64 p.s) ∧ W.cell? ⟨(a1.add (i * 4)).block, (a1.add (i * 4)).off + 2, none⟩ = some (.int .i64 p.a) ∧ W.cell? ⟨(a1.add (i * 4)).block, (a1.add (i * 4)).off + 3, none⟩ = some (.string p.d)) ∧ (W.cell? (a2.add (i * 4)) = some (.int .i64 p.e) ∧ W.cell? ⟨(a2.add (i * 4)).block, (a2.add (i * 4)).off + 1, none⟩ = some (.int .i64 p.s) ∧ W.cell? ⟨(a2.add (i * 4)).block, (a2.add (i * 4)).off + 2, none⟩ = some (.int .i64 p.a) ∧ W.cell? ⟨(a2.add (i * 4)).block, (a2.add (i * 4)).off + 3, none⟩ = some (.string p.d)) := by
    intro W hW i hi
    have hc : ∀ a, W.cell? a = w.cell? a := fun a => World.cell?_of_block (by rw [hW])
    obtain ⟨B1, d1, ad1, e1, rfl, p1, q1, x0, x1, x2, x3⟩ := pk_at h1 hi
    obtain ⟨B2, d2, ad2, e2, rfl, p2, q2, y0, y1, y2, y3⟩ := pk_at h2 hi
    rw [q1] at q2
    obtain rfl := Option.some.inj q2
    injection e1 with e1 _ _
    injection e2 with e2 _ _
    exact ⟨B1, B2, p1, e1, e2, ⟨(hc _).trans x0, (hc _).trans x1, (hc _).trans x2, (hc _).trans x3⟩, ⟨(hc _).trans y0, (hc _).trans y1, (hc _).trans y2, (hc _).trans y3⟩⟩
  have HCELL := Aside0.mk hcell
  obtain ⟨n, hn⟩ : ∃ n, n = l.length := ⟨_, rfl⟩
  rw [← hn] at hl HCELL ⊢
  clear hcell h1 h2 hn
  go_enter Try.func31, Try.ntmps31
  go_wp2_with fail
  go_loopw [5] (fun iv wr => ∃ j : Nat, j ≤ n ∧ iv = .int .i64 (j : Int) ∧ w.heap = wr.heap ∧ Below w.heap.size w wr) (fun iv _ => n - (intOf iv).toNat)
  case atStart => exact ⟨0, Nat.zero_le _, rfl, rfl, Below.refl _ _⟩
  case round =>
    obtain ⟨j, hj, rfl, hh, hb⟩ := hrel
    have HB := Aside0.mk hb
    have HH := Aside0.mk hh
    clear hb hh
    by_cases hlt : j < n
    · have hlt' : (j : Int) < (n : Int) := by omega
      have HLT := Aside0.mk hlt
      obtain ⟨a1, a2, p, rfl, rfl, _⟩ := HCELL.out wr HH.out j hlt
      obtain ⟨P1, hP1⟩ : ∃ P1, P1 = a1.add (j * 4) := ⟨_, rfl⟩
      obtain ⟨P2, hP2⟩ : ∃ P2, P2 = a2.add (j * 4) := ⟨_, rfl⟩
      have HX := Aside0.mk (fun (W : World) (hW : wr.heap = W.heap) => (show (W.cell? P1 = some (.int .i64 p.e) ∧ W.cell? ⟨P1.block, P1.off + 1, none⟩ = some (.int .i64 p.s) ∧ W.cell? ⟨P1.block, P1.off + 2, none⟩ = some (.int .i64 p.a) ∧ W.cell? ⟨P1.block, P1.off + 3, none⟩ = some (.string p.d)) ∧ (W.cell? P2 = some (.int .i64 p.e) ∧ W.cell? ⟨P2.block, P2.off + 1, none⟩ = some (.int .i64 p.s) ∧ W.cell? ⟨P2.block, P2.off + 2, none⟩ = some (.int .i64 p.a) ∧ W.cell? ⟨P2.block, P2.off + 3, none⟩ = some (.string p.d)) from by
        rename_i hcells
        have hc : ∀ a, W.cell? a = wr.cell? a := fun a => World.cell?_of_block (by rw [hW])
        rw [hP1, hP2]
        obtain ⟨⟨x0, x1, x2, x3⟩, ⟨y0, y1, y2, y3⟩⟩ := hcells
        exact ⟨⟨(hc _).trans x0, (hc _).trans x1, (hc _).trans x2, (hc _).trans x3⟩, ⟨(hc _).trans y0, (hc _).trans y1, (hc _).trans y2, (hc _).trans y3⟩⟩))
      have HP1 := Aside0.mk hP1
      have HP2 := Aside0.mk hP2
      have eP1 : a1.add (j * 4) = P1 := hP1.symm
      have eP2 : a2.add (j * 4) = P2 := hP2.symm
      have q0 : (p.e == p.e && (p.s == p.s && (p.a == p.a && (p.d.toList == p.d.toList)))) = true := by simp
      have HW := Aside0.mk (show wr.heap = wr.heap from rfl)
      clear hP1 hP2 hlt
      go_wp2_with fail
      refine start_ (n := 9) (S := fun w' => True) (ds := []) #[false, false, false, false, false, false, false, false, false] (by kernel_rfl) rfl rfl trivial (fun hHeld => ?_); refine with_tabW WireS.tab6 WireS.bits6 (fun HT_ HW_ => ?_)
      refine inv_at [0, 1, 2, 3, 4, 5, 6, 7, 8] (fun a0_ b a w' => a = putSel a0_ b [(0, 17, (.slice (some a1) n c1)), (1, 18, (.int .i64 (j : Int))), (2, 19, (.pointer (some P1))), (3, 20, (.agg #[.int .i64 p.e, .int .i64 p.s, .int .i64 p.a, .string p.d])), (4, 21, (.slice (some a2) n c2)), (5, 22, (.int .i64 (j : Int))), (6, 23, (.pointer (some P2))), (7, 24, (.agg #[.int .i64 p.e, .int .i64 p.s, .int .i64 p.a, .string p.d])), (8, 25, (.bool false))] ∧ (wr.heap = w'.heap) ∧ (Below w.heap.size w w')) HT_.out HW_.out (by kernel_rfl) (by kernel_rfl) ?_ ?_ ?_
      · exact ⟨by simp only [putSel, Bool.false_eq_true, if_false], rfl, below_drew1 HB.out⟩
      · skip
        clear HB HW
        refine steps_cons ?_ ?_
        · rintro b a w' ⟨ha, Q_HW, Q_HB⟩ hb_ hon hoff
          refine ⟨_, rfl, fun K hK => ?_⟩
          have e0 : a.tmps[0]? = some ((.slice (some a1) n c1)) := by rw [ha]; exact (putSel_off rfl).trans rfl
          replace ha := Aside0.mk ha
          have HW := Aside0.mk Q_HW
          have HB := Aside0.mk Q_HB
          refine value_ (w1 := w') (v := (.slice (some a1) n c1)) (by rfl) rfl ?_ ?_
          · go_simp
            (try simp only [i64_w])
            try rfl
          refine hK.out _ _ ⟨(by rw [ha.out]; exact putSel_upk 0 hb_ rfl rfl rfl), Q_HW, Q_HB⟩
        refine steps_cons ?_ ?_
        · rintro b a w' ⟨ha, Q_HW, Q_HB⟩ hb_ hon hoff
          refine ⟨_, rfl, fun K hK => ?_⟩
          have e5 : a.tmps[5]? = some ((.int .i64 (j : Int))) := by rw [ha]; exact (putSel_off rfl).trans rfl
          replace ha := Aside0.mk ha
          have HW := Aside0.mk Q_HW
          have HB := Aside0.mk Q_HB
          refine value_ (w1 := w') (v := (.int .i64 (j : Int))) (by rfl) rfl ?_ ?_
          · go_simp
            (try simp only [i64_w])
            try rfl
          refine hK.out _ _ ⟨(by rw [ha.out]; exact putSel_upk 1 hb_ rfl rfl rfl), Q_HW, Q_HB⟩
        refine steps_cons ?_ ?_
        · rintro b a w' ⟨ha, Q_HW, Q_HB⟩ hb_ hon hoff
          refine ⟨_, rfl, fun K hK => ?_⟩
          have e17 : a.tmps[17]? = some ((.slice (some a1) n c1)) := by rw [ha]; exact putSel_on (e := (0, 17, (.slice (some a1) n c1))) 0 rfl rfl (hon 0 (by kernel_rfl)) rfl
          have e18 : a.tmps[18]? = some ((.int .i64 (j : Int))) := by rw [ha]; exact putSel_on (e := (1, 18, (.int .i64 (j : Int)))) 1 rfl rfl (hon 1 (by kernel_rfl)) rfl
          replace ha := Aside0.mk ha
          have HW := Aside0.mk Q_HW
          have HB := Aside0.mk Q_HB
          refine value_ (w1 := w') (v := (.pointer (some P1))) (by rfl) rfl ?_ ?_
          · go_simp
            (try simp only [i64_w])
            try rfl
          refine hK.out _ _ ⟨(by rw [ha.out]; exact putSel_upk 2 hb_ rfl rfl rfl), Q_HW, Q_HB⟩
        refine steps_cons ?_ ?_
        · rintro b a w' ⟨ha, Q_HW, Q_HB⟩ hb_ hon hoff
          refine ⟨_, rfl, fun K hK => ?_⟩
          have e19 : a.tmps[19]? = some ((.pointer (some P1))) := by rw [ha]; exact putSel_on (e := (2, 19, (.pointer (some P1)))) 2 rfl rfl (hon 2 (by kernel_rfl)) rfl
          replace ha := Aside0.mk ha
          have HW := Aside0.mk Q_HW
          have HB := Aside0.mk Q_HB
          obtain ⟨⟨x0_, x1_, x2_, x3_⟩, _⟩ := HX.out _ HW.out
          refine value_ (w1 := w') (v := (.agg #[.int .i64 p.e, .int .i64 p.s, .int .i64 p.a, .string p.d])) (by rfl) rfl ?_ ?_
          · go_simp
            (try simp only [i64_w])
            try rfl
          refine hK.out _ _ ⟨(by rw [ha.out]; exact putSel_upk 3 hb_ rfl rfl rfl), Q_HW, Q_HB⟩
        refine steps_cons ?_ ?_
        · rintro b a w' ⟨ha, Q_HW, Q_HB⟩ hb_ hon hoff
          refine ⟨_, rfl, fun K hK => ?_⟩
          have e1 : a.tmps[1]? = some ((.slice (some a2) n c2)) := by rw [ha]; exact (putSel_off rfl).trans rfl
          replace ha := Aside0.mk ha
          have HW := Aside0.mk Q_HW
          have HB := Aside0.mk Q_HB
          refine value_ (w1 := w') (v := (.slice (some a2) n c2)) (by rfl) rfl ?_ ?_
          · go_simp
            (try simp only [i64_w])
            try rfl
          refine hK.out _ _ ⟨(by rw [ha.out]; exact putSel_upk 4 hb_ rfl rfl rfl), Q_HW, Q_HB⟩
        refine steps_cons ?_ ?_
        · rintro b a w' ⟨ha, Q_HW, Q_HB⟩ hb_ hon hoff
          refine ⟨_, rfl, fun K hK => ?_⟩
          have e5 : a.tmps[5]? = some ((.int .i64 (j : Int))) := by rw [ha]; exact (putSel_off rfl).trans rfl
          replace ha := Aside0.mk ha
          have HW := Aside0.mk Q_HW
          have HB := Aside0.mk Q_HB
          refine value_ (w1 := w') (v := (.int .i64 (j : Int))) (by rfl) rfl ?_ ?_
          · go_simp
            (try simp only [i64_w])
            try rfl
          refine hK.out _ _ ⟨(by rw [ha.out]; exact putSel_upk 5 hb_ rfl rfl rfl), Q_HW, Q_HB⟩
        refine steps_cons ?_ ?_
        · rintro b a w' ⟨ha, Q_HW, Q_HB⟩ hb_ hon hoff
          refine ⟨_, rfl, fun K hK => ?_⟩
          have e21 : a.tmps[21]? = some ((.slice (some a2) n c2)) := by rw [ha]; exact putSel_on (e := (4, 21, (.slice (some a2) n c2))) 4 rfl rfl (hon 4 (by kernel_rfl)) rfl
          have e22 : a.tmps[22]? = some ((.int .i64 (j : Int))) := by rw [ha]; exact putSel_on (e := (5, 22, (.int .i64 (j : Int)))) 5 rfl rfl (hon 5 (by kernel_rfl)) rfl
          replace ha := Aside0.mk ha
          have HW := Aside0.mk Q_HW
          have HB := Aside0.mk Q_HB
          refine value_ (w1 := w') (v := (.pointer (some P2))) (by rfl) rfl ?_ ?_
          · go_simp
            (try simp only [i64_w])
            try rfl
          refine hK.out _ _ ⟨(by rw [ha.out]; exact putSel_upk 6 hb_ rfl rfl rfl), Q_HW, Q_HB⟩
        refine steps_cons ?_ ?_
        · rintro b a w' ⟨ha, Q_HW, Q_HB⟩ hb_ hon hoff
          refine ⟨_, rfl, fun K hK => ?_⟩
          have e23 : a.tmps[23]? = some ((.pointer (some P2))) := by rw [ha]; exact putSel_on (e := (6, 23, (.pointer (some P2)))) 6 rfl rfl (hon 6 (by kernel_rfl)) rfl
          replace ha := Aside0.mk ha
          have HW := Aside0.mk Q_HW
          have HB := Aside0.mk Q_HB
          obtain ⟨_, ⟨x0_, x1_, x2_, x3_⟩⟩ := HX.out _ HW.out
          refine value_ (w1 := w') (v := (.agg #[.int .i64 p.e, .int .i64 p.s, .int .i64 p.a, .string p.d])) (by rfl) rfl ?_ ?_
          · go_simp
            (try simp only [i64_w])
            try rfl
          refine hK.out _ _ ⟨(by rw [ha.out]; exact putSel_upk 7 hb_ rfl rfl rfl), Q_HW, Q_HB⟩
        refine steps_cons ?_ ?_
        · rintro b a w' ⟨ha, Q_HW, Q_HB⟩ hb_ hon hoff
          refine ⟨_, rfl, fun K hK => ?_⟩
          have e20 : a.tmps[20]? = some ((.agg #[.int .i64 p.e, .int .i64 p.s, .int .i64 p.a, .string p.d])) := by rw [ha]; exact putSel_on (e := (3, 20, (.agg #[.int .i64 p.e, .int .i64 p.s, .int .i64 p.a, .string p.d]))) 3 rfl rfl (hon 3 (by kernel_rfl)) rfl
          have e24 : a.tmps[24]? = some ((.agg #[.int .i64 p.e, .int .i64 p.s, .int .i64 p.a, .string p.d])) := by rw [ha]; exact putSel_on (e := (7, 24, (.agg #[.int .i64 p.e, .int .i64 p.s, .int .i64 p.a, .string p.d]))) 7 rfl rfl (hon 7 (by kernel_rfl)) rfl
          replace ha := Aside0.mk ha
          have HW := Aside0.mk Q_HW
          have HB := Aside0.mk Q_HB
          refine value_ (w1 := w') (v := (.bool false)) (by rfl) rfl ?_ ?_
          · go_simp
            (try simp only [i64_w])
            try rfl
          refine hK.out _ _ ⟨(by rw [ha.out]; exact putSel_upk 8 hb_ rfl rfl rfl), Q_HW, Q_HB⟩
        exact steps_nil
      rintro b a we hall ⟨ha, Q_HW, Q_HB⟩
      clear HB HW
      have hb0_ := hall 0 (by kernel_rfl)
      have hb1_ := hall 1 (by kernel_rfl)
      have hb2_ := hall 2 (by kernel_rfl)
      have hb3_ := hall 3 (by kernel_rfl)
      have hb4_ := hall 4 (by kernel_rfl)
      have hb5_ := hall 5 (by kernel_rfl)
      have hb6_ := hall 6 (by kernel_rfl)
      have hb7_ := hall 7 (by kernel_rfl)
      have hb8_ := hall 8 (by kernel_rfl)
      subst ha
      simp only [putSel, hb0_, hb1_, hb2_, hb3_, hb4_, hb5_, hb6_, hb7_, hb8_, if_true, Act.put, List.setIfInBounds_toArray, List.set_cons_zero, List.set_cons_succ]
      have HW := Aside0.mk Q_HW
      clear Q_HW
      have HB := Aside0.mk Q_HB
      clear Q_HB
      clear hall hb0_ hb1_ hb2_ hb3_ hb4_ hb5_ hb6_ hb7_ hb8_
      go_wp2_with fail
      go_roundw
      case rel => exact ⟨j + 1, by have := HLT.out; omega, by go_num, HH.out.trans HW.out, HB.out⟩
      case measure => (have := HLT.out; simp [intOf]; omega)
    · have hlt' : ¬ ((j : Int) < (n : Int)) := by omega
      go_wp2_with fail
      go_ret
      exact ⟨rfl, HB.out⟩
theorem exec_pk {P : Program} (hP : P = Try.prog) {W : World} {f : Operand → Value} {o : Oper} {s x : Operand} (hop : o.op = Op.call { callee := Callee.builtin Builtin.append, args := #[s, x], argTypes := #[52, 52] })
    {B : Nat} (hB : B ≤ W.heap.size) {v : Value} {xs : List Pk} (hs : f s = v) (hx : W.ownsRow B 23 4 v xs.length (pkCells xs)) (r : Pk)
    (he : f x = .slice (some ⟨W.heap.size, 0, none⟩) 1 1) (hl : xs.length + 1 ≤ 1000000) :
    ∃ v' w', (execOp f o).run P (W.alloc (.cells #[.int .i64 r.e, .int .i64 r.s, .int .i64 r.a, .string r.d] 23)) = .ok (.value v') w' ∧ w'.ownsRow B 23 4 v' (xs ++ [r]).length (pkCells (xs ++ [r])) ∧ Below B W w' := by
  subst hP
  obtain ⟨i0, hi0, hz0, hz1, hz2⟩ := info_parts infoPk
  obtain ⟨tmp, ht⟩ : ∃ tmp : Obj, tmp = .cells #[.int .i64 r.e, .int .i64 r.s, .int .i64 r.a, .string r.d] 23 := ⟨_, rfl⟩
  have hxa := hx.alloc tmp
  have hnew := cells4_new W (.int .i64 r.e) (.int .i64 r.s) (.int .i64 r.a) (.string r.d) 23
  rw [← ht] at hnew ⊢
  obtain ⟨v', w', hrun, h1, h2, h3, h4⟩ := run_append_own_at (P := Try.prog) (w := W.alloc tmp) B 52 o.type 23 i0 _ 4 40 Try.underlying52 hi0 hz0 hz1 hz2 rfl (by decide) v xs.length (pkCells xs) hxa ⟨W.heap.size, 0, none⟩ 1 1 [.int .i64 r.e, .int .i64 r.s, .int .i64 r.a, .string r.d] rfl hnew (by simp [Value.oneCell']) (by unfold maxLen; omega) (by omega) (by simp; omega)
  refine ⟨v', w', ?_, ?_, ?_⟩
  · simp [execOp, hop, resolve, invoke, builtin, hs, he, hrun, Result.andThen]
  · rw [List.length_append, pkCells_snoc]; exact h1
  · refine ⟨h2.os, h2.tape, h2.output, by have := h2.size; simp at this; omega, fun k hk => (h2.block k (by simp; omega) (fun e => by have := (hx.lt k e.symm).1; omega)).trans (Own.heap_old W tmp k (by omega))⟩
theorem wpList_pk {ops : Array Oper} {rest : List Oper} {o : Oper} {a : Act} {W : World} {Q : Exit → Act → World → Prop} {s x : Operand} (hg : o.guard = none)
    (hop : o.op = Op.call { callee := Callee.builtin Builtin.append, args := #[s, x], argTypes := #[52, 52] })
    {B : Nat} (hB : B ≤ W.heap.size) {v : Value} {xs : List Pk} (hs : a.eval s = v) (hx : W.ownsRow B 23 4 v xs.length (pkCells xs)) (r : Pk) (he : a.eval x = .slice (some ⟨W.heap.size, 0, none⟩) 1 1) (hl : xs.length + 1 ≤ 1000000)
    (hK : ∀ v' w', w'.ownsRow B 23 4 v' (xs ++ [r]).length (pkCells (xs ++ [r])) → Below B W w' → wpList Try.prog ops Q rest (a.put o.dst v') w') :
    wpList Try.prog ops Q (o :: rest) a (W.alloc (.cells #[.int .i64 r.e, .int .i64 r.s, .int .i64 r.a, .string r.d] 23)) := by
  obtain ⟨v', w', hrun, h1, h2⟩ := exec_pk rfl (o := o) (f := a.eval) hop hB hs hx r he hl
  refine wpList_plain hg fun K hK' => ?_
  unfold Oper.wp
  rw [hrun]
  exact hK' _ _ (hK v' w' h1 h2)
/-- What the reference tells of all bytes that came. -/
def Sto (B : Nat) (v : Value) (wait lost : Int) (brk : Bool) (w : World) : Prop := w.heap[B]? = some (.cells #[v, .int .i64 wait, .int .i64 lost, .bool brk] 55 (0, 0))
theorem Sto.cells {B : Nat} {v : Value} {wait lost : Int} {brk : Bool} {w : World} (h : Sto B v wait lost brk w) : w.cell? ⟨B, 0, none⟩ = some v ∧ w.cell? ⟨B, 1, none⟩ = some (.int .i64 wait) ∧ w.cell? ⟨B, 2, none⟩ = some (.int .i64 lost) ∧ w.cell? ⟨B, 3, none⟩ = some (.bool brk) ∧ (∀ o, w.frozen? ⟨B, o, none⟩ = false) := by
  unfold Sto at h
  exact ⟨by rw [cell_of_row w _ 0 _ _ _ h]; rfl, by rw [cell_of_row w _ 1 _ _ _ h]; rfl, by rw [cell_of_row w _ 2 _ _ _ h]; rfl, by rw [cell_of_row w _ 3 _ _ _ h]; rfl, fun o => frozen_of_row w _ o _ _ h⟩
def lenV : Value → Nat
  | .slice _ n _ => n
  | _ => 0
def Sv (v : Value) (wait lost : Int) (brk : Bool) : Value := .agg #[v, .int .i64 wait, .int .i64 lost, .bool brk]
theorem res_state (tmps : Array Value) (W : World) (B : Nat) (v : Value) (wait lost : Int) (brk : Bool) (hv : ∃ A n c, v = .slice A n c) (hp : tmps.getD 2 undef = .pointer (some ⟨B, 0, none⟩)) (hB : Sto B v wait lost brk W) : (results Try.f30 tmps).run Try.prog W = .ok (Sv v wait lost brk) W := by
  have hp' : tmps[2]?.getD undef = .pointer (some ⟨B, 0, none⟩) := by simpa using hp
  obtain ⟨c0, c1, c2, c3, _⟩ := hB.cells
  obtain ⟨A, n, c, rfl⟩ := hv
  simp [results, Try.results30, hp', c0, c1, c2, c3, go_sem, Sv]
end Go.Proofs.Ytedfcjcnhgomoaa.WireS
end
-- MERGED YtedfcjcnhgomoaaWireT
section
/- The walk of the reference's Feed of packets. -/
namespace Go.Proofs.Ytedfcjcnhgomoaa.WireT
open Go.RowKit Go.Proofs.Ytedfcjcnhgomoaa.P Go.Proofs.YtedfcjcnhgomoaaW.PrintWords Go.Proofs.YtedfcjcnhgomoaaW.PrintLast Go.Proofs.YtedfcjcnhgomoaaW.PrintMore Go.Proofs.Ytedfcjcnhgomoaa.Own Go.Proofs.Ytedfcjcnhgomoaa.Vy Go.Proofs.Ytedfcjcnhgomoaa.FrameP Go.Proofs.Ytedfcjcnhgomoaa.FrameL Go.Proofs.Ytedfcjcnhgomoaa.VaryR Go.Proofs.Ytedfcjcnhgomoaa.FrameG Go.Proofs.Ytedfcjcnhgomoaa.WireP Go.Proofs.Ytedfcjcnhgomoaa.WireI Go.Proofs.Ytedfcjcnhgomoaa.WireF Go.Proofs.Ytedfcjcnhgomoaa.WireR Go.Proofs.Ytedfcjcnhgomoaa.WireS
set_option linter.unusedSimpArgs false
set_option linter.unusedVariables false

/-- What holds at a round's head. -/
structure Fr (B2 : Nat) (w : World) (A : Option Addr) (c : Nat) (b : List Int) (pre : List Pk) (lost : Nat) (v : Value) (W : World) : Prop where
  sl : Sl W (.slice A b.length c) b
  far : ∀ ad, A = some ad → 0 < b.length → ad.block < w.heap.size
  s3 : Sto (B2 + 1) v 0 (lost : Int) false W
  row : W.ownsRow (B2 + 2) 23 4 v pre.length (pkCells pre)
  s2 : Sto B2 (.slice none 0 0) 0 0 false W
  lo : Below w.heap.size w W
  size : B2 + 2 ≤ W.heap.size
  eq : B2 = w.heap.size
theorem Fr.below {B2 : Nat} {w : World} {A : Option Addr} {c : Nat} {b : List Int} {pre : List Pk} {lost : Nat} {v : Value} {W W' : World} (h : Fr B2 w A c b pre lost v W) (hb : Below W.heap.size W W') : Fr B2 w A c b pre lost v W' :=
  ⟨h.sl.below hb, h.far, (hb.block _ (by have := h.size; omega)).trans h.s3, ownsRow_below h.row hb, (hb.block _ (by have := h.size; omega)).trans h.s2, below_step h.lo hb, Nat.le_trans h.size hb.size, h.eq⟩
theorem Fr.cut {B2 : Nat} {w : World} {A : Option Addr} {c : Nat} {b : List Int} {pre : List Pk} {lost : Nat} {v : Value} {W : World} (h : Fr B2 w A c b pre lost v W) {k : Nat} (hk : k ≤ b.length) : Fr B2 w (if c = k then A else A.map (·.add (k * 1))) (c - k) (b.drop k) pre lost v W := by
  have hs := WireLives.Sl.drop h.sl k hk
  rw [show b.length - k = (b.drop k).length from (List.length_drop ..).symm] at hs
  refine ⟨hs, ?_, h.s3, h.row, h.s2, h.lo, h.size, h.eq⟩
  intro ad e hp
  rw [List.length_drop] at hp
  split at e
  · exact h.far ad e (by omega)
  · cases A with
    | none => cases e
    | some a =>
      have e' : a.add (k * 1) = ad := by simpa using e
      rw [← e']
      have := h.far a rfl (by omega)
      rwa [show (a.add (k * 1)).block = a.block by unfold Addr.add; split <;> rfl]
theorem Fr.append {B2 : Nat} {w : World} {A : Option Addr} {c : Nat} {b : List Int} {pre pre' : List Pk} {lost : Nat} {v v' : Value} {W W' : World} (h : Fr B2 w A c b pre lost v W) (hb : Below (B2 + 2) W W') (hr : W'.ownsRow (B2 + 2) 23 4 v' pre'.length (pkCells pre')) : Fr B2 w A c b pre' lost v' (W'.setCell ⟨B2 + 1, 0, none⟩ v') := by
  have h3 : Sto (B2 + 1) v 0 (lost : Int) false W' := (hb.block _ (by omega)).trans h.s3
  have hlo : Below w.heap.size w W' := h.lo.trans (hb.mono (by have := h.eq; omega))
  have hz : B2 + 2 ≤ W'.heap.size := Nat.le_trans h.size hb.size
  have hs1 : Sl W' (.slice A b.length c) b := sl_far h.sl h.far fun k hk => hb.block k (by have := h.eq; omega)
  refine ⟨?_, h.far, blk_put h3 0 _ rfl, hr.kept (grownBy_setCell' W' (B2 + 1) v') (.inr ?_), ?_, hlo.setCell (p := ⟨B2 + 1, 0, none⟩) (by have := h.eq; show w.heap.size ≤ B2 + 1; omega) _, by simpa using hz, h.eq⟩
  · exact sl_far hs1 h.far fun k hk => heap_setCell_other W' ⟨B2 + 1, 0, none⟩ k v' (by have := h.eq; show k ≠ B2 + 1; omega)
  · intro e; have := (hr.lt _ e).1; omega
  · exact (heap_setCell_other W' ⟨B2 + 1, 0, none⟩ B2 v' (by show B2 ≠ B2 + 1; omega)).trans ((hb.block _ (by omega)).trans h.s2)
theorem Fr.more {B2 : Nat} {w : World} {A : Option Addr} {c : Nat} {b : List Int} {pre : List Pk} {lost : Nat} {v : Value} {W : World} (h : Fr B2 w A c b pre lost v W) : Fr B2 w A c b pre (lost + 1) v (W.setCell ⟨B2 + 1, 2, none⟩ (.int .i64 ((lost : Int) + 1))) := by
  refine ⟨?_, h.far, blk_put h.s3 2 _ rfl, h.row.kept (But.setCell (B2 + 1) 2 W _) (.inr ?_), ?_, h.lo.setCell (p := ⟨B2 + 1, 2, none⟩) (by have := h.eq; show w.heap.size ≤ B2 + 1; omega) _, by simpa using h.size, h.eq⟩
  · exact sl_far h.sl h.far fun k hk => heap_setCell_other W ⟨B2 + 1, 2, none⟩ k _ (by have := h.eq; show k ≠ B2 + 1; omega)
  · intro e; have := (h.row.lt _ e).1; omega
  · exact (heap_setCell_other W ⟨B2 + 1, 2, none⟩ B2 _ (by show B2 ≠ B2 + 1; omega)).trans h.s2
theorem Fr.form {B2 : Nat} {w : World} {A : Option Addr} {c : Nat} {b : List Int} {pre : List Pk} {lost : Nat} {v : Value} {W : World} (h : Fr B2 w A c b pre lost v W) : ∃ A n c, v = .slice A n c := by
  rcases h.row.2 with ⟨rfl, _⟩ | ⟨g, cap, cur, rfl, _⟩
  · exact ⟨_, _, _, rfl⟩
  · exact ⟨_, _, _, rfl⟩
/-- The four stores of a state. -/
theorem sto_set {B : Nat} {v0 : Value} {wt lo : Int} {bk : Bool} {W : World} (h : Sto B v0 wt lo bk W) (v : Value) (wait lost : Int) (brk : Bool) : Sto B v wait lost brk ((((W.setCell ⟨B, 0, none⟩ v).setCell ⟨B, 1, none⟩ (.int .i64 wait)).setCell ⟨B, 2, none⟩ (.int .i64 lost)).setCell ⟨B, 3, none⟩ (.bool brk)) :=
  blk_put (blk_put (blk_put (blk_put h 0 v rfl) 1 _ rfl) 2 _ rfl) 3 _ rfl
theorem set4_keeps {B2 : Nat} {w W : World} {v : Value} {k : Nat} {xs : List Value} (hr : W.ownsRow (B2 + 2) 23 4 v k xs) (hb : Below w.heap.size w W) (he : B2 = w.heap.size) (a0 a1 a2 a3 : Value) : ((((W.setCell ⟨B2, 0, none⟩ a0).setCell ⟨B2, 1, none⟩ a1).setCell ⟨B2, 2, none⟩ a2).setCell ⟨B2, 3, none⟩ a3).ownsRow (B2 + 2) 23 4 v k xs ∧ Below w.heap.size w ((((W.setCell ⟨B2, 0, none⟩ a0).setCell ⟨B2, 1, none⟩ a1).setCell ⟨B2, 2, none⟩ a2).setCell ⟨B2, 3, none⟩ a3) :=
  ⟨hr.kept ((((But.setCell B2 0 W a0).trans (But.setCell B2 1 _ a1)).trans (But.setCell B2 2 _ a2)).trans (But.setCell B2 3 _ a3)) (.inr (fun e => by have := (hr.lt _ e).1; omega)), below_set4 hb (by omega) _ _ _ _⟩
theorem res_nil (b : List Int) : res [] b 0 = WireL.run b := by
  unfold res
  simp
def FeedPost (b0 : List Int) (w : World) (e : Ending) (w' : World) : Prop := ∃ v, e = .returned (Sv v (((WireL.run b0).2.1.length : Nat) : Int) (((WireL.run b0).2.2.1 : Nat) : Int) (WireL.run b0).2.2.2) ∧ Pks w' v (WireL.run b0).1 ∧ Below w.heap.size w w'
set_option maxHeartbeats 16000000 in
set_option maxRecDepth 100000 in
theorem feed_ref (u : Value) (b0 : List Int) (w : World) (hs : Sl w u b0) (hok : Byt.Ok b0) (hl : b0.length ≤ 4000) : Calls Try.prog 30 #[u] w (FeedPost b0 w) := by
  obtain ⟨A0, c0, rfl, hc0, hC0⟩ := hs
  have hs := Sl.mk hC0 hc0
  obtain ⟨B2, hB2⟩ : ∃ b, b = w.heap.size := ⟨_, rfl⟩
  obtain ⟨w1, hw1⟩ : ∃ w1, w1 = (w.alloc (.cells #[.slice none 0 0, .int .i64 0, .int .i64 0, .bool false] 55)).alloc (.cells #[.slice none 0 0, .int .i64 0, .int .i64 0, .bool false] 55) := ⟨_, rfl⟩
  have hb1 : Below w.heap.size w w1 := by rw [hw1]; exact below_alloc (below_alloc (Below.refl _ _) _) _
  have HZ1 := Aside0.mk (show w1.heap.size = B2 + 2 by rw [hw1, hB2]; simp)
  have HS2 := Aside0.mk (show Sto B2 (.slice none 0 0) 0 0 false w1 by
    unfold Sto
    rw [hw1, hB2, Own.heap_old _ _ _ (by simp)]; exact Own.heap_new _ _)
  have HS3 := Aside0.mk (show Sto (B2 + 1) (.slice none 0 0) 0 0 false w1 by
    unfold Sto
    rw [hw1, hB2]
    have := Own.heap_new (w.alloc (.cells #[.slice none 0 0, .int .i64 0, .int .i64 0, .bool false] 55)) (.cells #[.slice none 0 0, .int .i64 0, .int .i64 0, .bool false] 55)
    rwa [World.size_alloc] at this)
  have HFR0 := Aside0.mk (show Fr B2 w A0 c0 b0 [] 0 (.slice none 0 0) w1 from ⟨hs.below hb1, fun ad e hp => sl_lt hs ad e hp, HS3.out, World.ownsRow_nil _ _ _ _, HS2.out, hb1, by have := HZ1.out; omega, hB2⟩)
  have HOK := Aside0.mk hok
  have HW1 := Aside0.mk hw1
  have HBE := Aside0.mk hB2
  have HL := Aside0.mk hl
  clear hs hC0 hc0 hb1 hok hw1 hB2 hl HS2 HS3 HZ1
  go_enter Try.func30, Try.ntmps30
  go_wp2_with fail
  rw [← HBE.out, ← HW1.out]
  go_loopw [0] (fun bv wr => ∃ (A : Option Addr) (c : Nat) (b : List Int) (pre : List Pk) (lost : Nat) (v : Value), bv = .slice A b.length c ∧ Fr B2 w A c b pre lost v wr ∧ Byt.Ok b ∧ b.length ≤ 4000 ∧ lost + pre.length + b.length ≤ 4000 ∧ res pre b lost = res [] b0 0) (fun bv _ => lenV bv)
  case atStart => exact ⟨A0, c0, b0, [], 0, .slice none 0 0, rfl, HFR0.out, HOK.out, HL.out, by have := HL.out; simp; omega, rfl⟩
  case round =>
    obtain ⟨A, c, b, pre, lost, v, rfl, hfr, hok, hl, hlp, hres⟩ := hrel
    obtain ⟨p, k, er, hget⟩ : ∃ p k er, FrameL.get b = (p, k, er) := ⟨_, _, _, rfl⟩
    have HG := Aside0.mk (FrameR.rget_c _ b wr hfr.sl hok (by omega))
    rw [hget] at HG
    have hkl := get_le' hget
    have HOK1 := Aside0.mk hok
    have HL1 := Aside0.mk hl
    have HLP := Aside0.mk hlp
    have HRES := Aside0.mk hres
    have HFR := Aside0.mk hfr
    have HGET := Aside0.mk hget
    obtain ⟨Av, nv, cv, rfl⟩ := hfr.form
    obtain ⟨i0, hi0, _, hsz, _⟩ := info_parts info5
    have hcl := hfr.sl.toC.2.1
    obtain ⟨n, hn⟩ : ∃ n, n = b.length := ⟨_, rfl⟩
    have HN := Aside0.mk hn
    rw [← hn] at HG hkl hcl ⊢
    have hcut := cut_from (P := Try.prog) 25 5 .i64 Try.underlying25 hi0 1 hsz A n c (k : Int) (by omega) (by omega)
    rw [Int.toNat_natCast] at hcut
    obtain ⟨A2, hA2⟩ : ∃ A2, A2 = (if c = k then A else A.map (·.add (k * 1))) := ⟨_, rfl⟩
    rw [← hA2] at hcut
    have HA2 := Aside0.mk hA2
    have HKL := Aside0.mk hkl
    have hk63 : (k : Int) ≤ 4000 := by omega
    clear hfr hok hl hlp hres hget hn HOK HL HFR0 HW1 hkl hi0 hsz hcl hA2
    obtain ⟨pe, ps, pa, pd⟩ := p
    go_wp2_with fail
    refine HG.out.mono ?_
    unfold Pk.val
    rintro e w2 ⟨rfl, hb2⟩
    have HFR2 := Aside0.mk (HFR.out.below (hb2.mono (by simp)))
    clear hb2 HG HFR
    obtain ⟨w3, hw3⟩ : ∃ w3, w3 = w2.alloc (.cells #[.int .i64 pe, .int .i64 ps, .int .i64 pa, .string pd] 23) := ⟨_, rfl⟩
    have HFR3 := Aside0.mk (show Fr B2 w A c b pre lost (.slice Av nv cv) w3 by rw [hw3]; exact HFR2.out.below (below_alloc (Below.refl _ _) _))
    have HW3 := Aside0.mk hw3
    have q0 : w3.cell? ⟨w2.heap.size, 0, none⟩ = some (.int .i64 pe) := by rw [hw3, cell_of_row _ _ 0 _ _ _ (Own.heap_new _ _)]; rfl
    have q1 : w3.cell? ⟨w2.heap.size, 1, none⟩ = some (.int .i64 ps) := by rw [hw3, cell_of_row _ _ 1 _ _ _ (Own.heap_new _ _)]; rfl
    have q2 : w3.cell? ⟨w2.heap.size, 2, none⟩ = some (.int .i64 pa) := by rw [hw3, cell_of_row _ _ 2 _ _ _ (Own.heap_new _ _)]; rfl
    have q3 : w3.cell? ⟨w2.heap.size, 3, none⟩ = some (.string pd) := by rw [hw3, cell_of_row _ _ 3 _ _ _ (Own.heap_new _ _)]; rfl
    obtain ⟨c0, c1, c2, c3, fz⟩ := HFR3.out.s3.cells
    clear hw3
    by_cases he : er = 0
    · subst he
      go_wp2_with (first | rw [← HW3.out] | (at_builtin; refine wpList_pk rfl rfl (B := B2 + 2) (by have := HFR3.out.size; omega) rfl HFR3.out.row ⟨pe, ps, pa, pd⟩ rfl ?hl ?_))
      case hl => have := HLP.out; omega
      intro v' w4 hown hb4
      obtain ⟨Av', nv', cv', rfl⟩ : ∃ A n c, v' = .slice A n c := by
        rcases hown.2 with ⟨rfl, _⟩ | ⟨g, cap, cur, rfl, _⟩
        · exact ⟨_, _, _, rfl⟩
        · exact ⟨_, _, _, rfl⟩
      have HFR4 := Aside0.mk (HFR3.out.append (pre' := pre ++ [⟨pe, ps, pa, pd⟩]) hb4 (by rw [List.length_append]; exact hown))
      obtain ⟨d0, d1, d2, d3, fz4⟩ := Sto.cells (B := B2 + 1) (w := w4) ((hb4.block _ (by omega)).trans HFR3.out.s3)
      have fz40 := fz4 0
      clear hown hb4 c0 c1 c2 c3 q0 q1 q2 q3 fz fz4 HFR3 HW3
      go_wp2_with fail
      go_roundw
      case rel => exact ⟨A2, c - k, b.drop k, pre ++ [⟨pe, ps, pa, pd⟩], lost, _, by rw [List.length_drop, ← HN.out], by have := HFR4.out.cut (k := k) (by have := HKL.out; have := HN.out; omega); rwa [← HA2.out] at this, Byt.ok_drop HOK1.out _, by have := HL1.out; rw [List.length_drop]; omega, by have := HLP.out; have := get_pos HGET.out; have := HKL.out; have := HN.out; rw [List.length_drop, List.length_append]; simp; omega, (res_ok HGET.out (get_pos HGET.out)).trans HRES.out⟩
      case measure => (have := get_pos HGET.out; have := HKL.out; simp [lenV]; omega)
    · have he' : (er == 0) = false := by simpa using he
      have HE := Aside0.mk he
      clear q0 q1 q2 q3
      by_cases hk : 0 < k
      · have hk' : 0 < (k : Int) := by omega
        have HKP := Aside0.mk hk
        have fz2 := fz 2
        have hlb : (lost : Int) ≤ 4000 := by have := HLP.out; omega
        go_wp2_with (rw [← HW3.out])
        go_roundw
        case rel => exact ⟨A2, c - k, b.drop k, pre, lost + 1, _, by rw [List.length_drop, ← HN.out], by have := HFR3.out.more.cut (k := k) (by have := HKL.out; have := HN.out; omega); rwa [← HA2.out] at this, Byt.ok_drop HOK1.out _, by have := HL1.out; rw [List.length_drop]; omega, by have := HLP.out; have := HKP.out; have := HKL.out; have := HN.out; rw [List.length_drop]; omega, (res_lost HGET.out HKP.out HE.out).trans HRES.out⟩
        case measure => (have := HKP.out; have := HKL.out; simp [lenV]; omega)
      · obtain rfl : k = 0 := by omega
        obtain ⟨j, hj⟩ : ∃ j, j = (numL b).2 := ⟨_, rfl⟩
        obtain ⟨x, hx⟩ : ∃ x, x = (numL b).1 := ⟨_, rfl⟩
        have HNUM := Aside0.mk (VaryRef.nNum _ b w3 HFR3.out.sl HOK1.out)
        rw [← hj, ← hx, ← HN.out] at HNUM
        have HEND := Aside0.mk (res_end (pre := pre) (lost := lost) HGET.out)
        have HED := Aside0.mk (show WireL.ends b = (decide (er = 11) || (decide (9 ≤ n) && decide (j = 0))) by unfold WireL.ends; rw [HGET.out, hj, HN.out])
        clear hj hx c0 c1 c2 c3 fz hcut hk
        go_wp2_with (first | rw [← HW3.out])
        refine HNUM.out.mono ?_
        rintro e w4 ⟨rfl, n1, hw4⟩
        have HFR4 := Aside0.mk (show Fr B2 w A c b pre lost (.slice Av nv cv) w4 by rw [hw4]; exact HFR3.out.below (pw_below_drewN (Below.refl _ _) n1))
        obtain ⟨c0, c1, c2, c3, fz⟩ := HFR4.out.s3.cells
        obtain ⟨d0, d1, d2, d3, gz⟩ := HFR4.out.s2.cells
        have fz3 := fz 3
        have fz1 := fz 1
        have gz0 := gz 0
        have gz1 := gz 1
        have gz2 := gz 2
        have gz3 := gz 3
        clear hw4 HNUM HFR3 HW3 fz gz HFR2
        cases hend : WireL.ends b with
        | true =>
          have hc : er = 11 ∨ (¬ er = 11 ∧ 9 ≤ n ∧ j = 0) := by
            have := HED.out
            rw [hend] at this
            by_cases h11 : er = 11
            · exact .inl h11
            · rw [decide_eq_false h11, Bool.false_or] at this
              have := this.symm
              rw [Bool.and_eq_true, decide_eq_true_eq, decide_eq_true_eq] at this
              exact .inr ⟨h11, this⟩
          obtain ⟨y, hy⟩ : ∃ y : Bool, y = true := ⟨_, rfl⟩
          obtain ⟨w5, hw5⟩ : ∃ w5, w5 = w4.setCell ⟨B2 + 1, 3, none⟩ (.bool true) := ⟨_, rfl⟩
          have HW5 := Aside0.mk hw5
          have h5 : Sto (B2 + 1) (.slice Av nv cv) 0 (lost : Int) true w5 := by rw [hw5]; exact blk_put HFR4.out.s3 3 _ rfl
          obtain ⟨e0, e1, e2, e3, _⟩ := h5.cells
          have h6 : Sto B2 (.slice none 0 0) 0 0 false w5 := by rw [hw5]; exact (heap_setCell_other w4 ⟨B2 + 1, 3, none⟩ B2 _ (by show B2 ≠ B2 + 1; omega)).trans HFR4.out.s2
          have H6 := Aside0.mk h6
          obtain ⟨k0, k1, k2, k3, hz⟩ := h6.cells
          have hz0 := hz 0
          have hz1 := hz 1
          have hz2 := hz 2
          have hz3 := hz 3
          have HROW := Aside0.mk (show w5.ownsRow (B2 + 2) 23 4 (.slice Av nv cv) pre.length (pkCells pre) by rw [hw5]; exact HFR4.out.row.kept (But.setCell (B2 + 1) 3 w4 _) (.inr (fun e => by have := (HFR4.out.row.lt _ e).1; omega)))
          have HLO := Aside0.mk (show Below w.heap.size w w5 by rw [hw5]; exact HFR4.out.lo.setCell (p := ⟨B2 + 1, 3, none⟩) (by have := HFR4.out.eq; show w.heap.size ≤ B2 + 1; omega) _)
          clear hw5 h5 h6 hz gz0 gz1 gz2 gz3 d0 d1 d2 d3 hy
          rcases hc with rfl | ⟨h11, h9, rfl⟩
          · go_wp2_with (first | rw [← HW5.out])
            refine bodyPost_ret (res_state _ _ B2 _ _ _ _ ⟨_, _, _, rfl⟩ rfl (sto_set H6.out _ _ _ _)) rfl ?_
            have hq := HEND.out
            rw [hend, if_pos rfl, HRES.out, res_nil] at hq
            obtain ⟨g1, g2⟩ := set4_keeps HROW.out HLO.out HBE.out (.slice Av nv cv) (.int .i64 0) (.int .i64 (lost : Int)) (.bool true)
            exact ⟨_, by rw [hq]; rfl, by rw [hq]; exact Pks.of_own g1, g2⟩
          · have h11' : (er == 11) = false := by simpa using h11
            have h9' : (9 : Int) ≤ (n : Int) := by omega
            go_wp2_with (first | rw [← HW5.out])
            refine bodyPost_ret (res_state _ _ B2 _ _ _ _ ⟨_, _, _, rfl⟩ rfl (sto_set H6.out _ _ _ _)) rfl ?_
            have hq := HEND.out
            rw [hend, if_pos rfl, HRES.out, res_nil] at hq
            obtain ⟨g1, g2⟩ := set4_keeps HROW.out HLO.out HBE.out (.slice Av nv cv) (.int .i64 0) (.int .i64 (lost : Int)) (.bool true)
            exact ⟨_, by rw [hq]; rfl, by rw [hq]; exact Pks.of_own g1, g2⟩
        | false =>
          have hc : ¬ er = 11 ∧ (¬ j = 0 ∨ ¬ 9 ≤ n) := by
            have := HED.out
            rw [hend] at this
            refine ⟨fun h => (by rw [decide_eq_true h] at this; cases this), ?_⟩
            by_cases hj : j = 0
            · refine .inr (fun h => ?_)
              rw [decide_eq_true hj, decide_eq_true h] at this
              simp at this
            · exact .inl hj
          obtain ⟨h11, hc⟩ := hc
          have h11' : (er == 11) = false := by simpa using h11
          obtain ⟨w5, hw5⟩ : ∃ w5, w5 = w4.setCell ⟨B2 + 1, 1, none⟩ (.int .i64 (n : Int)) := ⟨_, rfl⟩
          have HW5 := Aside0.mk hw5
          have h5 : Sto (B2 + 1) (.slice Av nv cv) (n : Int) (lost : Int) false w5 := by rw [hw5]; exact blk_put HFR4.out.s3 1 _ rfl
          obtain ⟨e0, e1, e2, e3, _⟩ := h5.cells
          have h6 : Sto B2 (.slice none 0 0) 0 0 false w5 := by rw [hw5]; exact (heap_setCell_other w4 ⟨B2 + 1, 1, none⟩ B2 _ (by show B2 ≠ B2 + 1; omega)).trans HFR4.out.s2
          have H6 := Aside0.mk h6
          obtain ⟨k0, k1, k2, k3, hz⟩ := h6.cells
          have hz0 := hz 0
          have hz1 := hz 1
          have hz2 := hz 2
          have hz3 := hz 3
          have HROW := Aside0.mk (show w5.ownsRow (B2 + 2) 23 4 (.slice Av nv cv) pre.length (pkCells pre) by rw [hw5]; exact HFR4.out.row.kept (But.setCell (B2 + 1) 1 w4 _) (.inr (fun e => by have := (HFR4.out.row.lt _ e).1; omega)))
          have HLO := Aside0.mk (show Below w.heap.size w w5 by rw [hw5]; exact HFR4.out.lo.setCell (p := ⟨B2 + 1, 1, none⟩) (by have := HFR4.out.eq; show w.heap.size ≤ B2 + 1; omega) _)
          clear hw5 h5 h6 hz gz0 gz1 gz2 gz3 d0 d1 d2 d3
          by_cases hj : j = 0
          · subst hj
            have h9 : ¬ (9 : Int) ≤ (n : Int) := by omega
            go_wp2_with (first | rw [← HW5.out])
            refine bodyPost_ret (res_state _ _ B2 _ _ _ _ ⟨_, _, _, rfl⟩ rfl (sto_set H6.out _ _ _ _)) rfl ?_
            have hq := HEND.out
            rw [hend, if_neg (by decide), HRES.out, res_nil] at hq
            obtain ⟨g1, g2⟩ := set4_keeps HROW.out HLO.out HBE.out (.slice Av nv cv) (.int .i64 (n : Int)) (.int .i64 (lost : Int)) (.bool false)
            exact ⟨_, by rw [hq, HN.out], by rw [hq]; exact Pks.of_own g1, g2⟩
          · have hj' : ((j : Int) == 0) = false := by simpa using hj
            go_wp2_with (first | rw [← HW5.out])
            refine bodyPost_ret (res_state _ _ B2 _ _ _ _ ⟨_, _, _, rfl⟩ rfl (sto_set H6.out _ _ _ _)) rfl ?_
            have hq := HEND.out
            rw [hend, if_neg (by decide), HRES.out, res_nil] at hq
            obtain ⟨g1, g2⟩ := set4_keeps HROW.out HLO.out HBE.out (.slice Av nv cv) (.int .i64 (n : Int)) (.int .i64 (lost : Int)) (.bool false)
            exact ⟨_, by rw [hq, HN.out], by rw [hq]; exact Pks.of_own g1, g2⟩
end Go.Proofs.Ytedfcjcnhgomoaa.WireT
end
-- MERGED YtedfcjcnhgomoaaWireU
section
/- What a stream keeps behind bytes in pieces; a piece more; packets behind packets. -/
namespace Go.Proofs.Ytedfcjcnhgomoaa.WireU
open Go.RowKit Go.Proofs.Ytedfcjcnhgomoaa.P Go.Proofs.YtedfcjcnhgomoaaW.PrintWords Go.Proofs.YtedfcjcnhgomoaaW.PrintLast Go.Proofs.YtedfcjcnhgomoaaW.PrintMore Go.Proofs.Ytedfcjcnhgomoaa.Own Go.Proofs.Ytedfcjcnhgomoaa.Vy Go.Proofs.Ytedfcjcnhgomoaa.FrameP Go.Proofs.Ytedfcjcnhgomoaa.FrameL Go.Proofs.Ytedfcjcnhgomoaa.VaryR Go.Proofs.Ytedfcjcnhgomoaa.FrameG Go.Proofs.Ytedfcjcnhgomoaa.WireP Go.Proofs.Ytedfcjcnhgomoaa.WireI Go.Proofs.Ytedfcjcnhgomoaa.WireF Go.Proofs.Ytedfcjcnhgomoaa.WireR Go.Proofs.Ytedfcjcnhgomoaa.WireS Go.Proofs.Ytedfcjcnhgomoaa.WireT
set_option linter.unusedSimpArgs false
set_option linter.unusedVariables false

theorem run_suffix : ∀ (n : Nat) (a : List Int), a.length ≤ n → ∃ k, (WireL.run a).2.1 = a.drop k := by
  intro n
  induction n with
  | zero =>
    intro a hl
    obtain rfl : a = [] := List.eq_nil_of_length_eq_zero (by omega)
    exact ⟨0, by rw [WireLives.run_nil]; rfl⟩
  | succ n ih =>
    intro a hl
    by_cases h : 0 < (FrameL.get a).2.1
    · obtain ⟨k, hk⟩ := ih (a.drop (FrameL.get a).2.1) (by rw [List.length_drop]; omega)
      refine ⟨(FrameL.get a).2.1 + k, ?_⟩
      rw [WireQ.run_pos h]
      rw [List.drop_drop] at hk
      split <;> exact hk
    · rw [WireQ.run_end (by omega)]
      split
      · exact ⟨a.length, by simp⟩
      · exact ⟨0, rfl⟩
theorem run_count : ∀ (n : Nat) (a : List Int), a.length ≤ n → (WireL.run a).1.length + (WireL.run a).2.2.1 + (WireL.run a).2.1.length ≤ a.length := by
  intro n
  induction n with
  | zero =>
    intro a hl
    obtain rfl : a = [] := List.eq_nil_of_length_eq_zero (by omega)
    rw [WireLives.run_nil]; simp
  | succ n ih =>
    intro a hl
    by_cases h : 0 < (FrameL.get a).2.1
    · have hk := ih (a.drop (FrameL.get a).2.1) (by rw [List.length_drop]; omega)
      rw [List.length_drop] at hk
      have := WireL.get_le a
      rw [WireQ.run_pos h]
      split
      · simp only [List.length_cons]; omega
      · dsimp only; omega
    · rw [WireQ.run_end (by omega)]
      split <;> simp
theorem run_ok {a : List Int} (h : Byt.Ok a) : Byt.Ok (WireL.run a).2.1 := by
  obtain ⟨k, hk⟩ := run_suffix _ a (Nat.le_refl _)
  rw [hk]; exact Byt.ok_drop h k
theorem run_more {a b : List Int} (hb : Byt.Ok b) (ha : Byt.Ok a) (h : (WireL.run a).2.2.2 = false) : WireL.run (a ++ b) = ((WireL.run a).1 ++ (WireL.run ((WireL.run a).2.1 ++ b)).1, (WireL.run ((WireL.run a).2.1 ++ b)).2.1, (WireL.run a).2.2.1 + (WireL.run ((WireL.run a).2.1 ++ b)).2.2.1, (WireL.run ((WireL.run a).2.1 ++ b)).2.2.2) := by
  rw [WireQ.run_app b hb a.length a (Nat.le_refl _) ha, h]; rfl
theorem run_off {a b : List Int} (hb : Byt.Ok b) (ha : Byt.Ok a) (h : (WireL.run a).2.2.2 = true) : WireL.run (a ++ b) = WireL.run a := by
  have h0 := WireQ.run_app [] (fun x hx => by cases hx) a.length a (Nat.le_refl _) ha
  rw [List.append_nil, h, if_pos rfl] at h0
  rw [WireQ.run_app b hb a.length a (Nat.le_refl _) ha, h, if_pos rfl]
  exact h0.symm
theorem sl_keep {A : Option Addr} {n c : Nat} {l : List Int} {W W' : World} (h : Sl W (.slice A n c) l) (hk : ∀ ad, A = some ad → 0 < n → W'.heap[ad.block]? = W.heap[ad.block]?) : Sl W' (.slice A n c) l := by
  obtain ⟨rfl, hc, hC⟩ := h.toC
  refine ⟨A, c, rfl, hc, hC.1, hC.2.1, fun hp => ?_⟩
  obtain ⟨ad, e, hr⟩ := hC.2.2 hp
  refine ⟨ad, e, fun j p hj => ?_⟩
  obtain ⟨q, h1, h2, h3⟩ := hr j p hj
  refine ⟨q, h1, h2, fun i u hu => ?_⟩
  refine (World.cell?_of_block ?_).trans (h3 i u hu)
  have hb : ∀ m, (ad.add m).block = ad.block := fun m => by unfold Addr.add; split <;> rfl
  simp only [hb]
  exact hk ad e hp
/-- The stream behind the bytes bs; its packets' row is v. -/
def Sm (S : Nat) (r : List Pk × List Int × Nat × Bool) (v : Value) (W : World) : Prop := ∃ A c, Strm S (.slice A r.2.1.length c) (r.2.2.1 : Int) r.2.2.2 true W ∧ Sl W (.slice A r.2.1.length c) r.2.1 ∧ ∀ ad, A = some ad → 0 < r.2.1.length → v.ownBlock ≠ some ad.block
structure St (S : Nat) (w0 : World) (bs : List Int) (v : Value) (W : World) : Prop where
  strm : Sm S (WireL.run bs) v W
  row : W.ownsRow (S + 1) 23 4 v (WireL.run bs).1.length (pkCells (WireL.run bs).1)
  lo : Below S w0 W
  size : S + 1 ≤ W.heap.size
theorem St.below {S : Nat} {w0 W W' : World} {bs : List Int} {v : Value} (h : St S w0 bs v W) (hb : Below W.heap.size W W') : St S w0 bs v W' := by
  obtain ⟨A, c, h1, h2, h3⟩ := h.strm
  exact ⟨⟨A, c, h1.below hb, h2.below hb, h3⟩, ownsRow_below h.row hb, h.lo.trans (hb.mono (by have := h.size; omega)), Nat.le_trans h.size hb.size⟩
theorem feed_step (S : Nat) (w0 : World) (bs piece : List Int) (v u : Value) (W : World) (h : St S w0 bs v W) (hu : Sl W u piece) (ha : Byt.Ok bs) (hb : Byt.Ok piece) (hl : bs.length + piece.length ≤ 4000) : Calls Try.prog 29 #[.pointer (some ⟨S, 0, none⟩), u] W fun e W' => ∃ o pre, e = .returned o ∧ (WireL.run (bs ++ piece)).1 = (WireL.run bs).1 ++ pre ∧ W'.ownsRow W.heap.size 23 4 o pre.length (pkCells pre) ∧ Sm S (WireL.run (bs ++ piece)) v W' ∧ W'.ownsRow (S + 1) 23 4 v (WireL.run bs).1.length (pkCells (WireL.run bs).1) ∧ Below S w0 W' ∧ S + 1 ≤ W'.heap.size := by
  obtain ⟨A, c, h1, h2, h3⟩ := h.strm
  cases hk : (WireL.run bs).2.2.2 with
  | true =>
    rw [hk] at h1
    refine (WireN.feed_off S _ u _ _ _ W h1 (.inr rfl)).mono ?_
    rintro e W' ⟨rfl, hb'⟩
    have h' := h.below hb'
    refine ⟨_, [], rfl, by rw [run_off hb ha hk, List.append_nil], World.ownsRow_nil _ _ _ _, by rw [run_off hb ha hk]; exact h'.strm, h'.row, h'.lo, h'.size⟩
  | false =>
    rw [hk] at h1
    have hc := run_count _ bs (Nat.le_refl _)
    refine (feed_c S A c (WireL.run bs).2.1 piece (WireL.run bs).2.2.1 u W h1 h2 hu (run_ok ha) hb (by omega) (by omega)).mono ?_
    rintro e W' ⟨o, pre, rest', lost', brk, rfl, hres, hown, ⟨A', c', hst, hsl, hfar⟩, hbut⟩
    unfold res at hres
    rw [List.nil_append] at hres
    injection hres with e1 e2
    injection e2 with e2 e3
    injection e3 with e3 e4
    have hm := run_more hb ha hk
    rw [e1, e2, e3, e4] at hm
    have hS : S < W.heap.size := h1.lt
    have hvb : ∀ g, v.ownBlock = some g → g < W.heap.size := fun g hg => (h.row.lt g hg).2
    refine ⟨o, pre, rfl, by rw [hm], hown, ?_, ?_, ?_, Nat.le_trans h.size hbut.size⟩
    · rw [hm]
      exact ⟨A', c', hst, hsl, fun ad e hp hq => by have := hfar ad e hp; have := hvb _ hq; omega⟩
    · exact h.row.kept hbut (.inr (fun e => by have := (h.row.lt S e).1; omega))
    · exact h.lo.trans ⟨hbut.os, hbut.tape, hbut.output, hbut.size, fun k hk => hbut.block k (by omega) (fun e => by injection e; omega)⟩
theorem exec_all {P : Program} (hP : P = Try.prog) {W : World} {f : Operand → Value} {o : Oper} {s x : Operand} (hop : o.op = Op.call { callee := Callee.builtin Builtin.append, args := #[s, x], argTypes := #[52, 52] })
    {B B' : Nat} (hB : B ≤ W.heap.size) {v ov : Value} {l pre : List Pk} (hs : f s = v) (hx : f x = ov) (hv : W.ownsRow B 23 4 v l.length (pkCells l)) (ho : W.ownsRow B' 23 4 ov pre.length (pkCells pre)) (hl : l.length + pre.length ≤ 1000000) :
    ∃ v' w', (execOp f o).run P W = .ok (.value v') w' ∧ w'.ownsRow B 23 4 v' (l ++ pre).length (pkCells (l ++ pre)) ∧ W.grownBy w' v.ownBlock ∧ (v'.ownBlock = v.ownBlock ∨ v'.ownBlock = some W.heap.size) := by
  subst hP
  obtain ⟨i0, hi0, hz0, hz1, hz2⟩ := info_parts infoPk
  rcases ho.2 with ⟨rfl, h0⟩ | ⟨g, cap, cur, rfl, hg, hh, hn, hc, hz, ht⟩
  · obtain rfl : pre = [] := List.eq_nil_of_length_eq_zero h0
    obtain ⟨A, n, c, rfl, hnc⟩ : ∃ A n c, v = .slice A n c ∧ n ≤ c := by
      rcases hv.2 with ⟨rfl, _⟩ | ⟨g, cap, cur, rfl, _, _, hn, _⟩
      · exact ⟨_, _, _, rfl, Nat.le_refl _⟩
      · exact ⟨_, _, _, rfl, hn⟩
    have hrun := run_append_nothing (P := Try.prog) W 52 52 o.type 23 i0 Try.underlying52 hi0 A n c hnc _ (Src.ofNil _ Try.underlying52 0)
    refine ⟨.slice A n c, W, ?_, by rw [List.append_nil]; exact hv, ⟨rfl, rfl, rfl, Nat.le_refl _, fun _ _ _ => rfl⟩, .inl rfl⟩
    simp [execOp, hop, resolve, invoke, builtin, hs, hx, hrun, Result.andThen]
  · have hnews : ∀ j u, (pkCells pre)[j]? = some u → W.cell? ((⟨g, 0, none⟩ : Addr).add j) = some u := by
      intro j u hu
      have e : ((⟨g, 0, none⟩ : Addr).add j) = ⟨g, j, none⟩ := by simp [Addr.add]; exact fun h => h.symm
      rw [e, cell_of_row W g j _ _ _ hh]
      rw [← ht, List.getElem?_take] at hu
      split at hu
      · simpa using hu
      · cases hu
    obtain ⟨v', w', hrun, h1, h2, h3, h4⟩ := run_append_own_at (P := Try.prog) (w := W) B 52 o.type 23 i0 _ 4 40 Try.underlying52 hi0 hz0 hz1 hz2 rfl (by decide) v l.length (pkCells l) hv ⟨g, 0, none⟩ pre.length cap (pkCells pre) (pkCells_length pre) hnews (fun u hu => by
      unfold pkCells at hu
      rw [List.mem_flatMap] at hu
      obtain ⟨p, _, hp⟩ := hu
      simp at hp
      rcases hp with rfl | rfl | rfl | rfl <;> rfl) (by unfold maxLen; omega) (by omega) (by omega)
    refine ⟨v', w', ?_, ?_, h2, h4⟩
    · simp [execOp, hop, resolve, invoke, builtin, hs, hx, hrun, Result.andThen]
    · rw [List.length_append, show pkCells (l ++ pre) = pkCells l ++ pkCells pre by simp [pkCells]]; exact h1
theorem wpList_all {ops : Array Oper} {rest : List Oper} {o : Oper} {a : Act} {W w0 : World} {Q : Exit → Act → World → Prop} {s x : Operand} (hg : o.guard = none)
    (hop : o.op = Op.call { callee := Callee.builtin Builtin.append, args := #[s, x], argTypes := #[52, 52] })
    {S B' : Nat} {v ov : Value} {bs bt : List Int} {pre : List Pk} (hs : a.eval s = v) (hx : a.eval x = ov) (he : (WireL.run bt).1 = (WireL.run bs).1 ++ pre) (ho : W.ownsRow B' 23 4 ov pre.length (pkCells pre)) (hm : Sm S (WireL.run bt) v W) (hv : W.ownsRow (S + 1) 23 4 v (WireL.run bs).1.length (pkCells (WireL.run bs).1)) (hlo : Below S w0 W) (hz : S + 1 ≤ W.heap.size) (hl : (WireL.run bs).1.length + pre.length ≤ 1000000)
    (hK : ∀ v' w', St S w0 bt v' w' → wpList Try.prog ops Q rest (a.put o.dst v') w') :
    wpList Try.prog ops Q (o :: rest) a W := by
  obtain ⟨v', w', hrun, h1, h2, h3⟩ := exec_all rfl (o := o) (f := a.eval) hop hz hs hx hv ho hl
  refine wpList_plain hg fun K hK' => ?_
  unfold Oper.wp
  rw [hrun]
  refine hK' _ _ (hK v' w' ?_)
  obtain ⟨A, c, k1, k2, k3⟩ := hm
  have hne : v.ownBlock ≠ some S := fun e => by have := (hv.lt S e).1; omega
  refine ⟨⟨A, c, ?_, ?_, ?_⟩, by rw [he]; exact h1, ?_, Nat.le_trans hz h2.size⟩
  · exact (h2.block S (by omega) (fun e => hne e.symm)).trans k1
  · exact sl_keep k2 (fun ad e hp => h2.block _ (sl_lt k2 ad e hp) (fun e' => k3 ad e hp e'.symm))
  · intro ad e hp hq
    rcases h3 with h3 | h3
    · exact k3 ad e hp (h3.symm.trans hq)
    · have := sl_lt k2 ad e hp
      rw [h3] at hq
      injection hq with hq
      omega
  · exact hlo.trans ⟨h2.os, h2.tape, h2.output, h2.size, fun k hk => h2.block k (by omega) (fun e => by have := (hv.lt k e.symm).1; omega)⟩
theorem _root_.Go.Proofs.Ytedfcjcnhgomoaa.WireR.Pks.below {w w' : World} {v : Value} {l : List Pk} (h : Pks w v l) (hb : Below w.heap.size w w') : Pks w' v l := by
  obtain ⟨A, c, e, hp⟩ := h
  refine ⟨A, c, e, fun i p hi => ?_⟩
  obtain ⟨ad, e, h0, h1, h2, h3⟩ := hp i p hi
  have keep : ∀ (q : Addr) (u : Value), w.cell? q = some u → w'.cell? q = some u := fun q u h => (World.cell?_of_block (hb.block _ (World.block_lt_of_cell? w _ h))).trans h
  exact ⟨ad, e, keep _ _ h0, keep _ _ h1, keep _ _ h2, keep _ _ h3⟩
end Go.Proofs.Ytedfcjcnhgomoaa.WireU
end
